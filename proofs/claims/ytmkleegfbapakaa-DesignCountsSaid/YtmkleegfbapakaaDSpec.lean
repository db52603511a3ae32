namespace Go.Proofs.Ytmkleegfbapakaa.D28

def rightB (J S N : Int) (bad : List (List Bool)) : Bool :=
  decide (1 ≤ J ∧ J ≤ 256 ∧ 1 ≤ S ∧ S ≤ J ∧ 0 ≤ N ∧ N ≤ S ∧ bad.length ≤ 4096) && bad.all fun r => decide ((r.length : Int) = J)

/-- Place i of a list fits. -/
def fitAt (J : Int) (b : List Bool) (l : List Int) (i : Nat) : Bool :=
  decide (0 ≤ l.getD i 0 ∧ l.getD i 0 < J ∧ (0 < i → l.getD (i - 1) 0 < l.getD i 0)) && !(b.getD (l.getD i 0).toNat true)
def fitB (J S : Int) (b : List Bool) (l : List Int) : Bool := decide ((l.length : Int) = S) && (List.range l.length).all (fitAt J b l)

/-- The error of Check. -/
def checkE (J S N : Int) (bad : List (List Bool)) (ps : List (List Int)) : Int :=
  if rightB J S N bad = false then 290
  else if ps.length ≠ bad.length then 280
  else if (List.range ps.length).all (fun i => fitB J S (bad.getD i []) (ps.getD i [])) then 0 else 280

def dLoad (ps : List (List Int)) (j : Int) : Nat := ps.countP fun l => decide (j ∈ l)
def dCommon (a b : List Int) : Nat := a.countP fun x => decide (x ∈ b)
/-- How many entries at positions k, k + m .. have the judge j. -/
def dCnt (ps : List (List Int)) (j : Int) (m k : Nat) : Nat := (List.range ps.length).countP fun i => decide (i % m = k) && decide (j ∈ ps.getD i [])
def dLo (n : Int) (xs : List Int) : Int := xs.foldl min n
def dHi (n : Int) (xs : List Int) : Int := xs.foldl max n
def dLoads (ps : List (List Int)) (J : Nat) : List Int := (List.range J).map fun (j : Nat) => (dLoad ps (j : Int) : Int)
def dCnts (ps : List (List Int)) (j : Int) (m : Nat) : List Int := (List.range m).map fun k => (dCnt ps j m k : Int)
def dSlot (ps : List (List Int)) (j : Int) (m : Nat) : Int := dHi 0 (dCnts ps j m) - dLo ps.length (dCnts ps j m)
def dCommons (ps : List (List Int)) : List Int := (List.range ps.length).flatMap fun i => (List.range i).map fun k => (dCommon (ps.getD i []) (ps.getD k []) : Int)
def dSlotMax (ps : List (List Int)) (J m : Nat) : Int := dHi 0 ((List.range J).map fun (j : Nat) => dSlot ps (j : Int) m)

def pairsI (n : Int) : Int := n * (n - 1) / 2
/-- Bound: Least, Most, Pair. -/
def bLeast (J S n : Int) : Int := n * S / J
def bMost (J S n : Int) : Int := n * S / J + (if 1 < n * S % J then 1 else n * S % J)
def bPair (J S n : Int) : Int := if 1 < n then (if (n * S % J * pairsI (n * S / J + 1) + (J - n * S % J) * pairsI (n * S / J)) / pairsI n < S then (n * S % J * pairsI (n * S / J + 1) + (J - n * S % J) * pairsI (n * S / J)) / pairsI n else S) else S

end Go.Proofs.Ytmkleegfbapakaa.D28
