/- PairPlays: rows of things, plain. -/
import Derived.Test.YtpidmcpnkfgcjaaP7
namespace Go.Proofs.Ytpidmcpnkfgcjaa.VC
open Go Go.Proofs

def th0 : Th := ⟨0, false, ms0, false, false⟩
def flat (ts : List Th) : List FV := ts.flatMap thF
theorem thF_len (t : Th) : (thF t).length = 10 := rfl
theorem flat_cons (t : Th) (ts : List Th) : flat (t :: ts) = thF t ++ flat ts := rfl
theorem flat_len : ∀ ts : List Th, (flat ts).length = ts.length * 10
  | [] => rfl
  | t :: ts => by rw [flat_cons, List.length_append, flat_len ts, thF_len, List.length_cons]; omega
theorem flat_get : ∀ {ts : List Th} {i j : Nat}, i < ts.length → j < 10 → (flat ts).getD (i * 10 + j) (.b false) = (thF (ts.getD i th0)).getD j (.b false)
  | [], i, j, h, _ => by cases h
  | t :: ts, 0, j, _, hj => by
    rw [flat_cons, Nat.zero_mul, Nat.zero_add, List.getD_eq_getElem?_getD, List.getElem?_append_left (by rw [thF_len]; exact hj), ← List.getD_eq_getElem?_getD]; rfl
  | t :: ts, i + 1, j, h, hj => by
    rw [flat_cons, show (i + 1) * 10 + j = 10 + (i * 10 + j) by omega, List.getD_eq_getElem?_getD, List.getElem?_append_right (by rw [thF_len]; omega), thF_len, show 10 + (i * 10 + j) - 10 = i * 10 + j by omega, ← List.getD_eq_getElem?_getD, flat_get (by simpa using h) hj]; rfl
theorem flat_set : ∀ {ts : List Th} {i j : Nat} {x : FV} {t : Th}, i < ts.length → j < 10 → (thF (ts.getD i th0)).set j x = thF t → (flat ts).set (i * 10 + j) x = flat (ts.set i t)
  | [], i, j, x, t, h, _, _ => by cases h
  | u :: ts, 0, j, x, t, _, hj, he => by
    rw [flat_cons, Nat.zero_mul, Nat.zero_add, List.set_append_left _ _ (by rw [thF_len]; exact hj)]
    have : (thF u).set j x = thF t := he
    rw [this]; rfl
  | u :: ts, i + 1, j, x, t, h, hj, he => by
    rw [flat_cons, show (i + 1) * 10 + j = 10 + (i * 10 + j) by omega, List.set_append_right _ _ (by rw [thF_len]; omega), thF_len, show 10 + (i * 10 + j) - 10 = i * 10 + j by omega, flat_set (ts := ts) (i := i) (t := t) (by simpa using h) hj he]; rfl
theorem flat_snoc (ts : List Th) (t : Th) : flat (ts ++ [t]) = flat ts ++ thF t := by
  unfold flat; rw [List.flatMap_append]; simp
/-- The last place below n where something holds. -/
def fdn (P : Th → Bool) (ts : List Th) : Nat → Option Nat
  | 0 => none
  | i + 1 => bif P (ts.getD i th0) then some i else fdn P ts i
theorem fdn_some {P : Th → Bool} {ts : List Th} : ∀ {n i : Nat}, fdn P ts n = some i → i < n ∧ P (ts.getD i th0) = true
  | 0, i, h => by cases h
  | n + 1, i, h => by
    unfold fdn at h
    cases hp : P (ts.getD n th0) with
    | true => rw [hp, cond_true] at h; cases h; exact ⟨Nat.lt_succ_self _, hp⟩
    | false => rw [hp, cond_false] at h; obtain ⟨a, b⟩ := fdn_some h; exact ⟨by omega, b⟩
abbrev pW (t : Th) : Bool := !t.e && t.m.n
abbrev pE (t : Th) : Bool := t.e
/-- Where the message that waits stands. -/
def waitO (ts : List Th) : Option Nat := match fdn pW ts ts.length with
  | none => none
  | some i => bif (ts.getD i th0).g then none else some i
def waitI (ts : List Th) : Int := match waitO ts with
  | none => -1
  | some i => (i : Int)
def lastI (ts : List Th) : Int := match fdn pE ts ts.length with
  | none => -1
  | some i => (i : Int)
/-- The edges' counters. -/
def edgs : List Th → List Int
  | [] => []
  | t :: ts => bif t.e then t.a :: edgs ts else edgs ts
theorem edgs_app : ∀ (a b : List Th), edgs (a ++ b) = edgs a ++ edgs b
  | [], b => rfl
  | t :: a, b => by
    have ih := edgs_app a b
    show (bif t.e then t.a :: edgs (a ++ b) else edgs (a ++ b)) = (bif t.e then t.a :: edgs a else edgs a) ++ edgs b
    rw [ih]
    cases t.e <;> rfl
end Go.Proofs.Ytpidmcpnkfgcjaa.VC
