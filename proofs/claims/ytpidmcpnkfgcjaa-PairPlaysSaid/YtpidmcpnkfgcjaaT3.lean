/- PairPlays: laws of what came, plain. -/
import Derived.Test.YtpidmcpnkfgcjaaP13
namespace Go.Proofs.Ytpidmcpnkfgcjaa.VC
open Go Go.Proofs

theorem fdn_congr {P : Th → Bool} {ts ts' : List Th} : ∀ {n : Nat}, (∀ i, i < n → P (ts.getD i th0) = P (ts'.getD i th0)) → fdn P ts n = fdn P ts' n
  | 0, _ => rfl
  | n + 1, h => by
    unfold fdn
    rw [h n (Nat.lt_succ_self _), fdn_congr fun i hi => h i (by omega)]
theorem edgT_congr {ts ts' : List Th} : ∀ {n : Nat}, (∀ i, i < n → (ts.getD i th0).e = (ts'.getD i th0).e ∧ (ts.getD i th0).a = (ts'.getD i th0).a) → edgT ts n = edgT ts' n
  | 0, _ => rfl
  | n + 1, h => by
    unfold edgT
    rw [(h n (Nat.lt_succ_self _)).1, (h n (Nat.lt_succ_self _)).2, edgT_congr fun i hi => h i (by omega)]
theorem snoc_len {ts : List Th} {t : Th} : (ts ++ [t]).length = ts.length + 1 := by rw [List.length_append, List.length_singleton]
theorem fdn_snoc {P : Th → Bool} {ts : List Th} {t : Th} : fdn P (ts ++ [t]) (ts ++ [t]).length = bif P t then some ts.length else fdn P ts ts.length := by
  rw [snoc_len]
  show (bif P ((ts ++ [t]).getD ts.length th0) then some ts.length else fdn P (ts ++ [t]) ts.length) = _
  rw [snoc_last, fdn_congr (ts' := ts) fun i hi => by rw [snoc_get hi]]
theorem edgT_snoc {ts : List Th} {t : Th} : edgT (ts ++ [t]) (ts ++ [t]).length = bif t.e then edgT ts ts.length ++ [t.a] else edgT ts ts.length := by
  rw [snoc_len]
  show (bif ((ts ++ [t]).getD ts.length th0).e then edgT (ts ++ [t]) ts.length ++ [((ts ++ [t]).getD ts.length th0).a] else edgT (ts ++ [t]) ts.length) = _
  rw [snoc_last, edgT_congr (ts' := ts) fun i hi => by rw [snoc_get hi]; exact ⟨rfl, rfl⟩]
/-- A thing is marked. -/
theorem mark_get {ts : List Th} {t : Th} {j : Nat} (he : t.e = (ts.getD j th0).e) (ha : t.a = (ts.getD j th0).a) (hm : t.m = (ts.getD j th0).m) (i : Nat) :
    ((ts.set j t).getD i th0).e = (ts.getD i th0).e ∧ ((ts.set j t).getD i th0).a = (ts.getD i th0).a ∧ ((ts.set j t).getD i th0).m = (ts.getD i th0).m := by
  by_cases hi : j = i
  · subst hi
    by_cases hl : j < ts.length
    · rw [set_same hl]; exact ⟨he, ha, hm⟩
    · rw [List.set_eq_of_length_le (by omega)]; exact ⟨rfl, rfl, rfl⟩
  · rw [set_other hi]; exact ⟨rfl, rfl, rfl⟩
theorem edgT_mark {ts : List Th} {t : Th} {j : Nat} (he : t.e = (ts.getD j th0).e) (ha : t.a = (ts.getD j th0).a) (hm : t.m = (ts.getD j th0).m) : edgT (ts.set j t) (ts.set j t).length = edgT ts ts.length := by
  rw [List.length_set]
  exact edgT_congr fun i _ => ⟨(mark_get he ha hm i).1, (mark_get he ha hm i).2.1⟩
theorem fdnE_mark {ts : List Th} {t : Th} {j : Nat} (he : t.e = (ts.getD j th0).e) (ha : t.a = (ts.getD j th0).a) (hm : t.m = (ts.getD j th0).m) : fdn pE (ts.set j t) (ts.set j t).length = fdn pE ts ts.length := by
  rw [List.length_set]
  exact fdn_congr fun i _ => (mark_get he ha hm i).1
theorem fdnW_mark {ts : List Th} {t : Th} {j : Nat} (he : t.e = (ts.getD j th0).e) (ha : t.a = (ts.getD j th0).a) (hm : t.m = (ts.getD j th0).m) : fdn pW (ts.set j t) (ts.set j t).length = fdn pW ts ts.length := by
  rw [List.length_set]
  exact fdn_congr fun i _ => by unfold pW; rw [(mark_get he ha hm i).1, (mark_get he ha hm i).2.2]
theorem rise_mark {ts : List Th} {t : Th} {j : Nat} (he : t.e = (ts.getD j th0).e) (ha : t.a = (ts.getD j th0).a) (hm : t.m = (ts.getD j th0).m) (h : RiseT ts) : RiseT (ts.set j t) := by
  intro i k hik hk
  rw [List.length_set] at hk
  rw [(mark_get he ha hm i).2.1, (mark_get he ha hm k).2.1]
  exact h i k hik hk
theorem rise_snoc {ts : List Th} {t : Th} (h : RiseT ts) (hm : mayP ts t.a) : RiseT (ts ++ [t]) := by
  intro i k hik hk
  rw [snoc_len] at hk
  by_cases h1 : k = ts.length
  · subst h1
    rw [snoc_last]
    by_cases h2 : i = ts.length
    · subst h2; rw [snoc_last]; exact ⟨hm.1, Int.le_refl _⟩
    · rw [snoc_get (by omega)]; exact may_le h hm (by omega)
  · rw [snoc_get (by omega), snoc_get (by omega)]
    exact h i k hik (by omega)
theorem last_edge {ts : List Th} : ∀ {n : Nat}, (fdn pE ts n = none → edgT ts n = []) ∧ ∀ j, fdn pE ts n = some j → edgT ts n ≠ [] ∧ (edgT ts n).getD ((edgT ts n).length - 1) 0 = (ts.getD j th0).a
  | 0 => ⟨fun _ => rfl, fun j h => by cases h⟩
  | n + 1 => by
    have ih := last_edge (ts := ts) (n := n)
    unfold fdn edgT
    unfold pE at ih ⊢
    cases he : (ts.getD n th0).e with
    | false => simp only [cond_false]; exact ih
    | true =>
      simp only [cond_true]
      refine ⟨fun h => (by cases h), fun j h => ?_⟩
      cases h
      refine ⟨by simp, ?_⟩
      rw [List.length_append, List.length_singleton, Nat.add_sub_cancel, List.getD_eq_getElem?_getD, List.getElem?_append_right (Nat.le_refl _), Nat.sub_self]; rfl
end Go.Proofs.Ytpidmcpnkfgcjaa.VC
