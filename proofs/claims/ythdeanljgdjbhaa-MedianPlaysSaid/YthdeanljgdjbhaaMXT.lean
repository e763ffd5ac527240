/- The middle one of some numbers. -/
import Derived.Test.YthdeanljgdjbhaaMX4
namespace Go.Proofs.Ythdeanljgdjbhaa.VC
open Go Go.Proofs

theorem srt_sorted (xs : List Int) : (srt xs).Pairwise fun x y => x ≤ y := by
  have := List.pairwise_mergeSort (le := fun x y : Int => decide (x ≤ y)) (fun a b c h1 h2 => by simp only [decide_eq_true_eq] at *; omega) (fun a b => by simp only [Bool.or_eq_true, decide_eq_true_eq]; omega) xs
  exact this.imp fun h => by simpa using h
theorem srt_perm (xs : List Int) : (srt xs).Perm xs := List.mergeSort_perm _ _
theorem sorted_get {s : List Int} (h : s.Pairwise fun x y => x ≤ y) {i j : Nat} (hij : i ≤ j) (hj : j < s.length) : s.getD i 0 ≤ s.getD j 0 := by
  rcases Nat.lt_or_ge i j with e | e
  · have := List.pairwise_iff_getElem.1 h i j (by omega) hj e
    simpa [List.getD, List.getElem?_eq_getElem (show i < s.length by omega), List.getElem?_eq_getElem hj] using this
  · obtain rfl : i = j := by omega
    exact Int.le_refl _
theorem cnt_take {s : List Int} {m : Nat} (hm : m ≤ s.length) {p : Int → Bool} (hp : ∀ i, i < m → p (s.getD i 0) = true) : m ≤ s.countP p := by
  have h1 : (s.take m).countP p = (s.take m).length := by
    rw [List.countP_eq_length]
    intro a ha
    obtain ⟨i, hi, rfl⟩ := List.mem_iff_getElem.1 ha
    rw [List.length_take] at hi
    have := hp i (by omega)
    simpa [List.getD, List.getElem?_eq_getElem (show i < s.length by omega)] using this
  have h2 : (s.take m).countP p ≤ s.countP p := (List.take_sublist m s).countP_le
  rw [h1, List.length_take] at h2
  omega
theorem cnt_drop {s : List Int} {m : Nat} {p : Int → Bool} (hp : ∀ i, m ≤ i → i < s.length → p (s.getD i 0) = true) : s.length - m ≤ s.countP p := by
  have h1 : (s.drop m).countP p = (s.drop m).length := by
    rw [List.countP_eq_length]
    intro a ha
    obtain ⟨i, hi, rfl⟩ := List.mem_iff_getElem.1 ha
    rw [List.length_drop] at hi
    have := hp (m + i) (by omega) (by omega)
    simpa [List.getD, List.getElem?_eq_getElem (show m + i < s.length by omega)] using this
  have h2 : (s.drop m).countP p ≤ s.countP p := (List.drop_sublist m s).countP_le
  rw [h1, List.length_drop] at h2
  omega
theorem mid_mem {ys : List Int} (h : 1 ≤ ys.length) : mid ys ∈ ys := by
  have hl : (ys.length - 1) / 2 < (srt ys).length := by rw [srt_len]; omega
  rw [← srt_mem, mid, midI_eq _ h, List.getD, List.getElem?_eq_getElem hl, Option.getD_some]
  exact List.getElem_mem hl
theorem mid_le {ys : List Int} (h : 1 ≤ ys.length) : ys.length ≤ 2 * nLe (mid ys) ys := by
  have hc : (srt ys).countP (fun y => decide (y ≤ mid ys)) = nLe (mid ys) ys := (srt_perm ys).countP_eq _
  have := cnt_take (s := srt ys) (m := (ys.length - 1) / 2 + 1) (p := fun y => decide (y ≤ mid ys)) (by rw [srt_len]; omega) fun i hi => by
    rw [mid, midI_eq _ h, decide_eq_true_eq]
    exact sorted_get (srt_sorted ys) (by omega) (by rw [srt_len]; omega)
  omega
theorem mid_ge {ys : List Int} (h : 1 ≤ ys.length) : ys.length ≤ 2 * nGe (mid ys) ys := by
  have hc : (srt ys).countP (fun y => decide (y ≥ mid ys)) = nGe (mid ys) ys := (srt_perm ys).countP_eq _
  have := cnt_drop (s := srt ys) (m := (ys.length - 1) / 2) (p := fun y => decide (y ≥ mid ys)) fun i hi hi2 => by
    rw [mid, midI_eq _ h, decide_eq_true_eq]
    exact sorted_get (srt_sorted ys) hi hi2
  rw [srt_len] at this
  omega
theorem mid_eq {ys : List Int} (h : 1 ≤ ys.length) : 1 ≤ nEq (mid ys) ys := by
  rw [nEq, Nat.one_le_iff_ne_zero, ← Nat.pos_iff_ne_zero, List.countP_pos_iff]
  exact ⟨_, mid_mem h, by simp⟩
/-- Of three numbers one far one does not move the middle one beyond the others. -/
theorem mid_three (a f b : Int) : min a b ≤ mid [a, f, b] ∧ mid [a, f, b] ≤ max a b := by
  have h1 := mid_le (ys := [a, f, b]) (by simp)
  have h2 := mid_ge (ys := [a, f, b]) (by simp)
  generalize mid [a, f, b] = v at *
  simp only [nLe, nGe, List.countP_cons, List.countP_nil, List.length_cons, List.length_nil, decide_eq_true_eq] at h1 h2
  constructor
  · by_cases c1 : a ≤ v <;> by_cases c2 : b ≤ v <;> by_cases c3 : f ≤ v <;> simp [c1, c2, c3] at h1 <;> omega
  · by_cases c1 : a ≥ v <;> by_cases c2 : b ≥ v <;> by_cases c3 : f ≥ v <;> simp [c1, c2, c3] at h2 <;> omega
end Go.Proofs.Ythdeanljgdjbhaa.VC
