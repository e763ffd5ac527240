/- The middle one by counting. -/
import Derived.Test.YthdeanljgdjbhaaMXT
namespace Go.Proofs.Ythdeanljgdjbhaa.VC
open Go Go.Proofs

def nLt (v : Int) (ys : List Int) : Nat := ys.countP fun y => decide (y < v)
theorem nLe_split (v : Int) (ys : List Int) : nLe v ys = nLt v ys + nEq v ys := by
  induction ys with
  | nil => rfl
  | cons y ys ih =>
    simp only [nLe, nLt, nEq, List.countP_cons, decide_eq_true_eq] at *
    rcases Int.lt_trichotomy y v with h | h | h
    · rw [if_pos (by omega), if_pos h, if_neg (by omega)]; omega
    · rw [if_pos (by omega), if_neg (by omega), if_pos h]; omega
    · rw [if_neg (by omega), if_neg (by omega), if_neg (by omega)]; omega
theorem nLt_ge (v : Int) (ys : List Int) : nLt v ys + nGe v ys = ys.length := by
  induction ys with
  | nil => rfl
  | cons y ys ih =>
    simp only [nLt, nGe, List.countP_cons, decide_eq_true_eq, List.length_cons] at *
    rcases (by omega : y < v ∨ y ≥ v) with h | h
    · rw [if_pos h, if_neg (by omega)]; omega
    · rw [if_neg (by omega), if_pos h]; omega
theorem mid_count {xs : List Int} (h : 1 ≤ xs.length) (x : Int) : (nLt x xs ≤ (xs.length - 1) / 2 ∧ (xs.length - 1) / 2 < nLt x xs + nEq x xs) ↔ x = mid xs := by
  have hs := srt_sorted xs
  have hl := srt_len xs
  have e1 : nLt x (srt xs) = nLt x xs := (srt_perm xs).countP_eq _
  have e2 : nLe x (srt xs) = nLe x xs := (srt_perm xs).countP_eq _
  have e3 : nGe x (srt xs) = nGe x xs := (srt_perm xs).countP_eq _
  have q1 := nLe_split x xs
  have q2 := nLt_ge x xs
  have hm : mid xs = (srt xs).getD ((xs.length - 1) / 2) 0 := by rw [mid, midI_eq _ h]
  rw [hm]
  constructor
  · rintro ⟨h1, h2⟩
    rcases Int.lt_trichotomy x ((srt xs).getD ((xs.length - 1) / 2) 0) with c | c | c
    · have := cnt_drop (s := srt xs) (m := (xs.length - 1) / 2) (p := fun y => decide (y > x)) fun i hi hi2 => by
        have := sorted_get hs hi hi2
        simp only [decide_eq_true_eq]; omega
      have q3 : nLe x (srt xs) + (srt xs).countP (fun y => decide (y > x)) = (srt xs).length := by
        generalize srt xs = s
        induction s with
        | nil => rfl
        | cons y s ih =>
          simp only [nLe, List.countP_cons, decide_eq_true_eq, List.length_cons] at *
          rcases (by omega : x < y ∨ x ≥ y) with h | h
          · rw [if_neg (by omega), if_pos h]; omega
          · rw [if_pos h, if_neg (by omega)]; omega
      omega
    · exact c
    · have := cnt_take (s := srt xs) (m := (xs.length - 1) / 2 + 1) (p := fun y => decide (y < x)) (by omega) fun i hi => by
        have := sorted_get hs (show i ≤ (xs.length - 1) / 2 by omega) (by omega)
        simp only [decide_eq_true_eq]; omega
      have : nLt x (srt xs) = (srt xs).countP fun y => decide (y < x) := rfl
      omega
  · rintro rfl
    have a1 := cnt_drop (s := srt xs) (m := (xs.length - 1) / 2) (p := fun y => decide (y ≥ (srt xs).getD ((xs.length - 1) / 2) 0)) fun i hi hi2 => by
      have := sorted_get hs hi hi2
      simp only [decide_eq_true_eq]; omega
    have a2 := cnt_take (s := srt xs) (m := (xs.length - 1) / 2 + 1) (p := fun y => decide (y ≤ (srt xs).getD ((xs.length - 1) / 2) 0)) (by omega) fun i hi => by
      have := sorted_get hs (show i ≤ (xs.length - 1) / 2 by omega) (by omega)
      simp only [decide_eq_true_eq]; omega
    have b1 : (srt xs).countP (fun y => decide (y ≥ (srt xs).getD ((xs.length - 1) / 2) 0)) = nGe ((srt xs).getD ((xs.length - 1) / 2) 0) (srt xs) := rfl
    have b2 : (srt xs).countP (fun y => decide (y ≤ (srt xs).getD ((xs.length - 1) / 2) 0)) = nLe ((srt xs).getD ((xs.length - 1) / 2) 0) (srt xs) := rfl
    omega
end Go.Proofs.Ythdeanljgdjbhaa.VC
