/- The document's numbers: Sub, Mul, Two, proved. -/
import Derived.Test.YtfgehfnlkakioaaR10
namespace Go.Proofs.Ytfgehfnlkakioaa.VC
open Go Go.Proofs

theorem normB_eq {n : Nat} {xs : List Int} (h : normB n xs = true) : (digits (numW n xs)).length = n := (normB_iff.1 h).2.1.symm
theorem normB_le {v k : Nat} (h : v < BB ^ k) (hk : k ≤ 1000000) : normB (digits v).length (digits v) = true := normB_digits (Nat.le_trans (digits_len_le h) hk)
theorem sgn_neg (t : Bool) (v : Nat) : sgn (!t && decide (0 < v)) v = -sgn t v := by
  unfold sgn
  rcases Nat.eq_zero_or_pos v with h | h
  · subst h; cases t <;> rfl
  · rw [decide_eq_true h]
    cases t <;> simp
theorem sgn_abs (t : Bool) (v : Nat) : (sgn t v).natAbs = v := by unfold sgn; cases t <;> simp only [condT, condF] <;> omega

theorem ok36 : EntryOK Try.prog 36 F36 := by
  refine EntryOK.of_fn S36_ok follows_ok Try.func36 (by kernel_rfl) (by kernel_rfl) ?_
  intro args h k out hF
  unfold F36 at hF
  split at hF
  · rename_i s n c t m d n1 xs m1 ys
    obtain ⟨hb, hF2⟩ := bif_t hF
    simp only [Bool.and_eq_true] at hb
    obtain ⟨⟨⟨⟨⟨hx, hy⟩, hn⟩, hm⟩, hn4⟩, hm4⟩ := hb
    refine ⟨_, _, hF2, fun real => ⟨noL, noL_ok, ?_⟩⟩
    rw [cf36, normB_eq hy, sgn_neg, ← Int.sub_eq_add_neg]
    simp only [wordsB_norm hy, hx, hy, hn, hm, Bool.and_self, condT]
    rw [show n.ble (OfNat.ofNat 400000) = true from hn4, show m.ble (OfNat.ofNat 400000) = true from hm4]
    simp only [Bool.and_self, condT]
  · cases hF

theorem half (b r : Nat) : b / 2 ^ r = 2 * (b / 2 ^ (r + 1)) + b / 2 ^ r % 2 := by
  rw [Nat.pow_succ, ← Nat.div_div_eq_div_mul]; omega

theorem loop32 {s t : Bool} {n c m d n1 m1 : Nat} {xs ys : List Int} (hx : normB n xs = true) (hy : normB m ys = true) (hn : n ≤ n1) (hm : m ≤ m1) (hb : n + m ≤ 1000000) {k : Exit → List Value → Heap → Out} :
    ∀ (r v : Nat), r ≤ 32 * m → v = numW n xs * (numW m ys / 2 ^ r) →
      loopN Try.prog S32 noL Try.f32.ntmps 2 (loopOf Try.f32 0) live32 (r + 1) [pt 2, pt 3, pt 4, dS 5 v, w63 ((r : Int) - 1)] [wb n1 xs, wb m1 ys, bx s 0 n c, bx t 1 m d, nb false, db v] k =
      k (.exit 0) [pt 2, pt 3, pt 4, dS 5 (numW n xs * numW m ys), w63 (-1)] [wb n1 xs, wb m1 ys, bx s 0 n c, bx t 1 m d, nb false, db (numW n xs * numW m ys)] := by
  intro r
  have h1 := numW_lt hx
  have h2 := numW_lt hy
  have hab : numW n xs * numW m ys < BB ^ (n + m) := by
    rw [Nat.pow_add]
    exact Nat.lt_of_le_of_lt (Nat.mul_le_mul_right _ (Nat.le_of_lt h1)) (Nat.mul_lt_mul_of_pos_left h2 (Nat.pow_pos (by decide)))
  have small : ∀ {u r : Nat}, u ≤ numW n xs * (numW m ys / 2 ^ r) → normB (digits u).length (digits u) = true := fun {u r} h =>
    normB_le (Nat.lt_of_le_of_lt (Nat.le_trans h (Nat.mul_le_mul_left _ (Nat.div_le_self _ _))) hab) hb
  induction r with
  | zero =>
    intro v _ hv
    rw [Nat.pow_zero, Nat.div_one] at hv
    subst hv
    rw [loopN_succ, cf32r, dec_f (by omega), condF]
    rfl
  | succ r ih =>
    intro v hr hv
    have hh := half (numW m ys) r
    have m0 := (normB_iff.1 hy).2.2
    have hn1 := ble_t hn
    have hqb : numW m ys / 2 ^ r ≤ numW m ys := Nat.div_le_self _ _
    rw [loopN_succ, cf32r, show ((r + 1 : Nat) : Int) - 1 = (r : Int) by omega, Int.toNat_natCast, dec_t (show (r : Int) ≥ 0 by omega), numW_digits, numW_digits, small (r := r + 1) (Nat.le_of_eq hv), hy, ble_t hm, ble_t (Nat.le_refl (digits v).length), hx, hn1, ble_t (Nat.le_refl (digits (2 * v)).length)]
    simp only [Bool.and_self, condT]
    rw [swrap (x := (r : Int) - 1) (by omega) (by omega)]
    generalize hq : numW m ys / 2 ^ r = q at *
    generalize hq1 : numW m ys / 2 ^ (r + 1) = q1 at *
    have e0 : numW n xs * q = 2 * v + numW n xs * (q % 2) := by
      rw [hv]
      conv => lhs; rw [hh]
      rw [Nat.mul_add, Nat.mul_left_comm]
    have e1 : numW n xs * q ≤ numW n xs * numW m ys := Nat.mul_le_mul_left _ hqb
    have e3 : normB (digits (2 * v)).length (digits (2 * v)) = true := normB_le (by omega) hb
    by_cases hbit : q % 2 = 1
    · rw [dec_t hbit, condT, e3]
      simp only [Bool.and_self, condT]
      rw [hbit, Nat.mul_one] at e0
      rw [← e0]
      exact ih _ (by omega) rfl
    · rw [dec_f hbit, condF]
      rw [show q % 2 = 0 by omega, Nat.mul_zero, Nat.add_zero] at e0
      rw [← e0]
      exact ih _ (by omega) rfl
theorem loopOK32 : LoopOK Try.prog Try.f32.ntmps 2 (loopOf Try.f32 0) live32 L32f := by
  refine LoopOK.of_rounds_weak S32_ok follows_ok (L := noL) noL_ok ?_
  intro vs h k out hk
  unfold L32f at hk
  split at hk
  · rename_i p n1 xs m1 ys s n c t m d
    obtain ⟨hb, hk2⟩ := bif_t hk
    simp only [Bool.and_eq_true, beq_iff_eq] at hb
    obtain ⟨⟨⟨⟨⟨⟨hx, hy⟩, hn⟩, hm⟩, hn4⟩, hm4⟩, hp⟩ := hb
    have hn4 := ble_true hn4
    have hm4 := ble_true hm4
    have h2 := numW_lt hy
    have hp2 : p = ((32 * m : Nat) : Int) - 1 := by rw [hp, swrap (x := 32 * (m : Int)) (by omega) (by omega), swrap (by omega) (by omega)]; omega
    subst hp2
    refine ⟨_, _, _, hk2, fun _ => ⟨_, _, WeakS.nilS (k := .u64) (es := 1) (own := true) (by decide) (.same _ (.same _ (.same _ (.none 5 1 (.same _ .nil))))), 32 * m + 1, _, _, ?_, WeakS.refl _ _⟩⟩
    have e : numW n xs * (numW m ys / 2 ^ (32 * m)) = 0 := by
      rw [Nat.pow_mul, show (2 : Nat) ^ 32 = BB from rfl, Nat.div_eq_of_lt h2, Nat.mul_zero]
    exact loop32 hx hy (ble_true hn) (ble_true hm) (by omega) (c := c) (d := d) (s := s) (t := t) (k := fun e vs h => some (.at e (zipS live32 vs) h)) (32 * m) 0 (Nat.le_refl _) e.symm
  · cases hk
theorem loops32 : LoopsOK Try.prog L32 Try.f32.ntmps 2 (bodyOf Try.f32) := loops_one rfl (by kernel_rfl) loopOK32

theorem sgn_mul (s t : Bool) (a b : Nat) : (sgn s a * sgn t b).natAbs = a * b := by rw [Int.natAbs_mul, sgn_abs, sgn_abs]
theorem sgn_mul_neg (s t : Bool) (a b : Nat) : decide (sgn s a * sgn t b < 0) = (!s == t && decide (0 < a * b)) := by
  have e : ((a * b : Nat) : Int) = (a : Int) * (b : Int) := Int.natCast_mul a b
  cases s <;> cases t <;> simp only [sgn, condT, condF, Int.neg_mul, Int.mul_neg, Int.neg_neg, ← e]
  · exact decide_eq_false (by omega)
  · rw [show (!false == true) = true from rfl, Bool.true_and]; exact decide_eq_decide.2 (by omega)
  · rw [show (!true == false) = true from rfl, Bool.true_and]; exact decide_eq_decide.2 (by omega)
  · exact decide_eq_false (by omega)

theorem ok32 : EntryOK Try.prog 32 F32 := by
  refine EntryOK.of_fn S32_ok follows_ok Try.func32 (by kernel_rfl) (by kernel_rfl) ?_
  intro args h k out hF
  unfold F32 at hF
  split at hF
  · rename_i s n c t m d n1 xs m1 ys
    obtain ⟨hb, hF2⟩ := bif_t hF
    simp only [Bool.and_eq_true] at hb
    obtain ⟨⟨⟨⟨⟨hx, hy⟩, hn⟩, hm⟩, hn4⟩, hm4⟩ := hb
    refine ⟨_, _, hF2, fun real => ⟨L32, loops32, ?_⟩⟩
    have h1 := numW_lt hx
    have h2 := numW_lt hy
    have hab : numW n xs * numW m ys < BB ^ (n + m) := by
      rw [Nat.pow_add]
      exact Nat.lt_of_le_of_lt (Nat.mul_le_mul_right _ (Nat.le_of_lt h1)) (Nat.mul_lt_mul_of_pos_left h2 (Nat.pow_pos (by decide)))
    have w1 := wordsB_norm (normB_le hab (by have := ble_true hn4; have := ble_true hm4; omega))
    rw [cf32, show n.ble (OfNat.ofNat 400000) = true from hn4, show m.ble (OfNat.ofNat 400000) = true from hm4, beq_self_eq_true, hx, hy, hn, hm, w1, ble_t (Nat.le_refl _), numW_digits]
    simp only [Bool.and_self, condT]
    exact retEq (zV_eq (sgn_mul_neg s t _ _) (sgn_mul s t _ _)) (by rw [← zB_eq (sgn_mul s t _ _)])
  · cases hF
end Go.Proofs.Ytfgehfnlkakioaa.VC
