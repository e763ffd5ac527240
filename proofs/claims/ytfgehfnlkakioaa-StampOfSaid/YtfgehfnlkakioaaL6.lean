/- SatSums: the law holds. -/
import Derived.Test.YtfgehfnlkakioaaR12
namespace Go.Proofs.Ytfgehfnlkakioaa.VC
open Go Go.Proofs

theorem sgn_self (z : Int) : sgn (decide (z < 0)) z.natAbs = z := by
  unfold sgn
  by_cases h : z < 0
  · rw [decide_eq_true h, condT]; omega
  · rw [decide_eq_false h, condF]; omega
theorem small128 {v : Nat} (h : v < BB ^ 4) : normB (digits v).length (digits v) = true := normB_le h (by decide)
theorem len128 {v : Nat} (h : v < BB ^ 4) : (digits v).length.ble 400000 = true := ble_t (Nat.le_trans (digits_len_le h) (by decide))

theorem mul_abs {a b : Int} {k : Nat} (ha : a.natAbs ≤ k) (hb : b.natAbs ≤ k) : (a * b).natAbs ≤ k * k := by
  rw [Int.natAbs_mul]; exact Nat.mul_le_mul ha hb

theorem law6 {a b : Int} (ha : -9223372036854775808 ≤ a ∧ a ≤ 9223372036854775807) (hb : -9223372036854775808 ≤ b ∧ b ≤ 9223372036854775807) : fnK Try.prog S6 noL Try.f6 [w63 a, w63 b] [] = some (.ret (.bool true) []) := by
  have b4 : BB ^ 4 = 340282366920938463463374607431768211456 := rfl
  have hm := mul_abs (a := a) (b := b) (k := 9223372036854775808) (by omega) (by omega)
  have s1 := small128 (v := a.natAbs) (by rw [b4]; omega)
  have s2 := small128 (v := b.natAbs) (by rw [b4]; omega)
  have s3 := small128 (v := (a + b).natAbs) (by rw [b4]; omega)
  have s4 := small128 (v := (a - b).natAbs) (by rw [b4]; omega)
  have s5 := small128 (v := (a * b).natAbs) (by rw [b4]; omega)
  have l1 := len128 (v := a.natAbs) (by rw [b4]; omega)
  have l2 := len128 (v := b.natAbs) (by rw [b4]; omega)
  rw [cf6]
  simp only [numW_digits, sgn_self, s1, s2, s3, s4, s5, l1, l2, wordsB_norm s1, ble_t (Nat.le_refl _), Bool.and_self, condT, beq_self_eq_true, sgn_neg]
  rw [show hold (sizeI a) = hold (sgn false a.natAbs) from rfl, beq_self_eq_true, condT]

def F6 : FSpec := fun args h k => match args, h with
  | [.int .i64 _, .int .i64 _], [] => k (.bool true) []
  | _, _ => none
theorem ok6 : EntryOK Try.prog 6 F6 := by
  refine EntryOK.of_fn S6_ok follows_ok Try.func6 (by kernel_rfl) (by kernel_rfl) ?_
  intro args h k out hF
  unfold F6 at hF
  split at hF
  · exact ⟨_, _, hF, fun real => ⟨noL, noL_ok, law6 (i64r real 0 rfl) (i64r real 1 rfl)⟩⟩
  · cases hF
end Go.Proofs.Ytfgehfnlkakioaa.VC
