/- SatOver, SatShifts: the laws hold. -/
import Derived.Test.YtfgehfnlkakioaaR15
namespace Go.Proofs.Ytfgehfnlkakioaa.VC
open Go Go.Proofs

theorem law3 {a b d : Int} : fnK Try.prog S3 noL Try.f3 [w63 a, w63 b, w63 d] [] = some (.ret (.bool true) []) := by
  rw [cf3]
  simp only [condT, condF, beq_self_eq_true]

theorem pow_ge {k m : Nat} (h : m ≤ k) : ∃ P : Nat, (2 : Int) ^ k = (P : Int) ∧ 2 ^ m ≤ P ∧ P = 2 ^ k := ⟨2 ^ k, by rw [Int.natCast_pow]; rfl, Nat.pow_le_pow_right (by decide) h, rfl⟩

theorem big_hold (a : Int) {k : Nat} (hk : 64 ≤ k) : hold (a * 2 ^ k) = if a < 0 then -9223372036854775808 else if a = 0 then 0 else 9223372036854775807 := by
  obtain ⟨P, e, hP, _⟩ := pow_ge hk
  rw [e]
  have hP : 18446744073709551616 ≤ P := hP
  unfold hold
  by_cases h : a < 0
  · have : a * (P : Int) ≤ -1 * (P : Int) := Int.mul_le_mul_of_nonneg_right (by omega) (by omega)
    rw [if_pos h, if_pos (by omega)]
  · rw [if_neg h]
    by_cases h2 : a = 0
    · subst h2; rw [Int.zero_mul]; rfl
    · have : 1 * (P : Int) ≤ a * (P : Int) := Int.mul_le_mul_of_nonneg_right (by omega) (by omega)
      rw [if_neg h2, if_neg (by omega), if_pos (by omega)]

theorem big_shr {a : Int} (ha : -9223372036854775808 ≤ a ∧ a ≤ 9223372036854775807) {k : Nat} (hk : 63 ≤ k) : a / 2 ^ k = if a < 0 then -1 else 0 := by
  obtain ⟨P, e, hP, _⟩ := pow_ge hk
  rw [e]
  have hP : 9223372036854775808 ≤ P := hP
  by_cases h : a < 0
  · rw [if_pos h, show a = (a + P) + (P : Int) * (-1) by omega, Int.add_mul_ediv_left _ _ (by omega), Int.ediv_eq_zero_of_lt (by omega) (by omega)]; rfl
  · rw [if_neg h, Int.ediv_eq_zero_of_lt (by omega) (by omega)]

theorem law5 {a n l m : Int} (ha : -9223372036854775808 ≤ a ∧ a ≤ 9223372036854775807) (hn : 0 ≤ n ∧ n ≤ 18446744073709551615) : fnK Try.prog S5 noL Try.f5 [w63 a, w64 n, w63 l, w63 m] [] = some (.ret (.bool true) []) := by
  have hN : ∃ N : Nat, (if 200 < n then 200 else n) = (N : Int) ∧ N = min n.toNat 200 := by
    by_cases h : 200 < n
    · exact ⟨200, by rw [if_pos h]; rfl, by omega⟩
    · exact ⟨n.toNat, by rw [if_neg h]; omega, by omega⟩
  obtain ⟨N, e, eN⟩ := hN
  have hN200 : N ≤ 200 := by omega
  have p8 : BB ^ 8 = 2 ^ 256 := by rw [show BB = 2 ^ 32 from rfl, ← Nat.pow_mul]
  have p4 : BB ^ 4 = 340282366920938463463374607431768211456 := rfl
  have pp : 2 ^ N < BB ^ 8 := by rw [p8]; exact Nat.pow_lt_pow_right (by decide) (by omega)
  have p0 : 0 < 2 ^ N := Nat.pow_pos (by decide)
  have small : ∀ {v : Nat}, v < BB ^ 12 → normB (digits v).length (digits v) = true := fun h => normB_le h (by decide)
  have len : ∀ {v : Nat}, v < BB ^ 12 → (digits v).length.ble 400000 = true := fun h => ble_t (Nat.le_trans (digits_len_le h) (by decide))
  have len9 : ∀ {v : Nat}, v < BB ^ 12 → (digits v).length.ble 399999 = true := fun h => ble_t (Nat.le_trans (digits_len_le h) (by decide))
  have p12 : BB ^ 12 = BB ^ 4 * BB ^ 8 := by rw [← Nat.pow_add]
  have a12 : a.natAbs < BB ^ 12 := Nat.lt_of_lt_of_le (show a.natAbs < BB ^ 4 by rw [p4]; omega) (Nat.pow_le_pow_right (by decide) (by decide))
  have n12 : 2 ^ N < BB ^ 12 := Nat.lt_of_lt_of_le pp (Nat.pow_le_pow_right (by decide) (by decide))
  have m12 : (a * sgn false (2 ^ N)).natAbs < BB ^ 12 := by
    rw [Int.natAbs_mul, sgn_abs, p12]
    exact Nat.lt_of_le_of_lt (Nat.mul_le_mul_right _ (show a.natAbs ≤ BB ^ 4 by rw [p4]; omega)) (Nat.mul_lt_mul_of_pos_left pp (Nat.pow_pos (by decide)))
  have d12 : (a / ((2 ^ N : Nat) : Int)).natAbs < BB ^ 12 := Nat.lt_of_le_of_lt (div_abs_le p0) a12
  rw [cf5]
  simp only [e, Int.toNat_natCast, numW_digits, sgn_self, small a12, small n12, small m12, small d12, len a12, len n12, len9 a12, len9 n12, ble_t (Nat.le_refl _), blt_t p0, dec_t (show (0 : Int) ≤ (N : Int) by omega), dec_t (show (N : Int) ≤ 1000 by omega), Bool.and_self, condT]
  have h1 : hold (a * 2 ^ n.toNat) = hold (a * sgn false (2 ^ N)) := by
    have e2 : sgn false (2 ^ N) = (2 : Int) ^ N := by unfold sgn; rw [condF, Int.natCast_pow]; rfl
    rw [e2]
    by_cases h : n.toNat ≤ 200
    · rw [show n.toNat = N by omega]
    · rw [big_hold a (show 64 ≤ n.toNat by omega), big_hold a (show 64 ≤ N by omega)]
  have h2 : a / 2 ^ (min n 63).toNat = hold (a / ((2 ^ N : Nat) : Int)) := by
    have e2 : ((2 ^ N : Nat) : Int) = (2 : Int) ^ N := by rw [Int.natCast_pow]; rfl
    rw [e2]
    by_cases h : N ≤ 63
    · rw [show (min n 63).toNat = N by omega, hold_id]
      have := div_abs_le (z := a) p0
      rw [e2] at this
      have hneg : a < 0 → a / (2 : Int) ^ N < 0 := fun h => Int.ediv_neg_of_neg_of_pos h (by rw [← e2]; omega)
      omega
    · rw [show (min n 63).toNat = 63 by omega, big_shr ha (Nat.le_refl 63), big_shr ha (show 63 ≤ N by omega)]
      split <;> rfl
  rw [h1, h2, bne_self_eq_false, bne_self_eq_false]
  simp only [condF]
  refine dc (fun c => ?_) (fun c => dc (fun c2 => ?_) (fun c2 => ?_))
  · rw [if_pos c, beq_self_eq_true, condT]
  · rw [if_neg c, if_pos c2, beq_self_eq_true, condT]
  · rw [if_neg c, if_neg c2, beq_self_eq_true, condT]

def F3 : FSpec := fun args h k => match args, h with
  | [.int .i64 _, .int .i64 _, .int .i64 _], [] => k (.bool true) []
  | _, _ => none
theorem ok3 : EntryOK Try.prog 3 F3 := by
  refine EntryOK.of_fn S3_ok follows_ok Try.func3 (by kernel_rfl) (by kernel_rfl) ?_
  intro args h k out hF
  unfold F3 at hF
  split at hF
  · exact ⟨_, _, hF, fun _ => ⟨noL, noL_ok, law3⟩⟩
  · cases hF
def F5 : FSpec := fun args h k => match args, h with
  | [.int .i64 _, .int .u64 _, .int .i64 _, .int .i64 _], [] => k (.bool true) []
  | _, _ => none
theorem ok5 : EntryOK Try.prog 5 F5 := by
  refine EntryOK.of_fn S5_ok follows_ok Try.func5 (by kernel_rfl) (by kernel_rfl) ?_
  intro args h k out hF
  unfold F5 at hF
  split at hF
  · exact ⟨_, _, hF, fun real => ⟨noL, noL_ok, law5 (i64r real 0 rfl) (u64r real 1 rfl)⟩⟩
  · cases hF
end Go.Proofs.Ytfgehfnlkakioaa.VC
