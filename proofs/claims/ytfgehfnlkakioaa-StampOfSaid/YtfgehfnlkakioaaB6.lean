/- math/bits: Div64: the quotient. -/
import Derived.Test.YtfgehfnlkakioaaB5
namespace Go.Proofs.Ytfgehfnlkakioaa.VC
open Go Go.Proofs

/-- What a divisor's length tells. -/
theorem len_norm {y : Int} (h0 : 0 < y) (h1 : y < 18446744073709551616) : ∃ s : Nat, lenI y = 64 - s ∧ s ≤ 63 ∧ 9223372036854775808 ≤ y * 2 ^ s ∧ y * 2 ^ s < 18446744073709551616 := by
  obtain ⟨Y, rfl⟩ := Int.eq_ofNat_of_zero_le (show 0 ≤ y by omega)
  have hY : Y ≠ 0 := by omega
  have hL : Y.log2 < 64 := (Nat.log2_lt hY).2 (by omega)
  refine ⟨63 - Y.log2, ?_, by omega, ?_, ?_⟩
  · unfold lenI
    rw [if_neg (by omega), Int.toNat_natCast]
    omega
  · have h := Nat.mul_le_mul_right (2 ^ (63 - Y.log2)) (Nat.log2_self_le hY)
    rw [← Nat.pow_add, show Y.log2 + (63 - Y.log2) = 63 by omega] at h
    have : ((Y * 2 ^ (63 - Y.log2) : Nat) : Int) = (Y : Int) * 2 ^ (63 - Y.log2) := by simp
    rw [← this]
    omega
  · have h := Nat.mul_lt_mul_of_pos_right (Nat.lt_log2_self (n := Y)) (Nat.two_pow_pos (63 - Y.log2))
    rw [← Nat.pow_add, show Y.log2 + 1 + (63 - Y.log2) = 64 by omega] at h
    have : ((Y * 2 ^ (63 - Y.log2) : Nat) : Int) = (Y : Int) * 2 ^ (63 - Y.log2) := by simp
    rw [← this]
    omega

theorem or_add {h c : Int} {s : Nat} (h0 : 0 ≤ h) (c0 : 0 ≤ c) (h1 : h * 2 ^ s < 18446744073709551616) (c1 : c < 2 ^ s) (hs : s ≤ 63) : bits .or .u64 (h * 2 ^ s) c = h * 2 ^ s + c := by
  obtain ⟨H, rfl⟩ := Int.eq_ofNat_of_zero_le h0
  obtain ⟨C, rfl⟩ := Int.eq_ofNat_of_zero_le c0
  have e : ((H * 2 ^ s : Nat) : Int) = (H : Int) * 2 ^ s := by simp
  have e2 : ((2 ^ s : Nat) : Int) = (2 : Int) ^ s := by simp
  rw [← e] at h1 ⊢
  rw [← e2] at c1
  have hp : 2 ^ s ≤ 2 ^ 63 := Nat.pow_le_pow_right (by omega) hs
  rw [bits_or_u64_nat _ _ (by omega) (by omega), Nat.mul_comm H, ← Nat.two_pow_add_eq_or_of_lt (by omega)]
  simp

/-- A number moved up, in two words. -/
theorem moved {hi lo y : Int} {s : Nat} (hs : s ≤ 63) (y1 : y * 2 ^ s < 18446744073709551616) (h0 : 0 ≤ hi) (h1 : hi < y) (l0 : 0 ≤ lo) (l1 : lo < 18446744073709551616) :
    ∃ un ut : Int, bits .or .u64 (IntKind.u64.wrap (hi * 2 ^ s)) (lo.fdiv (2 ^ (64 - s))) = un ∧ IntKind.u64.wrap (lo * 2 ^ s) = ut ∧ (hi * 18446744073709551616 + lo) * 2 ^ s = un * 18446744073709551616 + ut ∧ 0 ≤ un ∧ un < y * 2 ^ s ∧ 0 ≤ ut ∧ ut < 18446744073709551616 := by
  have pp : (0 : Int) < 2 ^ s := Int.pow_pos (by omega)
  have pp2 : (0 : Int) < 2 ^ (64 - s) := Int.pow_pos (by omega)
  have e : (2 : Int) ^ (64 - s) * 2 ^ s = 18446744073709551616 := by
    rw [← Int.pow_add, show 64 - s + s = 64 by omega]
    rfl
  generalize hp2 : (2 : Int) ^ (64 - s) = p2 at *
  have hh : hi * 2 ^ s < y * 2 ^ s := Int.mul_lt_mul_of_pos_right h1 pp
  have hh0 : 0 ≤ hi * 2 ^ s := Int.mul_nonneg h0 (by omega)
  have c0 : 0 ≤ lo / p2 := Int.ediv_nonneg l0 (by omega)
  have c1 : lo / p2 < 2 ^ s := (Int.ediv_lt_iff_lt_mul pp2).2 (by rw [Int.mul_comm]; omega)
  have d0 := Int.emod_nonneg lo (b := p2) (by omega)
  have d1 := Int.emod_lt_of_pos lo pp2
  have dd := Int.mul_ediv_add_emod lo p2
  refine ⟨hi * 2 ^ s + lo / p2, (lo % p2) * 2 ^ s, ?_, ?_, ?_, by omega, ?_, Int.mul_nonneg d0 (by omega), ?_⟩
  · rw [wu64 hh0 (by omega), Int.fdiv_eq_ediv_of_nonneg _ (by omega)]
    exact or_add h0 c0 (by omega) c1 hs
  · have e3 : lo * 2 ^ s = (lo / p2) * 18446744073709551616 + (lo % p2) * 2 ^ s := by
      conv => lhs; rw [← dd]
      rw [Int.add_mul, Int.mul_comm p2, Int.mul_assoc, e]
    have d2 : (lo % p2) * 2 ^ s < p2 * 2 ^ s := Int.mul_lt_mul_of_pos_right d1 pp
    have d3 : 0 ≤ (lo % p2) * 2 ^ s := Int.mul_nonneg d0 (by omega)
    rw [wu64e, e3]
    generalize (lo % p2) * 2 ^ s = D at *
    omega
  · have e3 : lo * 2 ^ s = (lo / p2) * 18446744073709551616 + (lo % p2) * 2 ^ s := by
      conv => lhs; rw [← dd]
      rw [Int.add_mul, Int.mul_comm p2, Int.mul_assoc, e]
    rw [Int.add_mul, e3, Int.add_mul (hi * 2 ^ s), Int.mul_assoc hi, Int.mul_assoc hi, Int.mul_comm 18446744073709551616]
    omega
  · have : (hi + 1) * 2 ^ s ≤ y * 2 ^ s := Int.mul_le_mul_of_nonneg_right (by omega) (by omega)
    rw [Int.add_mul] at this
    omega
  · have d2 : (lo % p2) * 2 ^ s < p2 * 2 ^ s := Int.mul_lt_mul_of_pos_right d1 pp
    omega

theorem KOK.mk' {v1 v0 un a : Int} (h1 : 2147483648 ≤ v1) (h2 : v1 < 4294967296) (h3 : 0 ≤ v0) (h4 : v0 < 4294967296) (h5 : 0 ≤ a) (h6 : a < 4294967296) (h7 : 0 ≤ un) (h8 : un < v1 * 4294967296 + v0) :
    KOK v1 v0 un a (IntKind.u64.wrap (un.tdiv v1)) (IntKind.u64.wrap (un - IntKind.u64.wrap (IntKind.u64.wrap (un.tdiv v1) * v1))) := by
  have k : KOK v1 v0 un a (un / v1) (un - un / v1 * v1) := ⟨h1, h2, h3, h4, h5, h6, h7, h8, rfl, rfl⟩
  obtain ⟨q0, q1, r0, r1, hu⟩ := k.qb
  have e1 : IntKind.u64.wrap (un.tdiv v1) = un / v1 := by
    rw [Int.tdiv_eq_ediv_of_nonneg h7]
    exact wu64 q0 (by omega)
  rw [e1]
  generalize hp : un / v1 * v1 = p at *
  rw [wu64 (x := p) (by rw [← hp]; exact Int.mul_nonneg q0 (by omega)) (by omega), wu64 (by omega) (by omega)]
  exact k

/-- One digit. -/
theorem KOK.rest {v1 v0 un a q r : Int} (h : KOK v1 v0 un a q r) : ∃ rr : Int, IntKind.u64.wrap (IntKind.u64.wrap (IntKind.u64.wrap (un * 4294967296) + a) - IntKind.u64.wrap (kq v1 v0 un a * (v1 * 4294967296 + v0))) = rr ∧
    0 ≤ rr ∧ rr < v1 * 4294967296 + v0 ∧ un * 4294967296 + a = kq v1 v0 un a * (v1 * 4294967296 + v0) + rr := by
  have hv : 0 < v1 * 4294967296 + v0 := by have := h.v1a; have := h.v0a; omega
  have a1 := Int.emod_nonneg (un * 4294967296 + a) (b := v1 * 4294967296 + v0) (by omega)
  have a2 := Int.emod_lt_of_pos (un * 4294967296 + a) hv
  have a3 := Int.mul_ediv_add_emod (un * 4294967296 + a) (v1 * 4294967296 + v0)
  rw [Int.mul_comm] at a3
  refine ⟨(un * 4294967296 + a) % (v1 * 4294967296 + v0), ?_, a1, a2, ?_⟩
  · unfold kq
    have := h.v1b
    have := h.v0b
    generalize (un * 4294967296 + a) / (v1 * 4294967296 + v0) * (v1 * 4294967296 + v0) = p at *
    generalize (un * 4294967296 + a) % (v1 * 4294967296 + v0) = m at *
    simp only [wu64e]
    omega
  · unfold kq
    omega

theorem maskI {a : Int} (h0 : 0 ≤ a) (h1 : a < 18446744073709551616) : bits .and .u64 a 4294967295 = a % 4294967296 := by
  obtain ⟨A, rfl⟩ := Int.eq_ofNat_of_zero_le h0
  rw [maskN A (by omega)]
  omega

def F115 : FSpec := fun args h k => match args, h with
  | [.int .u64 hi, .int .u64 lo, .int .u64 y], [] =>
    bif decide (hi < y) then k (.tuple #[.int .u64 ((hi * 18446744073709551616 + lo) / y), .int .u64 ((hi * 18446744073709551616 + lo) % y)]) [] else none
  | _, _ => none

theorem ok115 : EntryOK Try.prog 115 F115 := by
  refine EntryOK.of_fn spec115 follows_ok Try.func115 (by kernel_rfl) (by kernel_rfl) ?_
  intro args h k out hF
  unfold F115 at hF
  split at hF
  · rename_i hi lo y
    by_cases hy : hi < y
    · rw [decide_eq_true hy] at hF
      refine ⟨_, _, hF, fun real => ⟨L115, loops115, ?_⟩⟩
      obtain ⟨h0, h1⟩ : 0 ≤ hi ∧ hi ≤ 18446744073709551615 := real.int (i := 0) rfl
      obtain ⟨l0, l1⟩ : 0 ≤ lo ∧ lo ≤ 18446744073709551615 := real.int (i := 1) rfl
      obtain ⟨y0, y1⟩ : 0 ≤ y ∧ y ≤ 18446744073709551615 := real.int (i := 2) rfl
      rw [cf115]
      have ny : (y == 0) = false := by rw [beq_eq_false_iff_ne]; omega
      rw [ny, decide_eq_false (show ¬ y ≤ hi by omega)]
      simp only [cond_false]
      by_cases hz : hi = 0
      · subst hz
        rw [show ((0 : Int) == 0) = true from rfl, decide_eq_false (show ¬ y = 0 by omega)]
        simp only [cond_false, cond_true]
        have q0 : 0 ≤ lo / y := Int.ediv_nonneg l0 y0
        have q1 : lo / y ≤ lo := Int.ediv_le_self _ l0
        rw [Int.tdiv_eq_ediv_of_nonneg l0, Int.tmod_eq_emod_of_nonneg l0, wu64 q0 (by omega), Int.zero_mul, Int.zero_add]
      · have nz : (hi == 0) = false := by rw [beq_eq_false_iff_ne]; exact hz
        rw [nz]
        simp only [cond_false]
        obtain ⟨s, hs, s63, n0, n1⟩ := len_norm (y := y) (by omega) (by omega)
        obtain ⟨un, ut, m1, m2, m3, m4, m5, m6, m7⟩ := moved s63 n1 h0 hy l0 (by omega)
        have eS : IntKind.u64.wrap (IntKind.i64.wrap (64 - lenI y)) = (s : Int) := by
          rw [hs, show (64 : Int) - (64 - (s : Int)) = s by omega, wi64 (by omega) (by omega), wu64 (by omega) (by omega)]
        have eS2 : IntKind.u64.wrap (64 - (s : Int)) = ((64 - s : Nat) : Int) := by rw [wu64 (by omega) (by omega)]; omega
        simp only [eS, eS2, Int.toNat_natCast]
        have t1 : min s 64 = s := by omega
        have t2 : min (64 - s) 64 = 64 - s := by omega
        have t3 : IntKind.u64.wrap (y * 2 ^ s) = y * 2 ^ s := wu64 (by omega) n1
        simp only [t1, t2, t3, m1, m2]
        rw [decide_eq_false (show ¬ (s : Int) < 0 by omega), decide_eq_false (show ¬ ((64 - s : Nat) : Int) < 0 by omega)]
        simp only [cond_false]
        have pp : (0 : Int) < 2 ^ s := Int.pow_pos (by omega)
        generalize hp : (2 : Int) ^ s = p at *
        generalize hY : y * p = Y at *
        simp only [fd32]
        simp only [maskI (a := Y) (by omega) n1, maskI m6 m7]
        have eY : Y = Y / 4294967296 * 4294967296 + Y % 4294967296 := by omega
        have k1 := KOK.mk' (v1 := Y / 4294967296) (v0 := Y % 4294967296) (un := un) (a := ut / 4294967296) (by omega) (by omega) (by omega) (by omega) (by omega) (by omega) m4 (by omega)
        obtain ⟨r1, e1, r10, r11, r12⟩ := k1.rest
        have d1 := k1.above
        rw [← eY] at e1 r11 r12
        rw [decide_eq_false (show ¬ Y / 4294967296 = 0 by omega), knuthB_iff.2 k1]
        simp only [cond_false, cond_true, e1]
        have k2 := KOK.mk' (v1 := Y / 4294967296) (v0 := Y % 4294967296) (un := r1) (a := ut % 4294967296) (by omega) (by omega) (by omega) (by omega) (by omega) (by omega) r10 (by omega)
        obtain ⟨r2, e2, r20, r21, r22⟩ := k2.rest
        have d2 := k2.above
        rw [← eY] at e2 r21 r22
        rw [knuthB_iff.2 k2]
        simp only [cond_true, e2]
        generalize kq (Y / 4294967296) (Y % 4294967296) un (ut / 4294967296) = q1 at *
        generalize kq (Y / 4294967296) (Y % 4294967296) r1 (ut % 4294967296) = q0 at *
        rw [wu64 (x := q1 * 4294967296) (by omega) (by omega), wu64 (x := q1 * 4294967296 + q0) (by omega) (by omega), Int.fdiv_eq_ediv_of_nonneg _ (by omega)]
        -- the whole
        have all : (hi * 18446744073709551616 + lo) * p = (q1 * 4294967296 + q0) * Y + r2 := by
          rw [m3, Int.add_mul, Int.mul_right_comm]
          omega
        have e3 : r2 = (hi * 18446744073709551616 + lo - (q1 * 4294967296 + q0) * y) * p := by
          rw [Int.sub_mul, all, ← hY, Int.mul_assoc]
          omega
        have e4 : r2 / p = hi * 18446744073709551616 + lo - (q1 * 4294967296 + q0) * y := by
          rw [e3, Int.mul_ediv_cancel _ (by omega)]
        have b1 : 0 ≤ r2 / p := Int.ediv_nonneg r20 (by omega)
        have b2 : r2 / p < y := (Int.ediv_lt_iff_lt_mul pp).2 (by omega)
        have e5 : hi * 18446744073709551616 + lo = r2 / p + (q1 * 4294967296 + q0) * y := by omega
        have e6 : (hi * 18446744073709551616 + lo) / y = q1 * 4294967296 + q0 := by
          rw [e5, Int.add_mul_ediv_right _ _ (by omega), Int.ediv_eq_zero_of_lt b1 b2]
          omega
        have e7 : (hi * 18446744073709551616 + lo) % y = r2 / p := by
          rw [e5, Int.add_mul_emod_self_right, Int.emod_eq_of_lt b1 b2]
        rw [e6, e7]
    · rw [decide_eq_false hy] at hF; cases hF
  · cases hF
end Go.Proofs.Ytfgehfnlkakioaa.VC
