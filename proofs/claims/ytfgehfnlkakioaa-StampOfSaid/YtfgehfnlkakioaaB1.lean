/- Arithmetic: words, and long division's steps. -/
import Derived.Test.YtfgehfnlkakioaaProg
import Derived.Test.YtfgehfnlkakioaaV18
import Derived.KernelRfl
namespace Go.Proofs.Ytfgehfnlkakioaa.VC
open Go

theorem wu64 {x : Int} (h0 : 0 ≤ x) (h1 : x < 18446744073709551616) : IntKind.u64.wrap x = x := by
  simp only [IntKind.wrap, IntKind.signed, IntKind.bits]
  simp
  omega

theorem wu64e (x : Int) : IntKind.u64.wrap x = x % 18446744073709551616 := by
  simp only [IntKind.wrap, IntKind.signed, IntKind.bits]
  simp

theorem wi64 {x : Int} (h0 : -9223372036854775808 ≤ x) (h1 : x < 9223372036854775808) : IntKind.i64.wrap x = x := by
  simp only [IntKind.wrap, IntKind.signed, IntKind.bits]
  simp
  omega

theorem wu8 {x : Int} (h0 : 0 ≤ x) (h1 : x < 256) : IntKind.u8.wrap x = x := by
  simp only [IntKind.wrap, IntKind.signed, IntKind.bits]
  simp
  omega

theorem wi64e (x : Int) : IntKind.i64.wrap x = (x + 9223372036854775808) % 18446744073709551616 - 9223372036854775808 := by
  simp only [IntKind.wrap, IntKind.signed, IntKind.bits]
  simp
  omega

/-- A quotient's digit. -/
def kq (v1 v0 u a : Int) : Int := (u * 4294967296 + a) / (v1 * 4294967296 + v0)

structure KOK (v1 v0 u a q r : Int) : Prop where
  v1a : 2147483648 ≤ v1
  v1b : v1 < 4294967296
  v0a : 0 ≤ v0
  v0b : v0 < 4294967296
  aa : 0 ≤ a
  ab : a < 4294967296
  ua : 0 ≤ u
  ub : u < v1 * 4294967296 + v0
  qe : q = u / v1
  re : r = u - q * v1

theorem mul_le {a b c d : Int} (h1 : a ≤ b) (h2 : c ≤ d) (h3 : 0 ≤ a) (h4 : 0 ≤ d) : a * c ≤ b * d :=
  Int.le_trans (Int.mul_le_mul_of_nonneg_left h2 h3) (Int.mul_le_mul_of_nonneg_right h1 h4)

theorem KOK.digit {v1 v0 u a q r : Int} (h : KOK v1 v0 u a q r) {x : Int} (h1 : x * (v1 * 4294967296 + v0) ≤ u * 4294967296 + a) (h2 : u * 4294967296 + a < (x + 1) * (v1 * 4294967296 + v0)) : x = kq v1 v0 u a := by
  have hv : 0 < v1 * 4294967296 + v0 := by have := h.v1a; have := h.v0a; omega
  unfold kq
  have e1 := (Int.le_ediv_iff_mul_le hv).2 h1
  have e2 := (Int.ediv_lt_iff_lt_mul hv).2 h2
  omega

theorem KOK.qb {v1 v0 u a q r : Int} (h : KOK v1 v0 u a q r) : 0 ≤ q ∧ q ≤ 4294967297 ∧ 0 ≤ r ∧ r < v1 ∧ u = q * v1 + r := by
  have hv : 0 < v1 := by have := h.v1a; omega
  have e0 := h.qe
  have e1 : 0 ≤ u / v1 := Int.ediv_nonneg h.ua (by omega)
  have e2 : u / v1 < 4294967298 := (Int.ediv_lt_iff_lt_mul hv).2 (by have := h.ub; have := h.v0b; have := h.v1a; omega)
  have e3 := Int.emod_nonneg u (b := v1) (by omega)
  have e4 := Int.emod_lt_of_pos u hv
  have e5 := Int.mul_ediv_add_emod u v1
  have e6 : r = u % v1 := by rw [h.re, e0]; rw [Int.mul_comm] ; omega
  refine ⟨by omega, by omega, by omega, by omega, ?_⟩
  have := h.re
  omega

/-- The digit lies not above a guess. -/
theorem KOK.above {v1 v0 u a q r : Int} (h : KOK v1 v0 u a q r) : kq v1 v0 u a ≤ q ∧ 0 ≤ kq v1 v0 u a ∧ kq v1 v0 u a < 4294967296 := by
  obtain ⟨q0, q1, r0, r1, hu⟩ := h.qb
  have hv : 0 < v1 * 4294967296 + v0 := by have := h.v1a; have := h.v0a; omega
  refine ⟨?_, Int.ediv_nonneg (by have := h.ua; have := h.aa; omega) (by omega), ?_⟩
  · have : kq v1 v0 u a < q + 1 := by
      refine (Int.ediv_lt_iff_lt_mul hv).2 ?_
      have e1 : (q + 1) * (v1 * 4294967296 + v0) = q * v1 * 4294967296 + v1 * 4294967296 + (q + 1) * v0 := by
        rw [Int.mul_add, ← Int.mul_assoc, Int.add_mul q 1 v1, Int.one_mul, Int.add_mul (q * v1)]
      have e2 : 0 ≤ (q + 1) * v0 := Int.mul_nonneg (by omega) h.v0a
      have := h.ab
      rw [e1]
      generalize q * v1 = qv at *
      omega
    omega
  · refine (Int.ediv_lt_iff_lt_mul hv).2 ?_
    have := h.ub
    have := h.ab
    have := h.aa
    omega

/-- A guess x, its rest y. -/
theorem KOK.test {v1 v0 u a q r : Int} (h : KOK v1 v0 u a q r) {x y : Int} (hx : kq v1 v0 u a ≤ x) (hu : u = x * v1 + y) :
    (x < 4294967296 → x * v0 ≤ 4294967296 * y + a → x = kq v1 v0 u a) ∧ ((x ≥ 4294967296 ∨ x * v0 > 4294967296 * y + a) → kq v1 v0 u a ≤ x - 1) := by
  have hv : 0 < v1 * 4294967296 + v0 := by have := h.v1a; have := h.v0a; omega
  have hab := h.above
  have e1 : x * (v1 * 4294967296 + v0) = x * v1 * 4294967296 + x * v0 := by rw [Int.mul_add, ← Int.mul_assoc]
  constructor
  · intro h1 h2
    have : x ≤ kq v1 v0 u a := by
      refine (Int.le_ediv_iff_mul_le hv).2 ?_
      rw [e1]
      generalize x * v1 = p at *
      generalize x * v0 = p0 at *
      omega
    omega
  · intro h1
    rcases h1 with h1 | h1
    · omega
    · have : kq v1 v0 u a < x := by
        refine (Int.ediv_lt_iff_lt_mul hv).2 ?_
        rw [e1]
        generalize x * v1 = p at *
        generalize x * v0 = p0 at *
        omega
      omega

theorem KOK.prod {v1 v0 u a q r : Int} (h : KOK v1 v0 u a q r) {x : Int} (h0 : 0 ≤ x) (h1 : x ≤ 4294967297) : 0 ≤ x * v0 ∧ x * v0 < 18446744073709551616 := by
  refine ⟨Int.mul_nonneg h0 h.v0a, ?_⟩
  have h2 : v0 ≤ 4294967295 := by have := h.v0b; omega
  have := mul_le h1 h2 h0 (by omega)
  omega
theorem KOK.prod2 {v1 v0 u a q r : Int} (h : KOK v1 v0 u a q r) {x : Int} (h0 : 0 ≤ x) (h1 : x ≤ 4294967296) : x * v0 ≤ 4294967296 * 4294967295 := by
  have h2 : v0 ≤ 4294967295 := by have := h.v0b; omega
  exact mul_le h1 h2 h0 (by omega)
end Go.Proofs.Ytfgehfnlkakioaa.VC
