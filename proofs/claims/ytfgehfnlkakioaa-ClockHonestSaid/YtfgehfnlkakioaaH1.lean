/- ClockHonest: what a reading is, and why it is honest: in numbers alone. -/
import Derived.Test.YtfgehfnlkakioaaC5
namespace Go.Proofs.Ytfgehfnlkakioaa.VC
open Go Go.Proofs

theorem laterZ_rng {f d x r : Int} (hr : 0 ≤ r) : -r ≤ laterZ f d x r ∧ laterZ f d x r ≤ r := by
  unfold laterZ clampI
  (repeat' split) <;> omega
theorem mulR {x a b : Int} (hx : 0 ≤ x) (hab : a ≤ b) : x * a ≤ x * b := Int.mul_le_mul_of_nonneg_left hab hx
theorem readE_eq {rho R E x : Int} (hr : 1 ≤ rho ∧ rho ≤ 500) (hR : 1 ≤ R ∧ R ≤ 2147484) (hE : 0 ≤ E ∧ E ≤ 2305843009213693952) (hx : 0 ≤ x ∧ x ≤ 144115188075855872) :
    readE rho R E x = E + -(-(x * (rho + 1)) / 1000000) + -(-(x * R) / 4294967296) + 2 := by
  have p0 : 0 ≤ x * (rho + 1) := Int.mul_nonneg hx.1 (by omega)
  have p1 : x * (rho + 1) ≤ x * 501 := mulR hx.1 (by omega)
  have q0 : 0 ≤ x * R := Int.mul_nonneg hx.1 (by omega)
  have q1 : x * R ≤ x * 2147484 := mulR hx.1 hR.2
  simp only [readE, sumH, upI, if_neg (show ¬ (1000000 : Int) ≤ 0 by decide), if_neg (show ¬ (4294967296 : Int) ≤ 0 by decide)]
  generalize x * (rho + 1) = p at *
  generalize x * R = q at *
  rw [hold_id (z := 0 + E) (by omega), hold_id (z := -(-p / 1000000)) (by omega), hold_id (z := -(-q / 4294967296)) (by omega), Int.zero_add, hold_id (z := E + -(-p / 1000000)) (by omega),
    hold_id (z := E + -(-p / 1000000) + -(-q / 4294967296)) (by omega), hold_id (by omega)]
theorem readT_eq {R F D T x : Int} (hR : 1 ≤ R ∧ R ≤ 2147484) (hT : 0 ≤ T ∧ T ≤ 3000000000000000000) (hx : 0 ≤ x ∧ x ≤ 144115188075855872) :
    readT R F D T x = T + x + x * laterZ F D x R / 4294967296 := by
  have hf := laterZ_rng (f := F) (d := D) (x := x) (r := R) (by omega)
  have p0 : x * laterZ F D x R ≤ x * 2147484 := mulR hx.1 (by omega)
  have p1 : x * (-2147484) ≤ x * laterZ F D x R := mulR hx.1 (by omega)
  simp only [readT, sumH, downI, if_neg (show ¬ (4294967296 : Int) ≤ 0 by decide)]
  generalize x * laterZ F D x R = p at *
  rw [hold_id (z := 0 + T) (by omega), hold_id (z := p / 4294967296) (by omega), Int.zero_add, hold_id (z := T + x) (by omega), hold_id (by omega)]
theorem readE_mono {rho R E x x' : Int} (hr : 1 ≤ rho ∧ rho ≤ 500) (hR : 1 ≤ R ∧ R ≤ 2147484) (hE : 0 ≤ E ∧ E ≤ 2305843009213693952) (hx : 0 ≤ x) (hxx : x ≤ x') (hx' : x' ≤ 144115188075855872) : readE rho R E x ≤ readE rho R E x' := by
  rw [readE_eq hr hR hE (by omega), readE_eq hr hR hE (by omega)]
  have a : x * (rho + 1) ≤ x' * (rho + 1) := Int.mul_le_mul_of_nonneg_right hxx (by omega)
  have b : x * R ≤ x' * R := Int.mul_le_mul_of_nonneg_right hxx (by omega)
  omega
/-- How far counts may be off. -/
theorem drift_bound {rho x y : Int} (hr : 1 ≤ rho ∧ rho ≤ 500) (hx : 0 ≤ x) (hy : 0 ≤ y) (h1 : (x - y) * 1000000 ≤ rho * y) (h2 : (y - x) * 1000000 ≤ rho * y) :
    (x - y) * 1000000 ≤ x * (rho + 1) ∧ (y - x) * 1000000 ≤ x * (rho + 1) := by
  have e : x * (rho + 1) = rho * x + x := by rw [Int.mul_add, Int.mul_one, Int.mul_comm]
  have a0 : 0 ≤ rho * x := Int.mul_nonneg (by omega) hx
  have a1 : rho * x ≤ 500 * x := Int.mul_le_mul_of_nonneg_right hr.2 hx
  rw [e]
  by_cases c : y ≤ x
  · have : rho * y ≤ rho * x := Int.mul_le_mul_of_nonneg_left c (by omega)
    omega
  · have b : rho * y = rho * x + rho * (y - x) := by rw [← Int.mul_add]; congr 1; omega
    have b1 : rho * (y - x) ≤ 500 * (y - x) := Int.mul_le_mul_of_nonneg_right hr.2 (by omega)
    have b0 : 0 ≤ rho * (y - x) := Int.mul_nonneg (by omega) (by omega)
    omega
theorem honest {rho R F D T E off x y : Int} (hr : 1 ≤ rho ∧ rho ≤ 500) (hR : 1 ≤ R ∧ R ≤ 2147484) (hE : 0 ≤ E ∧ E ≤ 2305843009213693952) (hT : 0 ≤ T ∧ T ≤ 3000000000000000000) (ho : -E ≤ off ∧ off ≤ E)
    (hx : 0 ≤ x ∧ x ≤ 144115188075855872) (hy : 0 ≤ y) (h1 : (x - y) * 1000000 ≤ rho * y) (h2 : (y - x) * 1000000 ≤ rho * y) :
    0 ≤ readT R F D T x ∧ readT R F D T x ≤ 6000000000000000000 ∧ readE rho R E x ≤ 4611686018427387904 ∧ E ≤ readE rho R E x ∧
    (T + off + y - readT R F D T x).natAbs ≤ readE rho R E x ∧ x * rho ≤ (readE rho R E x - E) * 1000000 := by
  obtain ⟨d1, d2⟩ := drift_bound hr hx.1 hy h1 h2
  have e : x * (rho + 1) = x * rho + x := by rw [Int.mul_add, Int.mul_one]
  have p1 : x * (rho + 1) ≤ x * 501 := mulR hx.1 (by omega)
  have q0 : 0 ≤ x * R := Int.mul_nonneg hx.1 (by omega)
  have q1 : x * R ≤ x * 2147484 := mulR hx.1 hR.2
  have hf := laterZ_rng (f := F) (d := D) (x := x) (r := R) (by omega)
  have g1 : x * laterZ F D x R ≤ x * R := mulR hx.1 hf.2
  have g2 : x * (-R) ≤ x * laterZ F D x R := mulR hx.1 hf.1
  rw [Int.mul_neg] at g2
  have p0 : 0 ≤ x * rho := Int.mul_nonneg hx.1 (by omega)
  rw [readT_eq hR hT hx, readE_eq hr hR hE hx, e]
  rw [e] at d1 d2 p1
  generalize x * laterZ F D x R = g at *
  generalize x * rho = p at *
  generalize x * R = q at *
  refine ⟨by omega, by omega, by omega, by omega, by omega, by omega⟩
/-- A lapse within rho ppm. -/
noncomputable def driftB (rho tr co : Int) : Bool := chk (0 ≤ tr ∧ 0 ≤ co ∧ (co - tr) * 1000000 ≤ rho * tr ∧ (tr - co) * 1000000 ≤ rho * tr)
noncomputable def goodL (rho : Int) : List Int → Bool
  | tr :: co :: r => driftB rho tr co && (decide (tr ≤ 1125899906842624) && goodL rho r)
  | _ => true
end Go.Proofs.Ytfgehfnlkakioaa.VC
