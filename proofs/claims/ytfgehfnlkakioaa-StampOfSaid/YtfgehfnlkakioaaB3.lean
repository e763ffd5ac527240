/- math/bits: Len64, LeadingZeros64, Mul64. -/
import Derived.Test.YtfgehfnlkakioaaB1
import Derived.Test.YtfgehfnlkakioaaB2
import Derived.Lib.Mul64
import Derived.Laws.Bits64b
namespace Go.Proofs.Ytfgehfnlkakioaa.VC
open Go

theorem follows_ok : Try.prog.follows .mixedOrders = true := by kernel_rfl

theorem dc {p : Prop} [Decidable p] {α : Type} {x y z : α} (h1 : p → x = z) (h2 : ¬ p → y = z) : (bif decide p then x else y) = z := by
  by_cases h : p
  · rw [decide_eq_true h]; exact h1 h
  · rw [decide_eq_false h]; exact h2 h

theorem dc2 {p q : Prop} [Decidable p] [Decidable q] {α : Type} {x y z : α} (h0 : p ∧ q) (h1 : x = z) : (bif decide p && decide q then x else y) = z := by
  rw [decide_eq_true h0.1, decide_eq_true h0.2]; exact h1

theorem tab_get : ∀ i : Fin 256, bt lit_tab i.1 = lenI (i.1 : Int) := by
  intro i
  have : ∀ i : Fin 256, bt lit_tab i.1 = (if i.1 = 0 then 0 else (i.1.log2 : Int) + 1) := by
    decide +kernel
  rw [this i]
  unfold lenI
  by_cases h : i.1 = 0
  · simp [h]
  · rw [if_neg h, if_neg (by omega), Int.toNat_natCast]

theorem lenI_shift {x : Int} (n : Nat) (hx : 2 ^ n ≤ x) : lenI x = n + lenI (x.fdiv (2 ^ n)) := by
  have hp : (0 : Int) < 2 ^ n := Int.pow_pos (by omega)
  have h1 : 0 < x := by omega
  have h2 : 1 ≤ x.fdiv (2 ^ n) := by
    rw [Int.fdiv_eq_ediv_of_nonneg _ (by omega)]
    exact (Int.le_ediv_iff_mul_le hp).2 (by omega)
  unfold lenI
  rw [if_neg (by omega), if_neg (by omega)]
  have e : (x.fdiv (2 ^ n)).toNat = x.toNat / 2 ^ n := by
    rw [Int.fdiv_eq_ediv_of_nonneg _ (by omega)]
    obtain ⟨y, rfl⟩ := Int.eq_ofNat_of_zero_le (show 0 ≤ x by omega)
    have : ((2 : Int) ^ n) = ((2 ^ n : Nat) : Int) := by simp
    rw [this, ← Int.natCast_ediv, Int.toNat_natCast, Int.toNat_natCast]
  rw [e]
  have hy : x.toNat / 2 ^ n ≠ 0 := by
    have : (x.fdiv (2 ^ n)).toNat ≠ 0 := by omega
    rwa [e] at this
  have : x.toNat.log2 = n + (x.toNat / 2 ^ n).log2 := by
    have hx0 : x.toNat ≠ 0 := by omega
    have a1 := Nat.log2_self_le hy
    have a2 := Nat.lt_log2_self (n := x.toNat / 2 ^ n)
    have key : x.toNat.log2 = n + (x.toNat / 2 ^ n).log2 := by
      apply (Nat.log2_eq_iff hx0).2
      constructor
      · rw [Nat.pow_add, Nat.mul_comm]
        exact (Nat.le_div_iff_mul_le (Nat.two_pow_pos n)).1 a1
      · rw [Nat.add_assoc, Nat.pow_add, Nat.mul_comm]
        exact (Nat.div_lt_iff_lt_mul (Nat.two_pow_pos n)).1 a2
    exact key
  omega

theorem fd32 (x : Int) : x.fdiv 4294967296 = x / 4294967296 := Int.fdiv_eq_ediv_of_nonneg _ (by decide)
theorem fd16 (x : Int) : x.fdiv 65536 = x / 65536 := Int.fdiv_eq_ediv_of_nonneg _ (by decide)
theorem fd8 (x : Int) : x.fdiv 256 = x / 256 := Int.fdiv_eq_ediv_of_nonneg _ (by decide)
theorem len32 {x : Int} (h : x ≥ 4294967296) : lenI x = 32 + lenI (x / 4294967296) := by have := lenI_shift 32 (x := x) h; rw [show ((2 : Int) ^ 32) = 4294967296 from rfl, fd32] at this; exact this
theorem len16 {x : Int} (h : x ≥ 65536) : lenI x = 16 + lenI (x / 65536) := by have := lenI_shift 16 (x := x) h; rw [show ((2 : Int) ^ 16) = 65536 from rfl, fd16] at this; exact this
theorem len8 {x : Int} (h : x ≥ 256) : lenI x = 8 + lenI (x / 256) := by have := lenI_shift 8 (x := x) h; rw [show ((2 : Int) ^ 8) = 256 from rfl, fd8] at this; exact this

theorem lenI_le {x : Int} (h0 : 0 ≤ x) (h1 : x < 18446744073709551616) : 0 ≤ lenI x ∧ lenI x ≤ 64 := by
  unfold lenI
  split
  · omega
  · have : x.toNat.log2 < 64 := (Nat.log2_lt (by omega)).2 (by omega)
    omega

theorem tab_at {x y : Int} {m : Int} (hx : x = y) (h0 : 0 ≤ y) (h1 : y < 256) (hm0 : 0 ≤ m) (hm1 : m ≤ 56) : IntKind.i64.wrap (m + IntKind.i64.wrap (bt lit_tab x.toNat)) = m + lenI y := by
  subst hx
  have := tab_get ⟨x.toNat, by omega⟩
  simp only at this
  rw [this, Int.toNat_of_nonneg h0]
  have := lenI_le h0 (by omega)
  rw [wi64 (x := lenI x) (by omega) (by omega), wi64 (by omega) (by omega)]

theorem ok119 : EntryOK Try.prog 119 F119 := by
  refine EntryOK.of_fn (mkS_nil _) follows_ok Try.func119 (by kernel_rfl) (by kernel_rfl) ?_
  intro args h k out hF
  unfold F119 at hF
  split at hF
  · rename_i x
    refine ⟨_, _, hF, fun real => ⟨noL, noL_ok, ?_⟩⟩
    have hx := real.int (i := 0) rfl
    obtain ⟨h0, h1⟩ : 0 ≤ x ∧ x ≤ 18446744073709551615 := hx
    rw [cf119]
    simp only [fd32, fd16, fd8]
    have leaf : ∀ {y m : Int} {v : Int}, 0 ≤ y → y < 256 → 0 ≤ m → m ≤ 56 → m + lenI y = v →
        (bif decide (0 ≤ IntKind.u8.wrap y) && decide (IntKind.u8.wrap y < 256) then some (Res.ret (Value.int IntKind.i64 (IntKind.i64.wrap (m + IntKind.i64.wrap (bt lit_tab (IntKind.u8.wrap y).toNat)))) []) else none) = some (Res.ret (Value.int IntKind.i64 v) []) := by
      intro y m v a1 a2 a3 a4 a5
      refine dc2 (by rw [wu8 a1 a2]; omega) ?_
      rw [tab_at (wu8 a1 a2) a1 a2 a3 a4, a5]
    refine dc (fun c1 => ?_) (fun c1 => ?_)
    · rw [len32 c1]
      refine dc (fun c2 => ?_) (fun c2 => ?_)
      · rw [len16 c2]
        refine dc (fun c3 => ?_) (fun c3 => ?_)
        · rw [len8 c3]; exact leaf (by omega) (by omega) (by omega) (by omega) (by omega)
        · exact leaf (by omega) (by omega) (by omega) (by omega) (by omega)
      · refine dc (fun c3 => ?_) (fun c3 => ?_)
        · rw [len8 c3]; exact leaf (by omega) (by omega) (by omega) (by omega) (by omega)
        · exact leaf (by omega) (by omega) (by omega) (by omega) (by omega)
    · refine dc (fun c2 => ?_) (fun c2 => ?_)
      · rw [len16 c2]
        refine dc (fun c3 => ?_) (fun c3 => ?_)
        · rw [len8 c3]; exact leaf (by omega) (by omega) (by omega) (by omega) (by omega)
        · exact leaf (by omega) (by omega) (by omega) (by omega) (by omega)
      · refine dc (fun c3 => ?_) (fun c3 => ?_)
        · rw [len8 c3]; exact leaf (by omega) (by omega) (by omega) (by omega) (by omega)
        · exact leaf (by omega) (by omega) (by omega) (by omega) (by omega)
  · cases hF

theorem ok118 : EntryOK Try.prog 118 F118 := by
  refine EntryOK.of_fn (mkS_cons (rw := false) ok119 (mkS_nil _)) follows_ok Try.func118 (by kernel_rfl) (by kernel_rfl) ?_
  intro args h k out hF
  unfold F118 at hF
  split at hF
  · rename_i x
    exact ⟨_, _, hF, fun real => ⟨noL, noL_ok, cf118 x⟩⟩
  · cases hF

theorem maskN (a : Nat) (ha : a < 18446744073709551616) : bits .and .u64 (a : Int) 4294967295 = ((a % 4294967296 : Nat) : Int) := by
  have h := bits_and_u64_nat a 4294967295 ha (by omega)
  have e : a &&& 4294967295 = a % 4294967296 := Nat.and_two_pow_sub_one_eq_mod a 32
  rw [e] at h
  exact h
theorem divN (a : Nat) : (a : Int) / 4294967296 = ((a / 4294967296 : Nat) : Int) := by omega
theorem mulN (a b : Nat) : (a : Int) * (b : Int) = ((a * b : Nat) : Int) := (Int.natCast_mul a b).symm
theorem addN (a b : Nat) : (a : Int) + (b : Int) = ((a + b : Nat) : Int) := (Int.natCast_add a b).symm
theorem wrapN (a : Nat) (ha : a < 18446744073709551616) : IntKind.u64.wrap (a : Int) = (a : Int) := wu64 (by omega) (by omega)

theorem ok87 : EntryOK Try.prog 87 F87 := by
  refine EntryOK.of_fn (mkS_nil _) follows_ok Try.func87 (by kernel_rfl) (by kernel_rfl) ?_
  intro args h k out hF
  unfold F87 at hF
  split at hF
  · rename_i a b
    refine ⟨_, _, hF, fun real => ⟨noL, noL_ok, ?_⟩⟩
    obtain ⟨a0, a1⟩ : 0 ≤ a ∧ a ≤ 18446744073709551615 := real.int (i := 0) rfl
    obtain ⟨b0, b1⟩ : 0 ≤ b ∧ b ≤ 18446744073709551615 := real.int (i := 1) rfl
    obtain ⟨x, rfl⟩ := Int.eq_ofNat_of_zero_le a0
    obtain ⟨y, rfl⟩ := Int.eq_ofNat_of_zero_le b0
    rw [cf87]
    obtain ⟨bd, bt, bw, hhi⟩ := Lib.mul64_hi x y (by omega) (by omega)
    have ba := Lib.half_mul_le (a := x / 4294967296) (b := y / 4294967296) (by omega) (by omega)
    have bb := Lib.half_mul_le (a := x / 4294967296) (b := y % 4294967296) (by omega) (by omega)
    have bc := Lib.half_mul_le (a := x % 4294967296) (b := y / 4294967296) (by omega) (by omega)
    have ba' : x / 4294967296 * (y / 4294967296) < 18446744073709551616 := by omega
    have bb' : x / 4294967296 * (y % 4294967296) < 18446744073709551616 := by omega
    have bc' : x % 4294967296 * (y / 4294967296) < 18446744073709551616 := by omega
    have hxy : x * y ≤ 18446744073709551615 * 18446744073709551615 := Nat.mul_le_mul (by omega) (by omega)
    have bh1 : x / 4294967296 * (y / 4294967296) + (x / 4294967296 * (y % 4294967296) + x % 4294967296 * (y % 4294967296) / 4294967296) / 4294967296 < 18446744073709551616 := by
      have := hhi; generalize x * y = p at *; omega
    simp only [fd32, maskN x (by omega), maskN y (by omega), divN, mulN, addN, wrapN _ bd, wrapN _ bb', wrapN _ bt, maskN _ bt, wrapN _ bc', wrapN _ bw, wrapN _ ba', wrapN _ bh1]
    rw [hhi, wrapN _ (by generalize x * y = p at *; omega), wu64e]
    have e1 : ((x : Nat) : Int) * (y : Int) / 18446744073709551616 = ((x * y / 18446744073709551616 : Nat) : Int) := by simp
    simp
  · cases hF
end Go.Proofs.Ytfgehfnlkakioaa.VC
