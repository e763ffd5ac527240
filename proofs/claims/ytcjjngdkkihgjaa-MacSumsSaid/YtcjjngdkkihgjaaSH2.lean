/- SHA-256: the small functions. -/
import Derived.Test.YtcjjngdkkihgjaaSH1
import Derived.Test.YtcjjngdkkihgjaaPX
namespace Go.Proofs.Ytcjjngdkkihgjaa.VC
open Go Go.Proofs

abbrev w32v (x : Int) : Value := .int .u32 x
--CP cRotL (x n : Int) :: fnK Try.prog (mkS []) noL Try.f110 [w32v x, w63 n] []
theorem cRotL (x n : Int)
    (h1 : ¬IntKind.u64.wrap ((32 : Int) - bits BinOp.and IntKind.u64 (IntKind.u64.wrap n) (31 : Int)) < (0 : Int) := by first | omega | assumption | rfl) : fnK Try.prog (mkS []) noL Try.f110 [w32v x, w63 n] [] =
     (some (Res.ret (Value.int IntKind.u32 (bits BinOp.or IntKind.u32 (IntKind.u32.wrap (x * (2 : Int) ^ min (bits BinOp.and IntKind.u64 (IntKind.u64.wrap n) (31 : Int)).toNat (32 : Nat))) (x.fdiv ((2 :
     Int) ^ min (IntKind.u64.wrap ((32 : Int) - bits BinOp.and IntKind.u64 (IntKind.u64.wrap n) (31 : Int))).toNat (32 : Nat))))) [])) :=
  Eq.trans (by kernel_rfl) (go_f (dec_f h1) rfl)
--CFEND
/-- A word turned left by so many places less. -/
noncomputable def FRotL : FSpec := fun args h k => match args, h with
  | [.int .u32 x, .int .i64 n], [] => bif chk (W32 x ∧ -31 ≤ n ∧ n ≤ -1) then k (w32v (rotr x (-n).toNat)) [] else none
  | _, _ => none
theorem okRotL : EntryOK Try.prog 110 FRotL := by
  refine EntryOK.of_paths (fn := Try.f110) follows_ok Try.func110 (by kernel_rfl) (by kernel_rfl) ?_
  intro args h k out hF
  unfold FRotL at hF
  split at hF
  · obtain ⟨hb, hF2⟩ := bif_t hF
    obtain ⟨hx, h1, h2⟩ := chk_iff.1 hb
    rename_i x n
    refine ⟨_, _, hF2, fun _ => ⟨mkS [], noL, mk0, noL_ok, ?_⟩⟩
    obtain ⟨a, rfl, ha⟩ := hx.nat
    obtain ⟨m, rfl⟩ : ∃ m : Nat, n = -(m : Int) := ⟨(-n).toNat, by omega⟩
    have e1 : bits BinOp.and IntKind.u64 (IntKind.u64.wrap (-(m : Int))) 31 = ((32 - m : Nat) : Int) := by
      rw [wrap_u64, show (-(m : Int)) % 18446744073709551616 = ((18446744073709551616 - m : Nat) : Int) by omega]
      show IntKind.u64.wrap ((BitVec.ofInt 64 ((18446744073709551616 - m : Nat) : Int) &&& BitVec.ofInt 64 ((31 : Nat) : Int)).toNat : Int) = _
      rw [BitVec.toNat_and, ofInt_nat (by omega), ofInt_nat (by decide), show (31 : Nat) = 2 ^ 5 - 1 from rfl, Nat.and_two_pow_sub_one_eq_mod, wrap_u64]
      omega
    have e2 : IntKind.u64.wrap (32 - ((32 - m : Nat) : Int)) = (m : Int) := by rw [wrap_u64]; omega
    rw [cRotL _ _ (by rw [e1, e2]; omega), e1, e2]
    have e3 : min ((32 - m : Nat) : Int).toNat 32 = 32 - m := by omega
    have e4 : min ((m : Nat) : Int).toNat 32 = m := by omega
    have hp : (0 : Int) ≤ 2 ^ m := Int.le_of_lt (Int.pow_pos (by decide))
    rw [e3, e4, Int.fdiv_eq_ediv_of_nonneg _ hp, wrap_u32, show (-(-(m : Int))).toNat = m by omega, rotr_cast, ← rot_nat ha (by omega)]
    have q1 : ((a : Int) * 2 ^ (32 - m) % 4294967296) = ((a * 2 ^ (32 - m) % 2 ^ 32 : Nat) : Int) := by
      rw [pow_cast]; simp only [Int.natCast_emod, Int.natCast_mul]; rfl
    have q2 : ((a : Int) / 2 ^ m) = ((a / 2 ^ m : Nat) : Int) := by rw [pow_cast]; rfl
    have l1 : W32 ((a * 2 ^ (32 - m) % 2 ^ 32 : Nat) : Int) := .of_nat (Nat.mod_lt (a * 2 ^ (32 - m)) (show 2 ^ 32 > 0 by decide))
    have l2 : W32 ((a / 2 ^ m : Nat) : Int) := .of_nat (Nat.lt_of_le_of_lt (Nat.div_le_self a (2 ^ m)) ha)
    rw [q1, q2, or_u32 l1 l2]
    rfl
  · cases hF
noncomputable def S104 : Spec := mkS [(110, false, FRotL)]
theorem S104_ok : SpecOK Try.prog S104 := mkS_cons okRotL (mkS_nil _)
--CP cRig (x n : Int) :: fnK Try.prog S104 noL Try.f104 [w32v x, w63 n] []
theorem cRig (x n : Int)
    (w1 : -9223372036854775808 ≤ (0 : Int) - n ∧ (0 : Int) - n ≤ 9223372036854775807 := by omega)
    (h1 : W32 x ∧ (-31 : Int) ≤ (0 : Int) - n ∧ (0 : Int) - n ≤ (-1 : Int) := by first | omega | assumption | rfl | ((repeat' with_reducible apply And.intro) <;> first | rfl | assumption | omega)) : fnK Try.prog S104 noL Try.f104 [w32v x, w63 n] [] =
     (some (Res.ret (Value.int IntKind.u32 (rotr x (-((0 : Int) - n)).toNat)) [])) :=
  Eq.trans (b :=
     bif chk (W32 x ∧ (-31 : Int) ≤ IntKind.i64.wrap ((0 : Int) - n) ∧ IntKind.i64.wrap ((0 : Int) - n) ≤ (-1 : Int)) then some (Res.ret (Value.int IntKind.u32 (rotr x (-IntKind.i64.wrap ((0 : Int) -
     n)).toNat)) []) else none) (by kernel_rfl) (by simp only [-eq_self, swrap w1.1 w1.2]; exact (go_t (chk_t h1) rfl))
--CFEND
noncomputable def FRig : FSpec := fun args h k => match args, h with
  | [.int .u32 x, .int .i64 n], [] => bif chk (W32 x ∧ 1 ≤ n ∧ n ≤ 31) then k (w32v (rotr x n.toNat)) [] else none
  | _, _ => none
theorem okRig : EntryOK Try.prog 104 FRig := by
  refine EntryOK.of_paths (fn := Try.f104) follows_ok Try.func104 (by kernel_rfl) (by kernel_rfl) ?_
  intro args h k out hF
  unfold FRig at hF
  split at hF
  · obtain ⟨hb, hF2⟩ := bif_t hF
    obtain ⟨hx, h1, h2⟩ := chk_iff.1 hb
    rename_i x n
    refine ⟨_, _, hF2, fun _ => ⟨S104, noL, S104_ok, noL_ok, ?_⟩⟩
    rw [cRig x n (by omega) ⟨hx, by omega, by omega⟩, show (-(0 - n)).toNat = n.toNat by omega]
  · cases hF
--CP cXor (x y : Int) :: fnK Try.prog (mkS []) noL Try.f106 [w63 x, w63 y] []
theorem cXor (x y : Int) : fnK Try.prog (mkS []) noL Try.f106 [w63 x, w63 y] [] =
     (some (Res.ret (Value.int IntKind.i64 (bits BinOp.xor IntKind.i64 x y)) [])) :=
  Eq.trans (by kernel_rfl) rfl
--CFEND
noncomputable def FXo : FSpec := fun args h k => match args, h with
  | [.int .i64 x, .int .i64 y], [] => bif chk (W32 x ∧ W32 y) then k (w63 (xo x y)) [] else none
  | _, _ => none
theorem okXo : EntryOK Try.prog 106 FXo := by
  refine EntryOK.of_paths (fn := Try.f106) follows_ok Try.func106 (by kernel_rfl) (by kernel_rfl) ?_
  intro args h k out hF
  unfold FXo at hF
  split at hF
  · obtain ⟨hb, hF2⟩ := bif_t hF
    obtain ⟨hx, hy⟩ := chk_iff.1 hb
    refine ⟨_, _, hF2, fun _ => ⟨mkS [], noL, mk0, noL_ok, ?_⟩⟩
    rw [cXor, xor_i64 hx hy]
  · cases hF
--CP cCho (x y z : Int) :: fnK Try.prog (mkS []) noL Try.f77 [w63 x, w63 y, w63 z] []
theorem cCho (x y z : Int)
    (w1 : -9223372036854775808 ≤ (4294967295 : Int) - x ∧ (4294967295 : Int) - x ≤ 9223372036854775807 := by omega)
    (w2 : -9223372036854775808 ≤ bits BinOp.and IntKind.i64 x y + bits BinOp.and IntKind.i64 ((4294967295 : Int) - x) z ∧ bits BinOp.and IntKind.i64 x y + bits BinOp.and IntKind.i64 ((4294967295 : Int) - x) z ≤ 9223372036854775807 := by omega) : fnK Try.prog (mkS []) noL Try.f77 [w63 x, w63 y, w63 z] [] =
     (some (Res.ret (Value.int IntKind.i64 (bits BinOp.and IntKind.i64 x y + bits BinOp.and IntKind.i64 ((4294967295 : Int) - x) z)) [])) :=
  Eq.trans (b :=
     some (Res.ret (Value.int IntKind.i64 (IntKind.i64.wrap (bits BinOp.and IntKind.i64 x y + bits BinOp.and IntKind.i64 (IntKind.i64.wrap ((4294967295 : Int) - x)) z))) [])) (by kernel_rfl) (by simp only [-eq_self, swrap w1.1 w1.2, swrap w2.1 w2.2]; exact rfl)
--CFEND
noncomputable def FCho : FSpec := fun args h k => match args, h with
  | [.int .i64 x, .int .i64 y, .int .i64 z], [] => bif chk (W32 x ∧ W32 y ∧ W32 z) then k (w63 (cho x y z)) [] else none
  | _, _ => none
theorem okCho : EntryOK Try.prog 77 FCho := by
  refine EntryOK.of_paths (fn := Try.f77) follows_ok Try.func77 (by kernel_rfl) (by kernel_rfl) ?_
  intro args h k out hF
  unfold FCho at hF
  split at hF
  · obtain ⟨hb, hF2⟩ := bif_t hF
    obtain ⟨hx, hy, hz⟩ := chk_iff.1 hb
    rename_i x y z
    have hn : W32 (4294967295 - x) := ⟨by have := hx.2; omega, by have := hx.1; omega⟩
    have h1 := hx.an hy
    have h2 := hn.an hz
    refine ⟨_, _, hF2, fun _ => ⟨mkS [], noL, mk0, noL_ok, ?_⟩⟩
    rw [cCho _ _ _ (by have := hx.1; have := hx.2; omega) (by rw [and_i64 hx hy, and_i64 hn hz]; have := h1.1; have := h1.2; have := h2.1; have := h2.2; omega), and_i64 hx hy, and_i64 hn hz]
    rfl
  · cases hF
--CP cMost (x y z : Int) :: fnK Try.prog (mkS []) noL Try.f78 [w63 x, w63 y, w63 z] []
theorem cMost (x y z : Int) : fnK Try.prog (mkS []) noL Try.f78 [w63 x, w63 y, w63 z] [] =
     (some (Res.ret (Value.int IntKind.i64 (bits BinOp.or IntKind.i64 (bits BinOp.or IntKind.i64 (bits BinOp.and IntKind.i64 x y) (bits BinOp.and IntKind.i64 x z)) (bits BinOp.and IntKind.i64 y z))) [])) :=
  Eq.trans (by kernel_rfl) rfl
--CFEND
noncomputable def FMost : FSpec := fun args h k => match args, h with
  | [.int .i64 x, .int .i64 y, .int .i64 z], [] => bif chk (W32 x ∧ W32 y ∧ W32 z) then k (w63 (maj x y z)) [] else none
  | _, _ => none
theorem okMost : EntryOK Try.prog 78 FMost := by
  refine EntryOK.of_paths (fn := Try.f78) follows_ok Try.func78 (by kernel_rfl) (by kernel_rfl) ?_
  intro args h k out hF
  unfold FMost at hF
  split at hF
  · obtain ⟨hb, hF2⟩ := bif_t hF
    obtain ⟨hx, hy, hz⟩ := chk_iff.1 hb
    refine ⟨_, _, hF2, fun _ => ⟨mkS [], noL, mk0, noL_ok, ?_⟩⟩
    rw [cMost, and_i64 hx hy, and_i64 hx hz, and_i64 hy hz, or_i64 (hx.an hy) (hx.an hz), or_i64 ((hx.an hy).ro (hx.an hz)) (hy.an hz)]
    rfl
  · cases hF
/-! ### two to the power -/
def liveTw : List Nat := [2, 0, 3, 4]
abbrev stTw (n : Int) (i : Nat) : List Value := [w63 0, w63 n, w63 (((2 ^ i : Nat)) : Int), w63 i]
--CP pTw (n x i : Int) (on : List Value → Heap → Out) (out : Exit → List Value → Heap → Out) :: roundK Try.prog ((mkS []).on [(7, true)]) noL Try.f79.ntmps 0 (loopOf Try.f79 0) liveTw [w63 0, w63 n, w63 x, w63 i] [] on out
theorem pTw (n x i : Int) (on : List Value → Heap → Out) (out : Exit → List Value → Heap → Out)
    (w1 : -9223372036854775808 ≤ x * (2 : Int) ∧ x * (2 : Int) ≤ 9223372036854775807 := by omega)
    (w2 : -9223372036854775808 ≤ i + (1 : Int) ∧ i + (1 : Int) ≤ 9223372036854775807 := by omega)
    (h1 : i < n := by first | omega | assumption | rfl) : roundK Try.prog ((mkS []).on [(7, true)]) noL Try.f79.ntmps 0 (loopOf Try.f79 0) liveTw [w63 0, w63 n, w63 x, w63 i] [] on out =
     (on [Value.int IntKind.i64 (0 : Int), Value.int IntKind.i64 n, Value.int IntKind.i64 (x * (2 : Int)), Value.int IntKind.i64 (i + (1 : Int))] []) :=
  Eq.trans (b :=
     bif decide (i < n) then on [Value.int IntKind.i64 (0 : Int), Value.int IntKind.i64 n, Value.int IntKind.i64 (IntKind.i64.wrap (x * (2 : Int))), Value.int IntKind.i64 (IntKind.i64.wrap (i + (1 :
     Int)))] [] else none) (by kernel_rfl) (by simp only [-eq_self, swrap w1.1 w1.2, swrap w2.1 w2.2]; exact (go_t (dec_t h1) rfl))
--CFEND
--CP pTwx (n x i : Int) (on : List Value → Heap → Out) (out : Exit → List Value → Heap → Out) :: roundK Try.prog ((mkS []).on [(7, false)]) noL Try.f79.ntmps 0 (loopOf Try.f79 0) liveTw [w63 0, w63 n, w63 x, w63 i] [] on out
theorem pTwx (n x i : Int) (on : List Value → Heap → Out) (out : Exit → List Value → Heap → Out)
    (h1 : ¬i < n := by first | omega | assumption | rfl) : roundK Try.prog ((mkS []).on [(7, false)]) noL Try.f79.ntmps 0 (loopOf Try.f79 0) liveTw [w63 0, w63 n, w63 x, w63 i] [] on out =
     (out (Exit.exit (0 : Nat)) [Value.int IntKind.i64 (0 : Int), Value.int IntKind.i64 n, Value.int IntKind.i64 x, Value.int IntKind.i64 i] []) :=
  Eq.trans (by kernel_rfl) (go_f (dec_f h1) rfl)
--CFEND
end Go.Proofs.Ytcjjngdkkihgjaa.VC
