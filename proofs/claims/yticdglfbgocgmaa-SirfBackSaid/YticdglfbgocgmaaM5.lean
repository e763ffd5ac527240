/- The document's numbers: power, Get, turned, Layout: closed forms. -/
import Derived.Test.YticdglfbgocgmaaM4
namespace Go.Proofs.Yticdglfbgocgmaa.VC
open Go Go.Proofs

/-- 256 to the power of a number. -/
def pw256 (n : Int) : Int := (256 : Int) ^ n.toNat
def livePow : List Nat := [0, 2, 3, 4]
--CP pPow (p : Int) (n i : Nat) (on : List Value → Heap → Out) (out : Exit → List Value → Heap → Out) :: roundK Try.prog ((mkS []).on [(7, true)]) noL Try.f62.ntmps 0 (loopOf Try.f62 0) livePow [w63 n, w63 0, w63 p, w63 i] [] on out
theorem pPow (p : Int) (n i : Nat) (on : List Value → Heap → Out) (out : Exit → List Value → Heap → Out)
    (w1 : -9223372036854775808 ≤ p * (256 : Int) ∧ p * (256 : Int) ≤ 9223372036854775807 := by omega)
    (w2 : -9223372036854775808 ≤ (↑i : Int) + (1 : Int) ∧ (↑i : Int) + (1 : Int) ≤ 9223372036854775807 := by omega)
    (h1 : (↑i : Int) < (↑n : Int) := by first | omega | assumption | rfl) : roundK Try.prog ((mkS []).on [(7, true)]) noL Try.f62.ntmps 0 (loopOf Try.f62 0) livePow [w63 n, w63 0, w63 p, w63 i] [] on out =
     (on [Value.int IntKind.i64 (↑n : Int), Value.int IntKind.i64 (0 : Int), Value.int IntKind.i64 (p * (256 : Int)), Value.int IntKind.i64 ((↑i : Int) + (1 : Int))] []) :=
  Eq.trans (b :=
     bif decide ((↑i : Int) < (↑n : Int)) then on [Value.int IntKind.i64 (↑n : Int), Value.int IntKind.i64 (0 : Int), Value.int IntKind.i64 (IntKind.i64.wrap (p * (256 : Int))), Value.int IntKind.i64
     (IntKind.i64.wrap ((↑i : Int) + (1 : Int)))] [] else none) (by kernel_rfl) (by simp only [-eq_self, swrap w1.1 w1.2, swrap w2.1 w2.2]; exact (go_t (dec_t h1) rfl))
--CFEND
--CP pPowX (p : Int) (n i : Nat) (on : List Value → Heap → Out) (out : Exit → List Value → Heap → Out) :: roundK Try.prog ((mkS []).on [(7, false)]) noL Try.f62.ntmps 0 (loopOf Try.f62 0) livePow [w63 n, w63 0, w63 p, w63 i] [] on out
theorem pPowX (p : Int) (n i : Nat) (on : List Value → Heap → Out) (out : Exit → List Value → Heap → Out)
    (h1 : ¬(↑i : Int) < (↑n : Int) := by first | omega | assumption | rfl) : roundK Try.prog ((mkS []).on [(7, false)]) noL Try.f62.ntmps 0 (loopOf Try.f62 0) livePow [w63 n, w63 0, w63 p, w63 i] [] on out =
     (out (Exit.exit (0 : Nat)) [Value.int IntKind.i64 (↑n : Int), Value.int IntKind.i64 (0 : Int), Value.int IntKind.i64 p, Value.int IntKind.i64 (↑i : Int)] []) :=
  Eq.trans (by kernel_rfl) (go_f (dec_f h1) rfl)
--CFEND
noncomputable def LPowf : LF := fun vs h k => match vs, h with
  | [.int .i64 n, .int .i64 0, .int .i64 1, .int .i64 0], [] => bif chk (0 ≤ n ∧ n ≤ 7) then k (.exit 0) [w63 n, w63 0, w63 (pw256 n), w63 n] [] else none
  | _, _ => none
noncomputable def LPow : LSpec := oneL 3 livePow LPowf
--CP pPowF (n : Int) :: fnK Try.prog (mkS []) LPow Try.f62 [w63 n] []
theorem pPowF (n : Int)
    (h1 : (0 : Int) ≤ n ∧ n ≤ (7 : Int) := by first | omega | assumption | rfl | ((repeat' with_reducible apply And.intro) <;> first | rfl | assumption | omega)) : fnK Try.prog (mkS []) LPow Try.f62 [w63 n] [] =
     (some (Res.ret (Value.int IntKind.i64 (pw256 n)) [])) :=
  Eq.trans (by kernel_rfl) (go_t (chk_t h1) rfl)
--CFEND
noncomputable def FPow : FSpec := fun args h k => match args, h with
  | [.int .i64 n], [] => bif chk (0 ≤ n ∧ n ≤ 7) then k (w63 (pw256 n)) [] else none
  | _, _ => none
noncomputable def SPow : Spec := mkS [(62, false, FPow)]
def liveGetR : List Nat := [0, 1, 2, 6, 7, 8, 9]
--CP pGetR (v a s : Int) (o n c m i N : Nat) (xs : List Int) (on : List Value → Heap → Out) (out : Exit → List Value → Heap → Out) :: roundK Try.prog (SPow.on [(17, true)]) noL Try.f59.ntmps 1 (loopOf Try.f59 0) liveGetR [slo 0 o n c, w63 a, w63 s, w63 0, w63 m, w63 v, w63 i] [rU N xs] on out
theorem pGetR (v a s : Int) (o n c m i N : Nat) (xs : List Int) (on : List Value → Heap → Out) (out : Exit → List Value → Heap → Out)
    (w1 : -9223372036854775808 ≤ a + (↑i : Int) ∧ a + (↑i : Int) ≤ 9223372036854775807 := by omega)
    (w2 : -9223372036854775808 ≤ xs.getD (o + (a + (↑i : Int)).toNat) (0 : Int) ∧ xs.getD (o + (a + (↑i : Int)).toNat) (0 : Int) ≤ 9223372036854775807 := by omega)
    (w3 : -9223372036854775808 ≤ xs.getD (o + (a + (↑i : Int)).toNat) (0 : Int) * pw256 (↑i : Int) ∧ xs.getD (o + (a + (↑i : Int)).toNat) (0 : Int) * pw256 (↑i : Int) ≤ 9223372036854775807 := by omega)
    (w4 : -9223372036854775808 ≤ v + xs.getD (o + (a + (↑i : Int)).toNat) (0 : Int) * pw256 (↑i : Int) ∧ v + xs.getD (o + (a + (↑i : Int)).toNat) (0 : Int) * pw256 (↑i : Int) ≤ 9223372036854775807 := by omega)
    (w5 : -9223372036854775808 ≤ (↑i : Int) + (1 : Int) ∧ (↑i : Int) + (1 : Int) ≤ 9223372036854775807 := by omega)
    (h1 : (↑i : Int) < (↑m : Int) := by first | omega | assumption | rfl)
    (h2 : (0 : Int) ≤ a + (↑i : Int) := by first | omega | assumption | rfl)
    (h3 : a + (↑i : Int) < (↑n : Int) := by first | omega | assumption | rfl)
    (h4 : o + (a + (↑i : Int)).toNat < N := by first | omega | assumption | rfl)
    (h5 : (0 : Int) ≤ (↑i : Int) ∧ (↑i : Int) ≤ (7 : Int) := by first | omega | assumption | rfl | ((repeat' with_reducible apply And.intro) <;> first | rfl | assumption | omega)) : roundK Try.prog (SPow.on [(17, true)]) noL Try.f59.ntmps 1 (loopOf Try.f59 0) liveGetR [slo 0 o n c, w63 a, w63 s, w63 0, w63 m, w63 v, w63 i] [rU N xs] on out =
     (on [Value.slice (some (Addr.mk (0 : Nat) o none)) n c, Value.int IntKind.i64 a, Value.int IntKind.i64 s, Value.int IntKind.i64 (0 : Int), Value.int IntKind.i64 (↑m : Int), Value.int IntKind.i64 (v +
     xs.getD (o + (a + (↑i : Int)).toNat) (0 : Int) * pw256 (↑i : Int)), Value.int IntKind.i64 ((↑i : Int) + (1 : Int))] [some (Blk.mk false (1 : Nat) [Seg.ints IntKind.u8 N xs])]) :=
  Eq.trans (b :=
     bif decide ((↑i : Int) < (↑m : Int)) then bif decide ((0 : Int) ≤ IntKind.i64.wrap (a + (↑i : Int))) && decide (IntKind.i64.wrap (a + (↑i : Int)) < (↑n : Int)) then bif (o + (IntKind.i64.wrap (a + (↑i
     : Int))).toNat * (1 : Nat)).blt N then bif chk ((0 : Int) ≤ (↑i : Int) ∧ (↑i : Int) ≤ (7 : Int)) then on [Value.slice (some (Addr.mk (0 : Nat) o none)) n c, Value.int IntKind.i64 a, Value.int
     IntKind.i64 s, Value.int IntKind.i64 (0 : Int), Value.int IntKind.i64 (↑m : Int), Value.int IntKind.i64 (IntKind.i64.wrap (v + IntKind.i64.wrap (IntKind.i64.wrap (xs.getD (o + (IntKind.i64.wrap (a +
     (↑i : Int))).toNat * (1 : Nat)) (0 : Int)) * pw256 (↑i : Int)))), Value.int IntKind.i64 (IntKind.i64.wrap ((↑i : Int) + (1 : Int)))] [some (Blk.mk false (1 : Nat) [Seg.ints IntKind.u8 N xs])] else
     none else none else none else none) (by kernel_rfl) (by simp only [-eq_self, Nat.mul_one, swrap w1.1 w1.2, swrap w2.1 w2.2, swrap w3.1 w3.2, swrap w4.1 w4.2, swrap w5.1 w5.2]; exact (go_t (dec_t h1) (go_t (and_t (dec_t h2) (dec_t h3)) (go_t (blt_t h4) (go_t (chk_t h5) rfl)))))
--CFEND
--CP pGetRX (v a s : Int) (o n c m i N : Nat) (xs : List Int) (on : List Value → Heap → Out) (out : Exit → List Value → Heap → Out) :: roundK Try.prog (SPow.on [(17, false)]) noL Try.f59.ntmps 1 (loopOf Try.f59 0) liveGetR [slo 0 o n c, w63 a, w63 s, w63 0, w63 m, w63 v, w63 i] [rU N xs] on out
theorem pGetRX (v a s : Int) (o n c m i N : Nat) (xs : List Int) (on : List Value → Heap → Out) (out : Exit → List Value → Heap → Out)
    (h1 : ¬(↑i : Int) < (↑m : Int) := by first | omega | assumption | rfl) : roundK Try.prog (SPow.on [(17, false)]) noL Try.f59.ntmps 1 (loopOf Try.f59 0) liveGetR [slo 0 o n c, w63 a, w63 s, w63 0, w63 m, w63 v, w63 i] [rU N xs] on out =
     (out (Exit.exit (0 : Nat)) [Value.slice (some (Addr.mk (0 : Nat) o none)) n c, Value.int IntKind.i64 a, Value.int IntKind.i64 s, Value.int IntKind.i64 (0 : Int), Value.int IntKind.i64 (↑m : Int),
     Value.int IntKind.i64 v, Value.int IntKind.i64 (↑i : Int)] [some (Blk.mk false (1 : Nat) [Seg.ints IntKind.u8 N xs])]) :=
  Eq.trans (by kernel_rfl) (go_f (dec_f h1) rfl)
--CFEND
/-- Bytes' number, the lowest byte first. -/
def valL : List Int → Int
  | [] => 0
  | x :: r => x + 256 * valL r
noncomputable def LGetRf : LF := fun vs h k => match vs, h with
  | [.slice (some ⟨0, o, none⟩) n c, .int .i64 a, .int .i64 s, .int .i64 0, .int .i64 m, .int .i64 0, .int .i64 0], [some ⟨false, 1, [.ints .u8 N xs]⟩] =>
    bif chk (0 ≤ a ∧ 0 ≤ m ∧ m ≤ 4 ∧ a + m ≤ n ∧ o + n ≤ N ∧ N ≤ 1000000) then k (.exit 0) [slo 0 o n c, w63 a, w63 s, w63 0, w63 m, w63 (valL (fldB xs o a m)), w63 m] [rU N xs] else none
  | _, _ => none
noncomputable def LGetR : LSpec := oneL 6 liveGetR LGetRf
--CF cfGetRP (a s : Int) (o n c N : Nat) (xs : List Int) :: fnK Try.prog (SPow.on [(12, false), (34, false), (40, false)]) LGetR Try.f59 [slo 0 o n c, w63 a, w63 s] [rU N xs]
theorem cfGetRP (a s : Int) (o n c N : Nat) (xs : List Int) : fnK Try.prog (SPow.on [(12, false), (34, false), (40, false)]) LGetR Try.f59 [slo 0 o n c, w63 a, w63 s] [rU N xs] =
     (bif decide (s < 0) then none else bif chk (0 ≤ a ∧ 0 ≤ s ∧ s ≤ 4 ∧ a + s ≤ (↑n : Int) ∧ o + n ≤ N ∧ N ≤ 1000000) then bif decide (s < 0) then none else some (Res.ret (Value.int IntKind.i64 (valL
     (fldB xs o a s))) [some (Blk.mk false 1 [Seg.ints IntKind.u8 N xs])]) else none) := by kernel_rfl
--CFEND
--CF cfGetRN0 (a s : Int) (o n c N : Nat) (xs : List Int) :: fnK Try.prog (SPow.on [(12, true), (34, true), (40, false)]) LGetR Try.f59 [slo 0 o n c, w63 a, w63 s] [rU N xs]
theorem cfGetRN0 (a s : Int) (o n c N : Nat) (xs : List Int) : fnK Try.prog (SPow.on [(12, true), (34, true), (40, false)]) LGetR Try.f59 [slo 0 o n c, w63 a, w63 s] [rU N xs] =
     (bif decide (s < 0) then bif chk (0 ≤ a ∧ 0 ≤ IntKind.i64.wrap (0 - s) ∧ IntKind.i64.wrap (0 - s) ≤ 4 ∧ a + IntKind.i64.wrap (0 - s) ≤ (↑n : Int) ∧ o + n ≤ N ∧ N ≤ 1000000) then bif decide (s < 0)
     then bif chk (0 ≤ IntKind.i64.wrap (0 - s) ∧ IntKind.i64.wrap (0 - s) ≤ 7) then bif decide (valL (fldB xs o a (IntKind.i64.wrap (0 - s))) ≥ IntKind.i64.wrap ((pw256 (IntKind.i64.wrap (0 - s))).tdiv
     2)) then none else some (Res.ret (Value.int IntKind.i64 (valL (fldB xs o a (IntKind.i64.wrap (0 - s))))) [some (Blk.mk false 1 [Seg.ints IntKind.u8 N xs])]) else none else none else none else none) := by kernel_rfl
--CFEND
--CF cfGetRN1 (a s : Int) (o n c N : Nat) (xs : List Int) :: fnK Try.prog (SPow.on [(12, true), (34, true), (40, true)]) LGetR Try.f59 [slo 0 o n c, w63 a, w63 s] [rU N xs]
theorem cfGetRN1 (a s : Int) (o n c N : Nat) (xs : List Int) : fnK Try.prog (SPow.on [(12, true), (34, true), (40, true)]) LGetR Try.f59 [slo 0 o n c, w63 a, w63 s] [rU N xs] =
     (bif decide (s < 0) then bif chk (0 ≤ a ∧ 0 ≤ IntKind.i64.wrap (0 - s) ∧ IntKind.i64.wrap (0 - s) ≤ 4 ∧ a + IntKind.i64.wrap (0 - s) ≤ (↑n : Int) ∧ o + n ≤ N ∧ N ≤ 1000000) then bif decide (s < 0)
     then bif chk (0 ≤ IntKind.i64.wrap (0 - s) ∧ IntKind.i64.wrap (0 - s) ≤ 7) then bif decide (valL (fldB xs o a (IntKind.i64.wrap (0 - s))) ≥ IntKind.i64.wrap ((pw256 (IntKind.i64.wrap (0 - s))).tdiv
     2)) then bif chk (0 ≤ IntKind.i64.wrap (0 - s) ∧ IntKind.i64.wrap (0 - s) ≤ 7) then some (Res.ret (Value.int IntKind.i64 (IntKind.i64.wrap (valL (fldB xs o a (IntKind.i64.wrap (0 - s))) - pw256
     (IntKind.i64.wrap (0 - s))))) [some (Blk.mk false 1 [Seg.ints IntKind.u8 N xs])]) else none else none else none else none else none else none) := by kernel_rfl
--CFEND
end Go.Proofs.Yticdglfbgocgmaa.VC
