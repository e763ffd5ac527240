/- sirf, the document's: Fits, Payload: closed forms. -/
import Derived.Test.YticdglfbgocgmaaM16
namespace Go.Proofs.Yticdglfbgocgmaa.VC
open Go Go.Proofs

--CF cfFitP0 (v s : Int) :: fnK Try.prog (SPow.on [(6, false), (24, false)]) noL Try.f61 [w63 v, w63 s] []
theorem cfFitP0 (v s : Int) : fnK Try.prog (SPow.on [(6, false), (24, false)]) noL Try.f61 [w63 v, w63 s] [] =
     (bif decide (s < 0) then none else bif decide (v ≥ 0) then none else some (Res.ret (Value.bool false) [])) := by kernel_rfl
--CFEND
--CF cfFitP1 (v s : Int) :: fnK Try.prog (SPow.on [(6, false), (24, true)]) noL Try.f61 [w63 v, w63 s] []
theorem cfFitP1 (v s : Int) : fnK Try.prog (SPow.on [(6, false), (24, true)]) noL Try.f61 [w63 v, w63 s] [] =
     (bif decide (s < 0) then none else bif decide (v ≥ 0) then bif chk (0 ≤ s ∧ s ≤ 7) then some (Res.ret (Value.bool (decide (v < pw256 s))) []) else none else none) := by kernel_rfl
--CFEND
--CF cfFitN0 (v s : Int) :: fnK Try.prog (SPow.on [(6, true), (14, false)]) noL Try.f61 [w63 v, w63 s] []
theorem cfFitN0 (v s : Int) : fnK Try.prog (SPow.on [(6, true), (14, false)]) noL Try.f61 [w63 v, w63 s] [] =
     (bif decide (s < 0) then bif chk (0 ≤ IntKind.i64.wrap (0 - s) ∧ IntKind.i64.wrap (0 - s) ≤ 7) then bif decide (v ≥ IntKind.i64.wrap ((IntKind.i64.wrap (0 - pw256 (IntKind.i64.wrap (0 - s)))).tdiv 2))
     then none else some (Res.ret (Value.bool false) []) else none else none) := by kernel_rfl
--CFEND
--CF cfFitN1 (v s : Int) :: fnK Try.prog (SPow.on [(6, true), (14, true)]) noL Try.f61 [w63 v, w63 s] []
theorem cfFitN1 (v s : Int) : fnK Try.prog (SPow.on [(6, true), (14, true)]) noL Try.f61 [w63 v, w63 s] [] =
     (bif decide (s < 0) then bif chk (0 ≤ IntKind.i64.wrap (0 - s) ∧ IntKind.i64.wrap (0 - s) ≤ 7) then bif decide (v ≥ IntKind.i64.wrap ((IntKind.i64.wrap (0 - pw256 (IntKind.i64.wrap (0 - s)))).tdiv 2))
     then bif chk (0 ≤ IntKind.i64.wrap (0 - s) ∧ IntKind.i64.wrap (0 - s) ≤ 7) then some (Res.ret (Value.bool (decide (v < IntKind.i64.wrap ((pw256 (IntKind.i64.wrap (0 - s))).tdiv 2)))) []) else none
     else none else none else none) := by kernel_rfl
--CFEND
noncomputable def FFitR : FSpec := fun args h k => match args, h with
  | [.int .i64 v, .int .i64 s], [] => bif chk (-4 ≤ s ∧ s ≤ 4 ∧ s ≠ 0) then k (.bool (decide (fitI v s))) [] else none
  | _, _ => none
noncomputable def SPrR : Spec := mkS [(61, false, FFitR)]
noncomputable def outPr : Code := loopOf Try.f28 0
noncomputable def inPr : Code := ((loops outPr)[0]?).getD .skip
def livePrI : List Nat := [1, 2, 3, 4, 5, 6, 7, 8, 9, 10]
--CP pPrI0 (x v m j : Int) (n q c cc len i k : Nat) (vs bs fl : List Int) (on : List Value → Heap → Out) (out : Exit → List Value → Heap → Out) :: roundK Try.prog ((mkS []).on [(66, true), (72, false)]) noL Try.f28.ntmps 1 inPr livePrI [pt 1, .slice none 0 0, w63 0, w63 len, sl 2 (2 * k) 0, sl 3 len cc, w63 i, w63 m, w63 v, w63 j] [rI n vs, rS x (sl 0 q c), oI (2 * k) fl, oU len bs] on out
theorem pPrI0 (x v m j : Int) (n q c cc len i k : Nat) (vs bs fl : List Int) (on : List Value → Heap → Out) (out : Exit → List Value → Heap → Out)
    (w1 : -9223372036854775808 ≤ (2 : Int) * (↑i : Int) ∧ (2 : Int) * (↑i : Int) ≤ 9223372036854775807 := by omega)
    (w2 : -9223372036854775808 ≤ fl.getD ((2 : Int) * (↑i : Int)).toNat (0 : Int) + j ∧ fl.getD ((2 : Int) * (↑i : Int)).toNat (0 : Int) + j ≤ 9223372036854775807 := by omega)
    (w3 : -9223372036854775808 ≤ v - v.tmod (256 : Int) ∧ v - v.tmod (256 : Int) ≤ 9223372036854775807 := by omega)
    (w4 : -9223372036854775808 ≤ (v - v.tmod (256 : Int)).tdiv (256 : Int) ∧ (v - v.tmod (256 : Int)).tdiv (256 : Int) ≤ 9223372036854775807 := by omega)
    (w5 : -9223372036854775808 ≤ j - (1 : Int) ∧ j - (1 : Int) ≤ 9223372036854775807 := by omega)
    (h1 : j ≥ (0 : Int) := by first | omega | assumption | rfl)
    (h2 : ¬v.tmod (256 : Int) < (0 : Int) := by first | omega | assumption | rfl)
    (h3 : (0 : Int) ≤ (2 : Int) * (↑i : Int) := by first | omega | assumption | rfl)
    (h4 : (2 : Int) * (↑i : Int) < (↑((2 : Nat) * k) : Int) := by first | omega | assumption | rfl)
    (h5 : ((2 : Int) * (↑i : Int)).toNat < (2 : Nat) * k := by first | omega | assumption | rfl)
    (h6 : (0 : Int) ≤ fl.getD ((2 : Int) * (↑i : Int)).toNat (0 : Int) + j := by first | omega | assumption | rfl)
    (h7 : fl.getD ((2 : Int) * (↑i : Int)).toNat (0 : Int) + j < (↑len : Int) := by first | omega | assumption | rfl)
    (h8 : (fl.getD ((2 : Int) * (↑i : Int)).toNat (0 : Int) + j).toNat < len := by first | omega | assumption | rfl) : roundK Try.prog ((mkS []).on [(66, true), (72, false)]) noL Try.f28.ntmps 1 inPr livePrI [pt 1, .slice none 0 0, w63 0, w63 len, sl 2 (2 * k) 0, sl 3 len cc, w63 i, w63 m, w63 v, w63 j] [rI n vs, rS x (sl 0 q c), oI (2 * k) fl, oU len bs] on out =
     (on [Value.pointer (some (Addr.mk (1 : Nat) (0 : Nat) none)), Value.slice none (0 : Nat) (0 : Nat), Value.int IntKind.i64 (0 : Int), Value.int IntKind.i64 (↑len : Int), Value.slice (some (Addr.mk (2 :
     Nat) (0 : Nat) none)) ((2 : Nat) * k) (0 : Nat), Value.slice (some (Addr.mk (3 : Nat) (0 : Nat) none)) len cc, Value.int IntKind.i64 (↑i : Int), Value.int IntKind.i64 m, Value.int IntKind.i64 ((v -
     v.tmod (256 : Int)).tdiv (256 : Int)), Value.int IntKind.i64 (j - (1 : Int))] [some (Blk.mk false (1 : Nat) [Seg.ints IntKind.i64 n vs]), some (Blk.mk true (2 : Nat) [Seg.ints IntKind.u8 (1 : Nat)
     [x], Seg.vals [Value.slice (some (Addr.mk (0 : Nat) (0 : Nat) none)) q c]]), some (Blk.mk true (1 : Nat) [Seg.ints IntKind.i64 ((2 : Nat) * k) fl]), some (Blk.mk true (1 : Nat) [Seg.ints IntKind.u8
     len (bs.set (fl.getD ((2 : Int) * (↑i : Int)).toNat (0 : Int) + j).toNat (IntKind.u8.wrap (v.tmod (256 : Int))))])]) :=
  Eq.trans (b :=
     bif decide (j ≥ (0 : Int)) then bif decide (v.tmod (256 : Int) < (0 : Int)) then none else bif decide ((0 : Int) ≤ IntKind.i64.wrap ((2 : Int) * (↑i : Int))) && decide (IntKind.i64.wrap ((2 : Int) *
     (↑i : Int)) < (↑((2 : Nat) * k) : Int)) then bif ((0 : Nat) + (IntKind.i64.wrap ((2 : Int) * (↑i : Int))).toNat * (1 : Nat)).blt ((2 : Nat) * k) then bif decide ((0 : Int) ≤ IntKind.i64.wrap (fl.getD
     ((0 : Nat) + (IntKind.i64.wrap ((2 : Int) * (↑i : Int))).toNat * (1 : Nat)) (0 : Int) + j)) && decide (IntKind.i64.wrap (fl.getD ((0 : Nat) + (IntKind.i64.wrap ((2 : Int) * (↑i : Int))).toNat * (1 :
     Nat)) (0 : Int) + j) < (↑len : Int)) then bif ((0 : Nat) + (IntKind.i64.wrap (fl.getD ((0 : Nat) + (IntKind.i64.wrap ((2 : Int) * (↑i : Int))).toNat * (1 : Nat)) (0 : Int) + j)).toNat * (1 : Nat)).blt
     len then on [Value.pointer (some (Addr.mk (1 : Nat) (0 : Nat) none)), Value.slice none (0 : Nat) (0 : Nat), Value.int IntKind.i64 (0 : Int), Value.int IntKind.i64 (↑len : Int), Value.slice (some
     (Addr.mk (2 : Nat) (0 : Nat) none)) ((2 : Nat) * k) (0 : Nat), Value.slice (some (Addr.mk (3 : Nat) (0 : Nat) none)) len cc, Value.int IntKind.i64 (↑i : Int), Value.int IntKind.i64 m, Value.int
     IntKind.i64 (IntKind.i64.wrap ((IntKind.i64.wrap (v - v.tmod (256 : Int))).tdiv (256 : Int))), Value.int IntKind.i64 (IntKind.i64.wrap (j - (1 : Int)))] [some (Blk.mk false (1 : Nat) [Seg.ints
     IntKind.i64 n vs]), some (Blk.mk true (2 : Nat) [Seg.ints IntKind.u8 (1 : Nat) [x], Seg.vals [Value.slice (some (Addr.mk (0 : Nat) (0 : Nat) none)) q c]]), some (Blk.mk true (1 : Nat) [Seg.ints
     IntKind.i64 ((2 : Nat) * k) fl]), some (Blk.mk true (1 : Nat) [Seg.ints IntKind.u8 len (bs.set ((0 : Nat) + (IntKind.i64.wrap (fl.getD ((0 : Nat) + (IntKind.i64.wrap ((2 : Int) * (↑i : Int))).toNat *
     (1 : Nat)) (0 : Int) + j)).toNat * (1 : Nat)) (IntKind.u8.wrap (v.tmod (256 : Int))))])] else none else none else none else none else none) (by kernel_rfl) (by simp only [-eq_self, Nat.mul_one, Nat.zero_add, swrap w1.1 w1.2, swrap w2.1 w2.2, swrap w3.1 w3.2, swrap w4.1 w4.2, swrap w5.1 w5.2]; exact (go_t (dec_t h1) (go_f (dec_f h2) (go_t (and_t (dec_t h3) (dec_t h4)) (go_t (blt_t h5) (go_t (and_t (dec_t h6) (dec_t h7)) (go_t (blt_t h8) rfl)))))))
--CFEND
--CP pPrI1 (x v m j : Int) (n q c cc len i k : Nat) (vs bs fl : List Int) (on : List Value → Heap → Out) (out : Exit → List Value → Heap → Out) :: roundK Try.prog ((mkS []).on [(66, true), (72, true)]) noL Try.f28.ntmps 1 inPr livePrI [pt 1, .slice none 0 0, w63 0, w63 len, sl 2 (2 * k) 0, sl 3 len cc, w63 i, w63 m, w63 v, w63 j] [rI n vs, rS x (sl 0 q c), oI (2 * k) fl, oU len bs] on out
theorem pPrI1 (x v m j : Int) (n q c cc len i k : Nat) (vs bs fl : List Int) (on : List Value → Heap → Out) (out : Exit → List Value → Heap → Out)
    (w1 : -9223372036854775808 ≤ (2 : Int) * (↑i : Int) ∧ (2 : Int) * (↑i : Int) ≤ 9223372036854775807 := by omega)
    (w2 : -9223372036854775808 ≤ fl.getD ((2 : Int) * (↑i : Int)).toNat (0 : Int) + j ∧ fl.getD ((2 : Int) * (↑i : Int)).toNat (0 : Int) + j ≤ 9223372036854775807 := by omega)
    (w3 : -9223372036854775808 ≤ v.tmod (256 : Int) + (256 : Int) ∧ v.tmod (256 : Int) + (256 : Int) ≤ 9223372036854775807 := by omega)
    (w4 : -9223372036854775808 ≤ v - (v.tmod (256 : Int) + (256 : Int)) ∧ v - (v.tmod (256 : Int) + (256 : Int)) ≤ 9223372036854775807 := by omega)
    (w5 : -9223372036854775808 ≤ (v - (v.tmod (256 : Int) + (256 : Int))).tdiv (256 : Int) ∧ (v - (v.tmod (256 : Int) + (256 : Int))).tdiv (256 : Int) ≤ 9223372036854775807 := by omega)
    (w6 : -9223372036854775808 ≤ j - (1 : Int) ∧ j - (1 : Int) ≤ 9223372036854775807 := by omega)
    (h1 : j ≥ (0 : Int) := by first | omega | assumption | rfl)
    (h2 : v.tmod (256 : Int) < (0 : Int) := by first | omega | assumption | rfl)
    (h3 : (0 : Int) ≤ (2 : Int) * (↑i : Int) := by first | omega | assumption | rfl)
    (h4 : (2 : Int) * (↑i : Int) < (↑((2 : Nat) * k) : Int) := by first | omega | assumption | rfl)
    (h5 : ((2 : Int) * (↑i : Int)).toNat < (2 : Nat) * k := by first | omega | assumption | rfl)
    (h6 : (0 : Int) ≤ fl.getD ((2 : Int) * (↑i : Int)).toNat (0 : Int) + j := by first | omega | assumption | rfl)
    (h7 : fl.getD ((2 : Int) * (↑i : Int)).toNat (0 : Int) + j < (↑len : Int) := by first | omega | assumption | rfl)
    (h8 : (fl.getD ((2 : Int) * (↑i : Int)).toNat (0 : Int) + j).toNat < len := by first | omega | assumption | rfl) : roundK Try.prog ((mkS []).on [(66, true), (72, true)]) noL Try.f28.ntmps 1 inPr livePrI [pt 1, .slice none 0 0, w63 0, w63 len, sl 2 (2 * k) 0, sl 3 len cc, w63 i, w63 m, w63 v, w63 j] [rI n vs, rS x (sl 0 q c), oI (2 * k) fl, oU len bs] on out =
     (on [Value.pointer (some (Addr.mk (1 : Nat) (0 : Nat) none)), Value.slice none (0 : Nat) (0 : Nat), Value.int IntKind.i64 (0 : Int), Value.int IntKind.i64 (↑len : Int), Value.slice (some (Addr.mk (2 :
     Nat) (0 : Nat) none)) ((2 : Nat) * k) (0 : Nat), Value.slice (some (Addr.mk (3 : Nat) (0 : Nat) none)) len cc, Value.int IntKind.i64 (↑i : Int), Value.int IntKind.i64 m, Value.int IntKind.i64 ((v -
     (v.tmod (256 : Int) + (256 : Int))).tdiv (256 : Int)), Value.int IntKind.i64 (j - (1 : Int))] [some (Blk.mk false (1 : Nat) [Seg.ints IntKind.i64 n vs]), some (Blk.mk true (2 : Nat) [Seg.ints
     IntKind.u8 (1 : Nat) [x], Seg.vals [Value.slice (some (Addr.mk (0 : Nat) (0 : Nat) none)) q c]]), some (Blk.mk true (1 : Nat) [Seg.ints IntKind.i64 ((2 : Nat) * k) fl]), some (Blk.mk true (1 : Nat)
     [Seg.ints IntKind.u8 len (bs.set (fl.getD ((2 : Int) * (↑i : Int)).toNat (0 : Int) + j).toNat (IntKind.u8.wrap (v.tmod (256 : Int) + (256 : Int))))])]) :=
  Eq.trans (b :=
     bif decide (j ≥ (0 : Int)) then bif decide (v.tmod (256 : Int) < (0 : Int)) then bif decide ((0 : Int) ≤ IntKind.i64.wrap ((2 : Int) * (↑i : Int))) && decide (IntKind.i64.wrap ((2 : Int) * (↑i : Int))
     < (↑((2 : Nat) * k) : Int)) then bif ((0 : Nat) + (IntKind.i64.wrap ((2 : Int) * (↑i : Int))).toNat * (1 : Nat)).blt ((2 : Nat) * k) then bif decide ((0 : Int) ≤ IntKind.i64.wrap (fl.getD ((0 : Nat) +
     (IntKind.i64.wrap ((2 : Int) * (↑i : Int))).toNat * (1 : Nat)) (0 : Int) + j)) && decide (IntKind.i64.wrap (fl.getD ((0 : Nat) + (IntKind.i64.wrap ((2 : Int) * (↑i : Int))).toNat * (1 : Nat)) (0 :
     Int) + j) < (↑len : Int)) then bif ((0 : Nat) + (IntKind.i64.wrap (fl.getD ((0 : Nat) + (IntKind.i64.wrap ((2 : Int) * (↑i : Int))).toNat * (1 : Nat)) (0 : Int) + j)).toNat * (1 : Nat)).blt len then
     on [Value.pointer (some (Addr.mk (1 : Nat) (0 : Nat) none)), Value.slice none (0 : Nat) (0 : Nat), Value.int IntKind.i64 (0 : Int), Value.int IntKind.i64 (↑len : Int), Value.slice (some (Addr.mk (2 :
     Nat) (0 : Nat) none)) ((2 : Nat) * k) (0 : Nat), Value.slice (some (Addr.mk (3 : Nat) (0 : Nat) none)) len cc, Value.int IntKind.i64 (↑i : Int), Value.int IntKind.i64 m, Value.int IntKind.i64
     (IntKind.i64.wrap ((IntKind.i64.wrap (v - IntKind.i64.wrap (v.tmod (256 : Int) + (256 : Int)))).tdiv (256 : Int))), Value.int IntKind.i64 (IntKind.i64.wrap (j - (1 : Int)))] [some (Blk.mk false (1 :
     Nat) [Seg.ints IntKind.i64 n vs]), some (Blk.mk true (2 : Nat) [Seg.ints IntKind.u8 (1 : Nat) [x], Seg.vals [Value.slice (some (Addr.mk (0 : Nat) (0 : Nat) none)) q c]]), some (Blk.mk true (1 : Nat)
     [Seg.ints IntKind.i64 ((2 : Nat) * k) fl]), some (Blk.mk true (1 : Nat) [Seg.ints IntKind.u8 len (bs.set ((0 : Nat) + (IntKind.i64.wrap (fl.getD ((0 : Nat) + (IntKind.i64.wrap ((2 : Int) * (↑i :
     Int))).toNat * (1 : Nat)) (0 : Int) + j)).toNat * (1 : Nat)) (IntKind.u8.wrap (IntKind.i64.wrap (v.tmod (256 : Int) + (256 : Int)))))])] else none else none else none else none else none else none) (by kernel_rfl) (by simp only [-eq_self, Nat.mul_one, Nat.zero_add, swrap w1.1 w1.2, swrap w2.1 w2.2, swrap w3.1 w3.2, swrap w4.1 w4.2, swrap w5.1 w5.2, swrap w6.1 w6.2]; exact (go_t (dec_t h1) (go_t (dec_t h2) (go_t (and_t (dec_t h3) (dec_t h4)) (go_t (blt_t h5) (go_t (and_t (dec_t h6) (dec_t h7)) (go_t (blt_t h8) rfl)))))))
--CFEND
--CP pPrIX (x v m j : Int) (n q c cc len i k : Nat) (vs bs fl : List Int) (on : List Value → Heap → Out) (out : Exit → List Value → Heap → Out) :: roundK Try.prog ((mkS []).on [(66, false)]) noL Try.f28.ntmps 1 inPr livePrI [pt 1, .slice none 0 0, w63 0, w63 len, sl 2 (2 * k) 0, sl 3 len cc, w63 i, w63 m, w63 v, w63 j] [rI n vs, rS x (sl 0 q c), oI (2 * k) fl, oU len bs] on out
theorem pPrIX (x v m j : Int) (n q c cc len i k : Nat) (vs bs fl : List Int) (on : List Value → Heap → Out) (out : Exit → List Value → Heap → Out)
    (h1 : ¬j ≥ (0 : Int) := by first | omega | assumption | rfl) : roundK Try.prog ((mkS []).on [(66, false)]) noL Try.f28.ntmps 1 inPr livePrI [pt 1, .slice none 0 0, w63 0, w63 len, sl 2 (2 * k) 0, sl 3 len cc, w63 i, w63 m, w63 v, w63 j] [rI n vs, rS x (sl 0 q c), oI (2 * k) fl, oU len bs] on out =
     (out (Exit.exit (2 : Nat)) [Value.pointer (some (Addr.mk (1 : Nat) (0 : Nat) none)), Value.slice none (0 : Nat) (0 : Nat), Value.int IntKind.i64 (0 : Int), Value.int IntKind.i64 (↑len : Int),
     Value.slice (some (Addr.mk (2 : Nat) (0 : Nat) none)) ((2 : Nat) * k) (0 : Nat), Value.slice (some (Addr.mk (3 : Nat) (0 : Nat) none)) len cc, Value.int IntKind.i64 (↑i : Int), Value.int IntKind.i64
     m, Value.int IntKind.i64 v, Value.int IntKind.i64 j] [some (Blk.mk false (1 : Nat) [Seg.ints IntKind.i64 n vs]), some (Blk.mk true (2 : Nat) [Seg.ints IntKind.u8 (1 : Nat) [x], Seg.vals [Value.slice
     (some (Addr.mk (0 : Nat) (0 : Nat) none)) q c]]), some (Blk.mk true (1 : Nat) [Seg.ints IntKind.i64 ((2 : Nat) * k) fl]), some (Blk.mk true (1 : Nat) [Seg.ints IntKind.u8 len bs])]) :=
  Eq.trans (by kernel_rfl) (go_f (dec_f h1) rfl)
--CFEND
noncomputable def LPrIf : LF := fun vs h k => match vs, h with
  | [.pointer (some ⟨1, 0, none⟩), .slice none 0 0, .int .i64 0, .int .i64 ln, .slice (some ⟨2, 0, none⟩) K' 0, .slice (some ⟨3, 0, none⟩) len' cc, .int .i64 i, .int .i64 m, .int .i64 v, .int .i64 j], [some ⟨false, 1, [.ints .i64 n vl]⟩, some ⟨true, 2, [.ints .u8 1 [x], .vals [.slice (some ⟨0, 0, none⟩) q c]]⟩, some ⟨true, 1, [.ints .i64 K fl]⟩, some ⟨true, 1, [.ints .u8 len bs]⟩] =>
    bif chk (K' = K ∧ len' = len ∧ j = m - 1 ∧ 1 ≤ m ∧ m ≤ 4 ∧ 0 ≤ i ∧ K = 2 * (K / 2) ∧ 2 * i < K ∧ ln = len ∧ 0 ≤ fl.getD (2 * i).toNat 0 ∧ fl.getD (2 * i).toNat 0 + m ≤ len ∧ len ≤ 1000000 ∧ K ≤ 1000000 ∧ -1000000000000 ≤ v ∧ v ≤ 1000000000000) then
      k (.exit 2) [pt 1, .slice none 0 0, w63 0, w63 len, sl 2 K 0, sl 3 len cc, w63 i, w63 m, w63 (v / pw256 m), w63 (-1)] [rI n vl, rS x (sl 0 q c), oI K fl, oU len (putB bs (fl.getD (2 * i).toNat 0).toNat (be v m.toNat))] else none
  | _, _ => none
noncomputable def LPrI : LSpec := oneL 18 livePrI LPrIf
def livePrO : List Nat := [1, 2, 3, 4, 5, 6, 7]
--CP pPrP (x : Int) (n q c cc len i k : Nat) (vs bs fl : List Int) (on : List Value → Heap → Out) (out : Exit → List Value → Heap → Out) :: roundK Try.prog (SPrR.on [(37, true), (53, false), (55, false)]) LPrI Try.f28.ntmps 1 outPr livePrO [pt 1, .slice none 0 0, w63 0, w63 len, sl 2 (2 * k) 0, sl 3 len cc, w63 i] [rI n vs, rS x (sl 0 q c), oI (2 * k) fl, oU len bs] on out
theorem pPrP (x : Int) (n q c cc len i k : Nat) (vs bs fl : List Int) (on : List Value → Heap → Out) (out : Exit → List Value → Heap → Out)
    (w1 : -9223372036854775808 ≤ (2 : Int) * (↑i : Int) ∧ (2 : Int) * (↑i : Int) ≤ 9223372036854775807 := by omega)
    (w2 : -9223372036854775808 ≤ (2 : Int) * (↑i : Int) + (1 : Int) ∧ (2 : Int) * (↑i : Int) + (1 : Int) ≤ 9223372036854775807 := by omega)
    (w3 : -9223372036854775808 ≤ fl.getD ((2 : Int) * (↑i : Int) + (1 : Int)).toNat (0 : Int) - (1 : Int) ∧ fl.getD ((2 : Int) * (↑i : Int) + (1 : Int)).toNat (0 : Int) - (1 : Int) ≤ 9223372036854775807 := by omega)
    (w4 : -9223372036854775808 ≤ (↑i : Int) + (1 : Int) ∧ (↑i : Int) + (1 : Int) ≤ 9223372036854775807 := by omega)
    (h1 : (↑i : Int) < (↑q : Int) := by first | omega | assumption | rfl)
    (h2 : (0 : Int) ≤ (2 : Int) * (↑i : Int) + (1 : Int) := by first | omega | assumption | rfl)
    (h3 : (2 : Int) * (↑i : Int) + (1 : Int) < (↑((2 : Nat) * k) : Int) := by first | omega | assumption | rfl)
    (h4 : ((2 : Int) * (↑i : Int) + (1 : Int)).toNat < (2 : Nat) * k := by first | omega | assumption | rfl)
    (h5 : (0 : Int) ≤ (↑i : Int) := by first | omega | assumption | rfl)
    (h6 : i < n := by first | omega | assumption | rfl)
    (h7 : (-4 : Int) ≤ fl.getD ((2 : Int) * (↑i : Int) + (1 : Int)).toNat (0 : Int) ∧ fl.getD ((2 : Int) * (↑i : Int) + (1 : Int)).toNat (0 : Int) ≤ (4 : Int) ∧ fl.getD ((2 : Int) * (↑i : Int) + (1 : Int)).toNat (0 : Int) ≠ (0 : Int) := by first | omega | assumption | rfl | ((repeat' with_reducible apply And.intro) <;> first | rfl | assumption | omega))
    (h8 : fitI (vs.getD i (0 : Int)) (fl.getD ((2 : Int) * (↑i : Int) + (1 : Int)).toNat (0 : Int)) := by first | omega | assumption | rfl)
    (h9 : ¬fl.getD ((2 : Int) * (↑i : Int) + (1 : Int)).toNat (0 : Int) < (0 : Int) := by first | omega | assumption | rfl)
    (h10 : (2 : Nat) * k = (2 : Nat) * k ∧ len = len ∧ fl.getD ((2 : Int) * (↑i : Int) + (1 : Int)).toNat (0 : Int) - (1 : Int) = fl.getD ((2 : Int) * (↑i : Int) + (1 : Int)).toNat (0 : Int) - (1 : Int) ∧ (1 : Int) ≤ fl.getD ((2 : Int) * (↑i : Int) + (1 : Int)).toNat (0 : Int) ∧ fl.getD ((2 : Int) * (↑i : Int) + (1 : Int)).toNat (0 : Int) ≤ (4 : Int) ∧ (0 : Int) ≤ (↑i : Int) ∧ (2 : Nat) * k = (2 : Nat) * ((2 : Nat) * k / (2 : Nat)) ∧ (2 : Int) * (↑i : Int) < (↑((2 : Nat) * k) : Int) ∧ (↑len : Int) = (↑len : Int) ∧ (0 : Int) ≤ fl.getD ((2 : Int) * (↑i : Int)).toNat (0 : Int) ∧ fl.getD ((2 : Int) * (↑i : Int)).toNat (0 : Int) + fl.getD ((2 : Int) * (↑i : Int) + (1 : Int)).toNat (0 : Int) ≤ (↑len : Int) ∧ len ≤ (1000000 : Nat) ∧ (2 : Nat) * k ≤ (1000000 : Nat) ∧ (-1000000000000 : Int) ≤ vs.getD i (0 : Int) ∧ vs.getD i (0 : Int) ≤ (1000000000000 : Int) := by first | omega | assumption | rfl | ((repeat' with_reducible apply And.intro) <;> first | rfl | assumption | omega)) : roundK Try.prog (SPrR.on [(37, true), (53, false), (55, false)]) LPrI Try.f28.ntmps 1 outPr livePrO [pt 1, .slice none 0 0, w63 0, w63 len, sl 2 (2 * k) 0, sl 3 len cc, w63 i] [rI n vs, rS x (sl 0 q c), oI (2 * k) fl, oU len bs] on out =
     (on [Value.pointer (some (Addr.mk (1 : Nat) (0 : Nat) none)), Value.slice none (0 : Nat) (0 : Nat), Value.int IntKind.i64 (0 : Int), Value.int IntKind.i64 (↑len : Int), Value.slice (some (Addr.mk (2 :
     Nat) (0 : Nat) none)) ((2 : Nat) * k) (0 : Nat), Value.slice (some (Addr.mk (3 : Nat) (0 : Nat) none)) len cc, Value.int IntKind.i64 ((↑i : Int) + (1 : Int))] [some (Blk.mk false (1 : Nat) [Seg.ints
     IntKind.i64 n vs]), some (Blk.mk true (2 : Nat) [Seg.ints IntKind.u8 (1 : Nat) [x], Seg.vals [Value.slice (some (Addr.mk (0 : Nat) (0 : Nat) none)) q c]]), some (Blk.mk true (1 : Nat) [Seg.ints
     IntKind.i64 ((2 : Nat) * k) fl]), some (Blk.mk true (1 : Nat) [Seg.ints IntKind.u8 len (putB bs (fl.getD ((2 : Int) * (↑i : Int)).toNat (0 : Int)).toNat (be (vs.getD i (0 : Int)) (fl.getD ((2 : Int) *
     (↑i : Int) + (1 : Int)).toNat (0 : Int)).toNat))])]) :=
  Eq.trans (b :=
     bif decide ((↑i : Int) < (↑q : Int)) then bif decide ((0 : Int) ≤ IntKind.i64.wrap (IntKind.i64.wrap ((2 : Int) * (↑i : Int)) + (1 : Int))) && decide (IntKind.i64.wrap (IntKind.i64.wrap ((2 : Int) *
     (↑i : Int)) + (1 : Int)) < (↑((2 : Nat) * k) : Int)) then bif ((0 : Nat) + (IntKind.i64.wrap (IntKind.i64.wrap ((2 : Int) * (↑i : Int)) + (1 : Int))).toNat * (1 : Nat)).blt ((2 : Nat) * k) then bif
     decide ((0 : Int) ≤ (↑i : Int)) && decide ((↑i : Int) < (↑q : Int)) then bif ((0 : Nat) + (↑i : Int).toNat * (1 : Nat)).blt n then bif chk ((-4 : Int) ≤ fl.getD ((0 : Nat) + (IntKind.i64.wrap
     (IntKind.i64.wrap ((2 : Int) * (↑i : Int)) + (1 : Int))).toNat * (1 : Nat)) (0 : Int) ∧ fl.getD ((0 : Nat) + (IntKind.i64.wrap (IntKind.i64.wrap ((2 : Int) * (↑i : Int)) + (1 : Int))).toNat * (1 :
     Nat)) (0 : Int) ≤ (4 : Int) ∧ fl.getD ((0 : Nat) + (IntKind.i64.wrap (IntKind.i64.wrap ((2 : Int) * (↑i : Int)) + (1 : Int))).toNat * (1 : Nat)) (0 : Int) ≠ (0 : Int)) then bif !decide (fitI (vs.getD
     ((0 : Nat) + (↑i : Int).toNat * (1 : Nat)) (0 : Int)) (fl.getD ((0 : Nat) + (IntKind.i64.wrap (IntKind.i64.wrap ((2 : Int) * (↑i : Int)) + (1 : Int))).toNat * (1 : Nat)) (0 : Int))) then none else bif
     decide (fl.getD ((0 : Nat) + (IntKind.i64.wrap (IntKind.i64.wrap ((2 : Int) * (↑i : Int)) + (1 : Int))).toNat * (1 : Nat)) (0 : Int) < (0 : Int)) then none else bif decide ((0 : Int) ≤ (↑i : Int)) &&
     decide ((↑i : Int) < (↑q : Int)) then bif ((0 : Nat) + (↑i : Int).toNat * (1 : Nat)).blt n then bif chk ((2 : Nat) * k = (2 : Nat) * k ∧ len = len ∧ IntKind.i64.wrap (fl.getD ((0 : Nat) +
     (IntKind.i64.wrap (IntKind.i64.wrap ((2 : Int) * (↑i : Int)) + (1 : Int))).toNat * (1 : Nat)) (0 : Int) - (1 : Int)) = fl.getD ((0 : Nat) + (IntKind.i64.wrap (IntKind.i64.wrap ((2 : Int) * (↑i : Int))
     + (1 : Int))).toNat * (1 : Nat)) (0 : Int) - (1 : Int) ∧ (1 : Int) ≤ fl.getD ((0 : Nat) + (IntKind.i64.wrap (IntKind.i64.wrap ((2 : Int) * (↑i : Int)) + (1 : Int))).toNat * (1 : Nat)) (0 : Int) ∧
     fl.getD ((0 : Nat) + (IntKind.i64.wrap (IntKind.i64.wrap ((2 : Int) * (↑i : Int)) + (1 : Int))).toNat * (1 : Nat)) (0 : Int) ≤ (4 : Int) ∧ (0 : Int) ≤ (↑i : Int) ∧ (2 : Nat) * k = (2 : Nat) * ((2 :
     Nat) * k / (2 : Nat)) ∧ (2 : Int) * (↑i : Int) < (↑((2 : Nat) * k) : Int) ∧ (↑len : Int) = (↑len : Int) ∧ (0 : Int) ≤ fl.getD ((2 : Int) * (↑i : Int)).toNat (0 : Int) ∧ fl.getD ((2 : Int) * (↑i :
     Int)).toNat (0 : Int) + fl.getD ((0 : Nat) + (IntKind.i64.wrap (IntKind.i64.wrap ((2 : Int) * (↑i : Int)) + (1 : Int))).toNat * (1 : Nat)) (0 : Int) ≤ (↑len : Int) ∧ len ≤ (1000000 : Nat) ∧ (2 : Nat)
     * k ≤ (1000000 : Nat) ∧ (-1000000000000 : Int) ≤ vs.getD ((0 : Nat) + (↑i : Int).toNat * (1 : Nat)) (0 : Int) ∧ vs.getD ((0 : Nat) + (↑i : Int).toNat * (1 : Nat)) (0 : Int) ≤ (1000000000000 : Int))
     then on [Value.pointer (some (Addr.mk (1 : Nat) (0 : Nat) none)), Value.slice none (0 : Nat) (0 : Nat), Value.int IntKind.i64 (0 : Int), Value.int IntKind.i64 (↑len : Int), Value.slice (some (Addr.mk
     (2 : Nat) (0 : Nat) none)) ((2 : Nat) * k) (0 : Nat), Value.slice (some (Addr.mk (3 : Nat) (0 : Nat) none)) len cc, Value.int IntKind.i64 (IntKind.i64.wrap ((↑i : Int) + (1 : Int)))] [some (Blk.mk
     false (1 : Nat) [Seg.ints IntKind.i64 n vs]), some (Blk.mk true (2 : Nat) [Seg.ints IntKind.u8 (1 : Nat) [x], Seg.vals [Value.slice (some (Addr.mk (0 : Nat) (0 : Nat) none)) q c]]), some (Blk.mk true
     (1 : Nat) [Seg.ints IntKind.i64 ((2 : Nat) * k) fl]), some (Blk.mk true (1 : Nat) [Seg.ints IntKind.u8 len (putB bs (fl.getD ((2 : Int) * (↑i : Int)).toNat (0 : Int)).toNat (be (vs.getD ((0 : Nat) +
     (↑i : Int).toNat * (1 : Nat)) (0 : Int)) (fl.getD ((0 : Nat) + (IntKind.i64.wrap (IntKind.i64.wrap ((2 : Int) * (↑i : Int)) + (1 : Int))).toNat * (1 : Nat)) (0 : Int)).toNat))])] else none else none
     else none else none else none else none else none else none else none) (by kernel_rfl) (by simp only [-eq_self, Nat.mul_one, Nat.zero_add, Int.toNat_natCast, swrap w1.1 w1.2, swrap w2.1 w2.2, swrap w3.1 w3.2, swrap w4.1 w4.2]; exact (go_t (dec_t h1) (go_t (and_t (dec_t h2) (dec_t h3)) (go_t (blt_t h4) (go_t (and_t (dec_t h5) (dec_t h1)) (go_t (blt_t h6) (go_t (chk_t h7) (go_f (not_f (dec_t h8)) (go_f (dec_f h9) (go_t (and_t (dec_t h5) (dec_t h1)) (go_t (blt_t h6) (go_t (chk_t h10) rfl))))))))))))
--CFEND
--CP pPrN (x : Int) (n q c cc len i k : Nat) (vs bs fl : List Int) (on : List Value → Heap → Out) (out : Exit → List Value → Heap → Out) :: roundK Try.prog (SPrR.on [(37, true), (53, false), (55, true)]) LPrI Try.f28.ntmps 1 outPr livePrO [pt 1, .slice none 0 0, w63 0, w63 len, sl 2 (2 * k) 0, sl 3 len cc, w63 i] [rI n vs, rS x (sl 0 q c), oI (2 * k) fl, oU len bs] on out
theorem pPrN (x : Int) (n q c cc len i k : Nat) (vs bs fl : List Int) (on : List Value → Heap → Out) (out : Exit → List Value → Heap → Out)
    (w1 : -9223372036854775808 ≤ (2 : Int) * (↑i : Int) ∧ (2 : Int) * (↑i : Int) ≤ 9223372036854775807 := by omega)
    (w2 : -9223372036854775808 ≤ (2 : Int) * (↑i : Int) + (1 : Int) ∧ (2 : Int) * (↑i : Int) + (1 : Int) ≤ 9223372036854775807 := by omega)
    (w3 : -9223372036854775808 ≤ (0 : Int) - fl.getD ((2 : Int) * (↑i : Int) + (1 : Int)).toNat (0 : Int) ∧ (0 : Int) - fl.getD ((2 : Int) * (↑i : Int) + (1 : Int)).toNat (0 : Int) ≤ 9223372036854775807 := by omega)
    (w4 : -9223372036854775808 ≤ (0 : Int) - fl.getD ((2 : Int) * (↑i : Int) + (1 : Int)).toNat (0 : Int) - (1 : Int) ∧ (0 : Int) - fl.getD ((2 : Int) * (↑i : Int) + (1 : Int)).toNat (0 : Int) - (1 : Int) ≤ 9223372036854775807 := by omega)
    (w5 : -9223372036854775808 ≤ (↑i : Int) + (1 : Int) ∧ (↑i : Int) + (1 : Int) ≤ 9223372036854775807 := by omega)
    (h1 : (↑i : Int) < (↑q : Int) := by first | omega | assumption | rfl)
    (h2 : (0 : Int) ≤ (2 : Int) * (↑i : Int) + (1 : Int) := by first | omega | assumption | rfl)
    (h3 : (2 : Int) * (↑i : Int) + (1 : Int) < (↑((2 : Nat) * k) : Int) := by first | omega | assumption | rfl)
    (h4 : ((2 : Int) * (↑i : Int) + (1 : Int)).toNat < (2 : Nat) * k := by first | omega | assumption | rfl)
    (h5 : (0 : Int) ≤ (↑i : Int) := by first | omega | assumption | rfl)
    (h6 : i < n := by first | omega | assumption | rfl)
    (h7 : (-4 : Int) ≤ fl.getD ((2 : Int) * (↑i : Int) + (1 : Int)).toNat (0 : Int) ∧ fl.getD ((2 : Int) * (↑i : Int) + (1 : Int)).toNat (0 : Int) ≤ (4 : Int) ∧ fl.getD ((2 : Int) * (↑i : Int) + (1 : Int)).toNat (0 : Int) ≠ (0 : Int) := by first | omega | assumption | rfl | ((repeat' with_reducible apply And.intro) <;> first | rfl | assumption | omega))
    (h8 : fitI (vs.getD i (0 : Int)) (fl.getD ((2 : Int) * (↑i : Int) + (1 : Int)).toNat (0 : Int)) := by first | omega | assumption | rfl)
    (h9 : fl.getD ((2 : Int) * (↑i : Int) + (1 : Int)).toNat (0 : Int) < (0 : Int) := by first | omega | assumption | rfl)
    (h10 : (2 : Nat) * k = (2 : Nat) * k ∧ len = len ∧ (0 : Int) - fl.getD ((2 : Int) * (↑i : Int) + (1 : Int)).toNat (0 : Int) - (1 : Int) = (0 : Int) - fl.getD ((2 : Int) * (↑i : Int) + (1 : Int)).toNat (0 : Int) - (1 : Int) ∧ (1 : Int) ≤ (0 : Int) - fl.getD ((2 : Int) * (↑i : Int) + (1 : Int)).toNat (0 : Int) ∧ (0 : Int) - fl.getD ((2 : Int) * (↑i : Int) + (1 : Int)).toNat (0 : Int) ≤ (4 : Int) ∧ (0 : Int) ≤ (↑i : Int) ∧ (2 : Nat) * k = (2 : Nat) * ((2 : Nat) * k / (2 : Nat)) ∧ (2 : Int) * (↑i : Int) < (↑((2 : Nat) * k) : Int) ∧ (↑len : Int) = (↑len : Int) ∧ (0 : Int) ≤ fl.getD ((2 : Int) * (↑i : Int)).toNat (0 : Int) ∧ fl.getD ((2 : Int) * (↑i : Int)).toNat (0 : Int) + ((0 : Int) - fl.getD ((2 : Int) * (↑i : Int) + (1 : Int)).toNat (0 : Int)) ≤ (↑len : Int) ∧ len ≤ (1000000 : Nat) ∧ (2 : Nat) * k ≤ (1000000 : Nat) ∧ (-1000000000000 : Int) ≤ vs.getD i (0 : Int) ∧ vs.getD i (0 : Int) ≤ (1000000000000 : Int) := by first | omega | assumption | rfl | ((repeat' with_reducible apply And.intro) <;> first | rfl | assumption | omega)) : roundK Try.prog (SPrR.on [(37, true), (53, false), (55, true)]) LPrI Try.f28.ntmps 1 outPr livePrO [pt 1, .slice none 0 0, w63 0, w63 len, sl 2 (2 * k) 0, sl 3 len cc, w63 i] [rI n vs, rS x (sl 0 q c), oI (2 * k) fl, oU len bs] on out =
     (on [Value.pointer (some (Addr.mk (1 : Nat) (0 : Nat) none)), Value.slice none (0 : Nat) (0 : Nat), Value.int IntKind.i64 (0 : Int), Value.int IntKind.i64 (↑len : Int), Value.slice (some (Addr.mk (2 :
     Nat) (0 : Nat) none)) ((2 : Nat) * k) (0 : Nat), Value.slice (some (Addr.mk (3 : Nat) (0 : Nat) none)) len cc, Value.int IntKind.i64 ((↑i : Int) + (1 : Int))] [some (Blk.mk false (1 : Nat) [Seg.ints
     IntKind.i64 n vs]), some (Blk.mk true (2 : Nat) [Seg.ints IntKind.u8 (1 : Nat) [x], Seg.vals [Value.slice (some (Addr.mk (0 : Nat) (0 : Nat) none)) q c]]), some (Blk.mk true (1 : Nat) [Seg.ints
     IntKind.i64 ((2 : Nat) * k) fl]), some (Blk.mk true (1 : Nat) [Seg.ints IntKind.u8 len (putB bs (fl.getD ((2 : Int) * (↑i : Int)).toNat (0 : Int)).toNat (be (vs.getD i (0 : Int)) ((0 : Int) - fl.getD
     ((2 : Int) * (↑i : Int) + (1 : Int)).toNat (0 : Int)).toNat))])]) :=
  Eq.trans (b :=
     bif decide ((↑i : Int) < (↑q : Int)) then bif decide ((0 : Int) ≤ IntKind.i64.wrap (IntKind.i64.wrap ((2 : Int) * (↑i : Int)) + (1 : Int))) && decide (IntKind.i64.wrap (IntKind.i64.wrap ((2 : Int) *
     (↑i : Int)) + (1 : Int)) < (↑((2 : Nat) * k) : Int)) then bif ((0 : Nat) + (IntKind.i64.wrap (IntKind.i64.wrap ((2 : Int) * (↑i : Int)) + (1 : Int))).toNat * (1 : Nat)).blt ((2 : Nat) * k) then bif
     decide ((0 : Int) ≤ (↑i : Int)) && decide ((↑i : Int) < (↑q : Int)) then bif ((0 : Nat) + (↑i : Int).toNat * (1 : Nat)).blt n then bif chk ((-4 : Int) ≤ fl.getD ((0 : Nat) + (IntKind.i64.wrap
     (IntKind.i64.wrap ((2 : Int) * (↑i : Int)) + (1 : Int))).toNat * (1 : Nat)) (0 : Int) ∧ fl.getD ((0 : Nat) + (IntKind.i64.wrap (IntKind.i64.wrap ((2 : Int) * (↑i : Int)) + (1 : Int))).toNat * (1 :
     Nat)) (0 : Int) ≤ (4 : Int) ∧ fl.getD ((0 : Nat) + (IntKind.i64.wrap (IntKind.i64.wrap ((2 : Int) * (↑i : Int)) + (1 : Int))).toNat * (1 : Nat)) (0 : Int) ≠ (0 : Int)) then bif !decide (fitI (vs.getD
     ((0 : Nat) + (↑i : Int).toNat * (1 : Nat)) (0 : Int)) (fl.getD ((0 : Nat) + (IntKind.i64.wrap (IntKind.i64.wrap ((2 : Int) * (↑i : Int)) + (1 : Int))).toNat * (1 : Nat)) (0 : Int))) then none else bif
     decide (fl.getD ((0 : Nat) + (IntKind.i64.wrap (IntKind.i64.wrap ((2 : Int) * (↑i : Int)) + (1 : Int))).toNat * (1 : Nat)) (0 : Int) < (0 : Int)) then bif decide ((0 : Int) ≤ (↑i : Int)) && decide
     ((↑i : Int) < (↑q : Int)) then bif ((0 : Nat) + (↑i : Int).toNat * (1 : Nat)).blt n then bif chk ((2 : Nat) * k = (2 : Nat) * k ∧ len = len ∧ IntKind.i64.wrap (IntKind.i64.wrap ((0 : Int) - fl.getD
     ((0 : Nat) + (IntKind.i64.wrap (IntKind.i64.wrap ((2 : Int) * (↑i : Int)) + (1 : Int))).toNat * (1 : Nat)) (0 : Int)) - (1 : Int)) = IntKind.i64.wrap ((0 : Int) - fl.getD ((0 : Nat) +
     (IntKind.i64.wrap (IntKind.i64.wrap ((2 : Int) * (↑i : Int)) + (1 : Int))).toNat * (1 : Nat)) (0 : Int)) - (1 : Int) ∧ (1 : Int) ≤ IntKind.i64.wrap ((0 : Int) - fl.getD ((0 : Nat) + (IntKind.i64.wrap
     (IntKind.i64.wrap ((2 : Int) * (↑i : Int)) + (1 : Int))).toNat * (1 : Nat)) (0 : Int)) ∧ IntKind.i64.wrap ((0 : Int) - fl.getD ((0 : Nat) + (IntKind.i64.wrap (IntKind.i64.wrap ((2 : Int) * (↑i : Int))
     + (1 : Int))).toNat * (1 : Nat)) (0 : Int)) ≤ (4 : Int) ∧ (0 : Int) ≤ (↑i : Int) ∧ (2 : Nat) * k = (2 : Nat) * ((2 : Nat) * k / (2 : Nat)) ∧ (2 : Int) * (↑i : Int) < (↑((2 : Nat) * k) : Int) ∧ (↑len :
     Int) = (↑len : Int) ∧ (0 : Int) ≤ fl.getD ((2 : Int) * (↑i : Int)).toNat (0 : Int) ∧ fl.getD ((2 : Int) * (↑i : Int)).toNat (0 : Int) + IntKind.i64.wrap ((0 : Int) - fl.getD ((0 : Nat) +
     (IntKind.i64.wrap (IntKind.i64.wrap ((2 : Int) * (↑i : Int)) + (1 : Int))).toNat * (1 : Nat)) (0 : Int)) ≤ (↑len : Int) ∧ len ≤ (1000000 : Nat) ∧ (2 : Nat) * k ≤ (1000000 : Nat) ∧ (-1000000000000 :
     Int) ≤ vs.getD ((0 : Nat) + (↑i : Int).toNat * (1 : Nat)) (0 : Int) ∧ vs.getD ((0 : Nat) + (↑i : Int).toNat * (1 : Nat)) (0 : Int) ≤ (1000000000000 : Int)) then on [Value.pointer (some (Addr.mk (1 :
     Nat) (0 : Nat) none)), Value.slice none (0 : Nat) (0 : Nat), Value.int IntKind.i64 (0 : Int), Value.int IntKind.i64 (↑len : Int), Value.slice (some (Addr.mk (2 : Nat) (0 : Nat) none)) ((2 : Nat) * k)
     (0 : Nat), Value.slice (some (Addr.mk (3 : Nat) (0 : Nat) none)) len cc, Value.int IntKind.i64 (IntKind.i64.wrap ((↑i : Int) + (1 : Int)))] [some (Blk.mk false (1 : Nat) [Seg.ints IntKind.i64 n vs]),
     some (Blk.mk true (2 : Nat) [Seg.ints IntKind.u8 (1 : Nat) [x], Seg.vals [Value.slice (some (Addr.mk (0 : Nat) (0 : Nat) none)) q c]]), some (Blk.mk true (1 : Nat) [Seg.ints IntKind.i64 ((2 : Nat) *
     k) fl]), some (Blk.mk true (1 : Nat) [Seg.ints IntKind.u8 len (putB bs (fl.getD ((2 : Int) * (↑i : Int)).toNat (0 : Int)).toNat (be (vs.getD ((0 : Nat) + (↑i : Int).toNat * (1 : Nat)) (0 : Int))
     (IntKind.i64.wrap ((0 : Int) - fl.getD ((0 : Nat) + (IntKind.i64.wrap (IntKind.i64.wrap ((2 : Int) * (↑i : Int)) + (1 : Int))).toNat * (1 : Nat)) (0 : Int))).toNat))])] else none else none else none
     else none else none else none else none else none else none else none) (by kernel_rfl) (by simp only [-eq_self, Nat.mul_one, Nat.zero_add, Int.toNat_natCast, swrap w1.1 w1.2, swrap w2.1 w2.2, swrap w3.1 w3.2, swrap w4.1 w4.2, swrap w5.1 w5.2]; exact (go_t (dec_t h1) (go_t (and_t (dec_t h2) (dec_t h3)) (go_t (blt_t h4) (go_t (and_t (dec_t h5) (dec_t h1)) (go_t (blt_t h6) (go_t (chk_t h7) (go_f (not_f (dec_t h8)) (go_t (dec_t h9) (go_t (and_t (dec_t h5) (dec_t h1)) (go_t (blt_t h6) (go_t (chk_t h10) rfl))))))))))))
--CFEND
--CP pPrU (x : Int) (n q c cc len i k : Nat) (vs bs fl : List Int) (on : List Value → Heap → Out) (out : Exit → List Value → Heap → Out) :: roundK Try.prog (SPrR.on [(37, true), (53, true)]) LPrI Try.f28.ntmps 1 outPr livePrO [pt 1, .slice none 0 0, w63 0, w63 len, sl 2 (2 * k) 0, sl 3 len cc, w63 i] [rI n vs, rS x (sl 0 q c), oI (2 * k) fl, oU len bs] on out
theorem pPrU (x : Int) (n q c cc len i k : Nat) (vs bs fl : List Int) (on : List Value → Heap → Out) (out : Exit → List Value → Heap → Out)
    (w1 : -9223372036854775808 ≤ (2 : Int) * (↑i : Int) ∧ (2 : Int) * (↑i : Int) ≤ 9223372036854775807 := by omega)
    (w2 : -9223372036854775808 ≤ (2 : Int) * (↑i : Int) + (1 : Int) ∧ (2 : Int) * (↑i : Int) + (1 : Int) ≤ 9223372036854775807 := by omega)
    (h1 : (↑i : Int) < (↑q : Int) := by first | omega | assumption | rfl)
    (h2 : (0 : Int) ≤ (2 : Int) * (↑i : Int) + (1 : Int) := by first | omega | assumption | rfl)
    (h3 : (2 : Int) * (↑i : Int) + (1 : Int) < (↑((2 : Nat) * k) : Int) := by first | omega | assumption | rfl)
    (h4 : ((2 : Int) * (↑i : Int) + (1 : Int)).toNat < (2 : Nat) * k := by first | omega | assumption | rfl)
    (h5 : (0 : Int) ≤ (↑i : Int) := by first | omega | assumption | rfl)
    (h6 : i < n := by first | omega | assumption | rfl)
    (h7 : (-4 : Int) ≤ fl.getD ((2 : Int) * (↑i : Int) + (1 : Int)).toNat (0 : Int) ∧ fl.getD ((2 : Int) * (↑i : Int) + (1 : Int)).toNat (0 : Int) ≤ (4 : Int) ∧ fl.getD ((2 : Int) * (↑i : Int) + (1 : Int)).toNat (0 : Int) ≠ (0 : Int) := by first | omega | assumption | rfl | ((repeat' with_reducible apply And.intro) <;> first | rfl | assumption | omega))
    (h8 : ¬fitI (vs.getD i (0 : Int)) (fl.getD ((2 : Int) * (↑i : Int) + (1 : Int)).toNat (0 : Int)) := by first | omega | assumption | rfl) : roundK Try.prog (SPrR.on [(37, true), (53, true)]) LPrI Try.f28.ntmps 1 outPr livePrO [pt 1, .slice none 0 0, w63 0, w63 len, sl 2 (2 * k) 0, sl 3 len cc, w63 i] [rI n vs, rS x (sl 0 q c), oI (2 * k) fl, oU len bs] on out =
     (out Exit.ret [Value.pointer (some (Addr.mk (1 : Nat) (0 : Nat) none)), Value.slice none (0 : Nat) (0 : Nat), Value.int IntKind.i64 (2 : Int), Value.int IntKind.i64 (↑len : Int), Value.slice (some
     (Addr.mk (2 : Nat) (0 : Nat) none)) ((2 : Nat) * k) (0 : Nat), Value.slice (some (Addr.mk (3 : Nat) (0 : Nat) none)) len cc, Value.int IntKind.i64 (↑i : Int)] [some (Blk.mk false (1 : Nat) [Seg.ints
     IntKind.i64 n vs]), some (Blk.mk true (2 : Nat) [Seg.ints IntKind.u8 (1 : Nat) [x], Seg.vals [Value.slice (some (Addr.mk (0 : Nat) (0 : Nat) none)) q c]]), some (Blk.mk true (1 : Nat) [Seg.ints
     IntKind.i64 ((2 : Nat) * k) fl]), some (Blk.mk true (1 : Nat) [Seg.ints IntKind.u8 len bs])]) :=
  Eq.trans (b :=
     bif decide ((↑i : Int) < (↑q : Int)) then bif decide ((0 : Int) ≤ IntKind.i64.wrap (IntKind.i64.wrap ((2 : Int) * (↑i : Int)) + (1 : Int))) && decide (IntKind.i64.wrap (IntKind.i64.wrap ((2 : Int) *
     (↑i : Int)) + (1 : Int)) < (↑((2 : Nat) * k) : Int)) then bif ((0 : Nat) + (IntKind.i64.wrap (IntKind.i64.wrap ((2 : Int) * (↑i : Int)) + (1 : Int))).toNat * (1 : Nat)).blt ((2 : Nat) * k) then bif
     decide ((0 : Int) ≤ (↑i : Int)) && decide ((↑i : Int) < (↑q : Int)) then bif ((0 : Nat) + (↑i : Int).toNat * (1 : Nat)).blt n then bif chk ((-4 : Int) ≤ fl.getD ((0 : Nat) + (IntKind.i64.wrap
     (IntKind.i64.wrap ((2 : Int) * (↑i : Int)) + (1 : Int))).toNat * (1 : Nat)) (0 : Int) ∧ fl.getD ((0 : Nat) + (IntKind.i64.wrap (IntKind.i64.wrap ((2 : Int) * (↑i : Int)) + (1 : Int))).toNat * (1 :
     Nat)) (0 : Int) ≤ (4 : Int) ∧ fl.getD ((0 : Nat) + (IntKind.i64.wrap (IntKind.i64.wrap ((2 : Int) * (↑i : Int)) + (1 : Int))).toNat * (1 : Nat)) (0 : Int) ≠ (0 : Int)) then bif !decide (fitI (vs.getD
     ((0 : Nat) + (↑i : Int).toNat * (1 : Nat)) (0 : Int)) (fl.getD ((0 : Nat) + (IntKind.i64.wrap (IntKind.i64.wrap ((2 : Int) * (↑i : Int)) + (1 : Int))).toNat * (1 : Nat)) (0 : Int))) then out Exit.ret
     [Value.pointer (some (Addr.mk (1 : Nat) (0 : Nat) none)), Value.slice none (0 : Nat) (0 : Nat), Value.int IntKind.i64 (2 : Int), Value.int IntKind.i64 (↑len : Int), Value.slice (some (Addr.mk (2 :
     Nat) (0 : Nat) none)) ((2 : Nat) * k) (0 : Nat), Value.slice (some (Addr.mk (3 : Nat) (0 : Nat) none)) len cc, Value.int IntKind.i64 (↑i : Int)] [some (Blk.mk false (1 : Nat) [Seg.ints IntKind.i64 n
     vs]), some (Blk.mk true (2 : Nat) [Seg.ints IntKind.u8 (1 : Nat) [x], Seg.vals [Value.slice (some (Addr.mk (0 : Nat) (0 : Nat) none)) q c]]), some (Blk.mk true (1 : Nat) [Seg.ints IntKind.i64 ((2 :
     Nat) * k) fl]), some (Blk.mk true (1 : Nat) [Seg.ints IntKind.u8 len bs])] else none else none else none else none else none else none else none) (by kernel_rfl) (by simp only [-eq_self, Nat.mul_one, Nat.zero_add, Int.toNat_natCast, swrap w1.1 w1.2, swrap w2.1 w2.2]; exact (go_t (dec_t h1) (go_t (and_t (dec_t h2) (dec_t h3)) (go_t (blt_t h4) (go_t (and_t (dec_t h5) (dec_t h1)) (go_t (blt_t h6) (go_t (chk_t h7) (go_t (not_t (dec_f h8)) rfl))))))))
--CFEND
--CP pPrX (x : Int) (n q c cc len i k : Nat) (vs bs fl : List Int) (on : List Value → Heap → Out) (out : Exit → List Value → Heap → Out) :: roundK Try.prog (SPrR.on [(37, false)]) LPrI Try.f28.ntmps 1 outPr livePrO [pt 1, .slice none 0 0, w63 0, w63 len, sl 2 (2 * k) 0, sl 3 len cc, w63 i] [rI n vs, rS x (sl 0 q c), oI (2 * k) fl, oU len bs] on out
theorem pPrX (x : Int) (n q c cc len i k : Nat) (vs bs fl : List Int) (on : List Value → Heap → Out) (out : Exit → List Value → Heap → Out)
    (h1 : ¬(↑i : Int) < (↑q : Int) := by first | omega | assumption | rfl) : roundK Try.prog (SPrR.on [(37, false)]) LPrI Try.f28.ntmps 1 outPr livePrO [pt 1, .slice none 0 0, w63 0, w63 len, sl 2 (2 * k) 0, sl 3 len cc, w63 i] [rI n vs, rS x (sl 0 q c), oI (2 * k) fl, oU len bs] on out =
     (out (Exit.exit (0 : Nat)) [Value.pointer (some (Addr.mk (1 : Nat) (0 : Nat) none)), Value.slice none (0 : Nat) (0 : Nat), Value.int IntKind.i64 (0 : Int), Value.int IntKind.i64 (↑len : Int),
     Value.slice (some (Addr.mk (2 : Nat) (0 : Nat) none)) ((2 : Nat) * k) (0 : Nat), Value.slice (some (Addr.mk (3 : Nat) (0 : Nat) none)) len cc, Value.int IntKind.i64 (↑i : Int)] [some (Blk.mk false (1
     : Nat) [Seg.ints IntKind.i64 n vs]), some (Blk.mk true (2 : Nat) [Seg.ints IntKind.u8 (1 : Nat) [x], Seg.vals [Value.slice (some (Addr.mk (0 : Nat) (0 : Nat) none)) q c]]), some (Blk.mk true (1 : Nat)
     [Seg.ints IntKind.i64 ((2 : Nat) * k) fl]), some (Blk.mk true (1 : Nat) [Seg.ints IntKind.u8 len bs])]) :=
  Eq.trans (by kernel_rfl) (go_f (dec_f h1) rfl)
--CFEND
end Go.Proofs.Yticdglfbgocgmaa.VC
