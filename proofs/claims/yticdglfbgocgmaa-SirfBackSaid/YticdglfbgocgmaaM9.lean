/- sirf, the document's: Decode; Same: closed forms. -/
import Derived.Test.YticdglfbgocgmaaM8
namespace Go.Proofs.Yticdglfbgocgmaa.VC
open Go Go.Proofs

noncomputable def FLayRv (len : Nat) (fl : List Int) : FSpec := fun args h k => match args, h with
  | [.int .u8 x], [] => bif chk (layS x = some (len, fl)) then k (.tuple #[w63 len, sl 0 fl.length 0]) [oI fl.length fl] else none
  | _, _ => none
noncomputable def FLayRn : FSpec := fun args h k => match args, h with
  | [.int .u8 x], [] => bif chk (layS x = none) then k (.tuple #[w63 0, .slice none 0 0]) [] else none
  | _, _ => none
noncomputable def SDecR : Spec := mkS [(67, false, FTrn), (59, false, FGetR)]
def liveDecR : List Nat := [0, 2, 3, 5, 6, 7]
--CP pDrR (x : Int) (o n c i k N : Nat) (xs vs fl : List Int) (on : List Value → Heap → Out) (out : Exit → List Value → Heap → Out) :: roundK Try.prog (SDecR.on [(34, true)]) noL Try.f25.ntmps 1 (loopOf Try.f25 0) liveDecR [slo 0 o n c, pt 1, w63 0, sl 2 (2 * k) 0, pt 3, w63 ((2 * i : Nat) : Int)] [rU N xs, uS 0 (.slice none 0 0), oI (2 * k) fl, uS x (sl 4 i 1), oI i vs] on out
theorem pDrR (x : Int) (o n c i k N : Nat) (xs vs fl : List Int) (on : List Value → Heap → Out) (out : Exit → List Value → Heap → Out)
    (w1 : -9223372036854775808 ≤ (↑((2 : Nat) * i) : Int) + (1 : Int) ∧ (↑((2 : Nat) * i) : Int) + (1 : Int) ≤ 9223372036854775807 := by omega)
    (w2 : -9223372036854775808 ≤ (↑((2 : Nat) * i) : Int) + (2 : Int) ∧ (↑((2 : Nat) * i) : Int) + (2 : Int) ≤ 9223372036854775807 := by omega)
    (h1 : (↑((2 : Nat) * i) : Int) < (↑((2 : Nat) * k) : Int) := by first | omega | assumption | rfl)
    (h2 : (0 : Int) ≤ (↑((2 : Nat) * i) : Int) := by first | omega | assumption | rfl)
    (h3 : (2 : Nat) * i < (2 : Nat) * k := by first | omega | assumption | rfl)
    (h4 : (0 : Int) ≤ (↑((2 : Nat) * i) : Int) + (1 : Int) := by first | omega | assumption | rfl)
    (h5 : (↑((2 : Nat) * i) : Int) + (1 : Int) < (↑((2 : Nat) * k) : Int) := by first | omega | assumption | rfl)
    (h6 : ((↑((2 : Nat) * i) : Int) + (1 : Int)).toNat < (2 : Nat) * k := by first | omega | assumption | rfl)
    (h7 : (-4 : Int) ≤ fl.getD ((↑((2 : Nat) * i) : Int) + (1 : Int)).toNat (0 : Int) ∧ fl.getD ((↑((2 : Nat) * i) : Int) + (1 : Int)).toNat (0 : Int) ≤ (4 : Int) ∧ fl.getD ((↑((2 : Nat) * i) : Int) + (1 : Int)).toNat (0 : Int) ≠ (0 : Int) ∧ (0 : Int) ≤ fl.getD ((2 : Nat) * i) (0 : Int) ∧ fl.getD ((2 : Nat) * i) (0 : Int) + manyI (fl.getD ((↑((2 : Nat) * i) : Int) + (1 : Int)).toNat (0 : Int)) ≤ (↑n : Int) ∧ o + n ≤ N ∧ N ≤ (1000000 : Nat) := by first | omega | assumption | rfl | ((repeat' with_reducible apply And.intro) <;> first | rfl | assumption | omega))
    (h8 : (-4 : Int) ≤ fl.getD ((↑((2 : Nat) * i) : Int) + (1 : Int)).toNat (0 : Int) ∧ fl.getD ((↑((2 : Nat) * i) : Int) + (1 : Int)).toNat (0 : Int) ≤ (4 : Int) ∧ fl.getD ((↑((2 : Nat) * i) : Int) + (1 : Int)).toNat (0 : Int) ≠ (0 : Int) ∧ (0 : Int) ≤ (0 : Int) ∧ (0 : Int) + manyI (fl.getD ((↑((2 : Nat) * i) : Int) + (1 : Int)).toNat (0 : Int)) ≤ (↑(manyI (fl.getD ((↑((2 : Nat) * i) : Int) + (1 : Int)).toNat (0 : Int))).toNat : Int) ∧ (manyI (fl.getD ((↑((2 : Nat) * i) : Int) + (1 : Int)).toNat (0 : Int))).toNat ≤ (manyI (fl.getD ((↑((2 : Nat) * i) : Int) + (1 : Int)).toNat (0 : Int))).toNat ∧ (manyI (fl.getD ((↑((2 : Nat) * i) : Int) + (1 : Int)).toNat (0 : Int))).toNat ≤ (1000000 : Nat) := by first | omega | assumption | rfl | ((repeat' with_reducible apply And.intro) <;> first | rfl | assumption | omega))
    (h9 : i ≤ i := by first | omega | assumption | rfl)
    (h10 : (i + (1 : Nat)) * (8 : Nat) ≤ (140737488355328 : Nat) := by first | omega | assumption | rfl)
    (h11 : i + (1 : Nat) ≤ (4611686018427387904 : Nat) := by first | omega | assumption | rfl)
    (h12 : i = i := by first | omega | assumption | rfl) : roundK Try.prog (SDecR.on [(34, true)]) noL Try.f25.ntmps 1 (loopOf Try.f25 0) liveDecR [slo 0 o n c, pt 1, w63 0, sl 2 (2 * k) 0, pt 3, w63 ((2 * i : Nat) : Int)] [rU N xs, uS 0 (.slice none 0 0), oI (2 * k) fl, uS x (sl 4 i 1), oI i vs] on out =
     (on [Value.slice (some (Addr.mk (0 : Nat) o none)) n c, Value.pointer (some (Addr.mk (1 : Nat) (0 : Nat) none)), Value.int IntKind.i64 (0 : Int), Value.slice (some (Addr.mk (2 : Nat) (0 : Nat) none))
     ((2 : Nat) * k) (0 : Nat), Value.pointer (some (Addr.mk (3 : Nat) (0 : Nat) none)), Value.int IntKind.i64 ((↑((2 : Nat) * i) : Int) + (2 : Int))] [some (Blk.mk false (1 : Nat) [Seg.ints IntKind.u8 N
     xs]), some (Blk.mk true (2 : Nat) [Seg.ints IntKind.u8 (1 : Nat) [(0 : Int)], Seg.vals [Value.slice none (0 : Nat) (0 : Nat)]]), some (Blk.mk true (1 : Nat) [Seg.ints IntKind.i64 ((2 : Nat) * k) fl]),
     some (Blk.mk true (2 : Nat) [Seg.ints IntKind.u8 (1 : Nat) [x], Seg.vals [Value.slice (some (Addr.mk (4 : Nat) (0 : Nat) none)) (i + (1 : Nat)) (1 : Nat)]]), some (Blk.mk true (1 : Nat) [Seg.ints
     IntKind.i64 (i + (1 : Nat)) (List.take i vs ++ List.take (1 : Nat) [getL (fldB xs o (fl.getD ((2 : Nat) * i) (0 : Int)) (manyI (fl.getD ((↑((2 : Nat) * i) : Int) + (1 : Int)).toNat (0 :
     Int)))).reverse (0 : Nat) (0 : Int) (fl.getD ((↑((2 : Nat) * i) : Int) + (1 : Int)).toNat (0 : Int))])])]) :=
  Eq.trans (b :=
     bif decide ((↑((2 : Nat) * i) : Int) < (↑((2 : Nat) * k) : Int)) then bif decide ((0 : Int) ≤ (↑((2 : Nat) * i) : Int)) && decide ((↑((2 : Nat) * i) : Int) < (↑((2 : Nat) * k) : Int)) then bif ((0 :
     Nat) + (↑((2 : Nat) * i) : Int).toNat * (1 : Nat)).blt ((2 : Nat) * k) then bif decide ((0 : Int) ≤ IntKind.i64.wrap ((↑((2 : Nat) * i) : Int) + (1 : Int))) && decide (IntKind.i64.wrap ((↑((2 : Nat) *
     i) : Int) + (1 : Int)) < (↑((2 : Nat) * k) : Int)) then bif ((0 : Nat) + (IntKind.i64.wrap ((↑((2 : Nat) * i) : Int) + (1 : Int))).toNat * (1 : Nat)).blt ((2 : Nat) * k) then bif chk ((-4 : Int) ≤
     fl.getD ((0 : Nat) + (IntKind.i64.wrap ((↑((2 : Nat) * i) : Int) + (1 : Int))).toNat * (1 : Nat)) (0 : Int) ∧ fl.getD ((0 : Nat) + (IntKind.i64.wrap ((↑((2 : Nat) * i) : Int) + (1 : Int))).toNat * (1
     : Nat)) (0 : Int) ≤ (4 : Int) ∧ fl.getD ((0 : Nat) + (IntKind.i64.wrap ((↑((2 : Nat) * i) : Int) + (1 : Int))).toNat * (1 : Nat)) (0 : Int) ≠ (0 : Int) ∧ (0 : Int) ≤ fl.getD ((0 : Nat) + (↑((2 : Nat)
     * i) : Int).toNat * (1 : Nat)) (0 : Int) ∧ fl.getD ((0 : Nat) + (↑((2 : Nat) * i) : Int).toNat * (1 : Nat)) (0 : Int) + manyI (fl.getD ((0 : Nat) + (IntKind.i64.wrap ((↑((2 : Nat) * i) : Int) + (1 :
     Int))).toNat * (1 : Nat)) (0 : Int)) ≤ (↑n : Int) ∧ o + n ≤ N ∧ N ≤ (1000000 : Nat)) then bif decide ((0 : Int) ≤ IntKind.i64.wrap ((↑((2 : Nat) * i) : Int) + (1 : Int))) && decide (IntKind.i64.wrap
     ((↑((2 : Nat) * i) : Int) + (1 : Int)) < (↑((2 : Nat) * k) : Int)) then bif ((0 : Nat) + (IntKind.i64.wrap ((↑((2 : Nat) * i) : Int) + (1 : Int))).toNat * (1 : Nat)).blt ((2 : Nat) * k) then bif chk
     ((-4 : Int) ≤ fl.getD ((0 : Nat) + (IntKind.i64.wrap ((↑((2 : Nat) * i) : Int) + (1 : Int))).toNat * (1 : Nat)) (0 : Int) ∧ fl.getD ((0 : Nat) + (IntKind.i64.wrap ((↑((2 : Nat) * i) : Int) + (1 :
     Int))).toNat * (1 : Nat)) (0 : Int) ≤ (4 : Int) ∧ fl.getD ((0 : Nat) + (IntKind.i64.wrap ((↑((2 : Nat) * i) : Int) + (1 : Int))).toNat * (1 : Nat)) (0 : Int) ≠ (0 : Int) ∧ (0 : Int) ≤ (0 : Int) ∧ (0 :
     Int) + manyI (fl.getD ((0 : Nat) + (IntKind.i64.wrap ((↑((2 : Nat) * i) : Int) + (1 : Int))).toNat * (1 : Nat)) (0 : Int)) ≤ (↑(manyI (fl.getD ((0 : Nat) + (IntKind.i64.wrap ((↑((2 : Nat) * i) : Int)
     + (1 : Int))).toNat * (1 : Nat)) (0 : Int))).toNat : Int) ∧ (0 : Nat) + (manyI (fl.getD ((0 : Nat) + (IntKind.i64.wrap ((↑((2 : Nat) * i) : Int) + (1 : Int))).toNat * (1 : Nat)) (0 : Int))).toNat ≤
     (manyI (fl.getD ((0 : Nat) + (IntKind.i64.wrap ((↑((2 : Nat) * i) : Int) + (1 : Int))).toNat * (1 : Nat)) (0 : Int))).toNat ∧ (manyI (fl.getD ((0 : Nat) + (IntKind.i64.wrap ((↑((2 : Nat) * i) : Int) +
     (1 : Int))).toNat * (1 : Nat)) (0 : Int))).toNat ≤ (1000000 : Nat)) then bif (i * (1 : Nat)).ble i then bif decide ((i + (1 : Nat)) * (8 : Nat) ≤ (140737488355328 : Nat)) && (i + (1 : Nat)).ble
     (OfNat.ofNat (4611686018427387904 : Nat)) then bif ((0 : Nat) + i * (1 : Nat)).beq i && true then on [Value.slice (some (Addr.mk (0 : Nat) o none)) n c, Value.pointer (some (Addr.mk (1 : Nat) (0 :
     Nat) none)), Value.int IntKind.i64 (0 : Int), Value.slice (some (Addr.mk (2 : Nat) (0 : Nat) none)) ((2 : Nat) * k) (0 : Nat), Value.pointer (some (Addr.mk (3 : Nat) (0 : Nat) none)), Value.int
     IntKind.i64 (IntKind.i64.wrap ((↑((2 : Nat) * i) : Int) + (2 : Int)))] [some (Blk.mk false (1 : Nat) [Seg.ints IntKind.u8 N xs]), some (Blk.mk true (2 : Nat) [Seg.ints IntKind.u8 (1 : Nat) [(0 :
     Int)], Seg.vals [Value.slice none (0 : Nat) (0 : Nat)]]), some (Blk.mk true (1 : Nat) [Seg.ints IntKind.i64 ((2 : Nat) * k) fl]), some (Blk.mk true (2 : Nat) [Seg.ints IntKind.u8 (1 : Nat) [x],
     Seg.vals [Value.slice (some (Addr.mk (4 : Nat) (0 : Nat) none)) (i + (1 : Nat)) (1 : Nat)]]), some (Blk.mk true (1 : Nat) [Seg.ints IntKind.i64 (i * (1 : Nat) + (1 : Nat)) (List.take (i * (1 : Nat))
     vs ++ List.take (1 : Nat) [getL (fldB xs o (fl.getD ((0 : Nat) + (↑((2 : Nat) * i) : Int).toNat * (1 : Nat)) (0 : Int)) (manyI (fl.getD ((0 : Nat) + (IntKind.i64.wrap ((↑((2 : Nat) * i) : Int) + (1 :
     Int))).toNat * (1 : Nat)) (0 : Int)))).reverse (0 : Nat) (0 : Int) (fl.getD ((0 : Nat) + (IntKind.i64.wrap ((↑((2 : Nat) * i) : Int) + (1 : Int))).toNat * (1 : Nat)) (0 : Int))])])] else none else
     none else none else none else none else none else none else none else none else none else none else none) (by kernel_rfl) (by simp only [-eq_self, Int.toNat_natCast, Nat.mul_one, Nat.zero_add, swrap w1.1 w1.2, swrap w2.1 w2.2]; exact (go_t (dec_t h1) (go_t (and_t (dec_t h2) (dec_t h1)) (go_t (blt_t h3) (go_t (and_t (dec_t h4) (dec_t h5)) (go_t (blt_t h6) (go_t (chk_t h7) (go_t (and_t (dec_t h4) (dec_t h5)) (go_t (blt_t h6) (go_t (chk_t h8) (go_t (ble_t h9) (go_t (and_t (dec_t h10) (ble_t h11)) (go_t (and_t (beq_t h12) rfl) rfl)))))))))))))
--CFEND
--CP pDrR0 (x : Int) (o n c k N : Nat) (xs fl : List Int) (on : List Value → Heap → Out) (out : Exit → List Value → Heap → Out) :: roundK Try.prog (SDecR.on [(34, true)]) noL Try.f25.ntmps 1 (loopOf Try.f25 0) liveDecR [slo 0 o n c, pt 1, w63 0, sl 2 (2 * k) 0, pt 3, w63 0] [rU N xs, uS 0 (.slice none 0 0), oI (2 * k) fl, uS x (.slice none 0 0)] on out
theorem pDrR0 (x : Int) (o n c k N : Nat) (xs fl : List Int) (on : List Value → Heap → Out) (out : Exit → List Value → Heap → Out)
    (h1 : (0 : Int) < (↑((2 : Nat) * k) : Int) := by first | omega | assumption | rfl)
    (h2 : (0 : Nat) < (2 : Nat) * k := by first | omega | assumption | rfl)
    (h3 : (1 : Int) < (↑((2 : Nat) * k) : Int) := by first | omega | assumption | rfl)
    (h4 : (1 : Nat) < (2 : Nat) * k := by first | omega | assumption | rfl)
    (h5 : (-4 : Int) ≤ fl.getD (1 : Nat) (0 : Int) ∧ fl.getD (1 : Nat) (0 : Int) ≤ (4 : Int) ∧ fl.getD (1 : Nat) (0 : Int) ≠ (0 : Int) ∧ (0 : Int) ≤ fl.getD (0 : Nat) (0 : Int) ∧ fl.getD (0 : Nat) (0 : Int) + manyI (fl.getD (1 : Nat) (0 : Int)) ≤ (↑n : Int) ∧ o + n ≤ N ∧ N ≤ (1000000 : Nat) := by first | omega | assumption | rfl | ((repeat' with_reducible apply And.intro) <;> first | rfl | assumption | omega))
    (h6 : (-4 : Int) ≤ fl.getD (1 : Nat) (0 : Int) ∧ fl.getD (1 : Nat) (0 : Int) ≤ (4 : Int) ∧ fl.getD (1 : Nat) (0 : Int) ≠ (0 : Int) ∧ (0 : Int) ≤ (0 : Int) ∧ (0 : Int) + manyI (fl.getD (1 : Nat) (0 : Int)) ≤ (↑(manyI (fl.getD (1 : Nat) (0 : Int))).toNat : Int) ∧ (manyI (fl.getD (1 : Nat) (0 : Int))).toNat ≤ (manyI (fl.getD (1 : Nat) (0 : Int))).toNat ∧ (manyI (fl.getD (1 : Nat) (0 : Int))).toNat ≤ (1000000 : Nat) := by first | omega | assumption | rfl | ((repeat' with_reducible apply And.intro) <;> first | rfl | assumption | omega)) : roundK Try.prog (SDecR.on [(34, true)]) noL Try.f25.ntmps 1 (loopOf Try.f25 0) liveDecR [slo 0 o n c, pt 1, w63 0, sl 2 (2 * k) 0, pt 3, w63 0] [rU N xs, uS 0 (.slice none 0 0), oI (2 * k) fl, uS x (.slice none 0 0)] on out =
     (on [Value.slice (some (Addr.mk (0 : Nat) o none)) n c, Value.pointer (some (Addr.mk (1 : Nat) (0 : Nat) none)), Value.int IntKind.i64 (0 : Int), Value.slice (some (Addr.mk (2 : Nat) (0 : Nat) none))
     ((2 : Nat) * k) (0 : Nat), Value.pointer (some (Addr.mk (3 : Nat) (0 : Nat) none)), Value.int IntKind.i64 (2 : Int)] [some (Blk.mk false (1 : Nat) [Seg.ints IntKind.u8 N xs]), some (Blk.mk true (2 :
     Nat) [Seg.ints IntKind.u8 (1 : Nat) [(0 : Int)], Seg.vals [Value.slice none (0 : Nat) (0 : Nat)]]), some (Blk.mk true (1 : Nat) [Seg.ints IntKind.i64 ((2 : Nat) * k) fl]), some (Blk.mk true (2 : Nat)
     [Seg.ints IntKind.u8 (1 : Nat) [x], Seg.vals [Value.slice (some (Addr.mk (4 : Nat) (0 : Nat) none)) (1 : Nat) (1 : Nat)]]), some (Blk.mk true (1 : Nat) [Seg.ints IntKind.i64 (1 : Nat) (List.take (1 :
     Nat) [getL (fldB xs o (fl.getD (0 : Nat) (0 : Int)) (manyI (fl.getD (1 : Nat) (0 : Int)))).reverse (0 : Nat) (0 : Int) (fl.getD (1 : Nat) (0 : Int))])])]) :=
  Eq.trans (b :=
     bif decide ((0 : Int) < (↑((2 : Nat) * k) : Int)) then bif decide ((0 : Int) < (↑((2 : Nat) * k) : Int)) then bif Nat.blt (0 : Nat) ((2 : Nat) * k) then bif decide ((1 : Int) < (↑((2 : Nat) * k) :
     Int)) then bif Nat.blt (1 : Nat) ((2 : Nat) * k) then bif chk ((-4 : Int) ≤ fl.getD (1 : Nat) (0 : Int) ∧ fl.getD (1 : Nat) (0 : Int) ≤ (4 : Int) ∧ fl.getD (1 : Nat) (0 : Int) ≠ (0 : Int) ∧ (0 : Int)
     ≤ fl.getD (0 : Nat) (0 : Int) ∧ fl.getD (0 : Nat) (0 : Int) + manyI (fl.getD (1 : Nat) (0 : Int)) ≤ (↑n : Int) ∧ o + n ≤ N ∧ N ≤ (1000000 : Nat)) then bif decide ((1 : Int) < (↑((2 : Nat) * k) : Int))
     then bif Nat.blt (1 : Nat) ((2 : Nat) * k) then bif chk ((-4 : Int) ≤ fl.getD (1 : Nat) (0 : Int) ∧ fl.getD (1 : Nat) (0 : Int) ≤ (4 : Int) ∧ fl.getD (1 : Nat) (0 : Int) ≠ (0 : Int) ∧ (0 : Int) ≤ (0 :
     Int) ∧ (0 : Int) + manyI (fl.getD (1 : Nat) (0 : Int)) ≤ (↑(manyI (fl.getD (1 : Nat) (0 : Int))).toNat : Int) ∧ (0 : Nat) + (manyI (fl.getD (1 : Nat) (0 : Int))).toNat ≤ (manyI (fl.getD (1 : Nat) (0 :
     Int))).toNat ∧ (manyI (fl.getD (1 : Nat) (0 : Int))).toNat ≤ (1000000 : Nat)) then on [Value.slice (some (Addr.mk (0 : Nat) o none)) n c, Value.pointer (some (Addr.mk (1 : Nat) (0 : Nat) none)),
     Value.int IntKind.i64 (0 : Int), Value.slice (some (Addr.mk (2 : Nat) (0 : Nat) none)) ((2 : Nat) * k) (0 : Nat), Value.pointer (some (Addr.mk (3 : Nat) (0 : Nat) none)), Value.int IntKind.i64 (2 :
     Int)] [some (Blk.mk false (1 : Nat) [Seg.ints IntKind.u8 N xs]), some (Blk.mk true (2 : Nat) [Seg.ints IntKind.u8 (1 : Nat) [(0 : Int)], Seg.vals [Value.slice none (0 : Nat) (0 : Nat)]]), some (Blk.mk
     true (1 : Nat) [Seg.ints IntKind.i64 ((2 : Nat) * k) fl]), some (Blk.mk true (2 : Nat) [Seg.ints IntKind.u8 (1 : Nat) [x], Seg.vals [Value.slice (some (Addr.mk (4 : Nat) (0 : Nat) none)) (1 : Nat) (1
     : Nat)]]), some (Blk.mk true (1 : Nat) [Seg.ints IntKind.i64 (1 : Nat) (List.take (1 : Nat) [getL (fldB xs o (fl.getD (0 : Nat) (0 : Int)) (manyI (fl.getD (1 : Nat) (0 : Int)))).reverse (0 : Nat) (0 :
     Int) (fl.getD (1 : Nat) (0 : Int))])])] else none else none else none else none else none else none else none else none else none) (by kernel_rfl) (by simp only [-eq_self, Nat.zero_add]; exact (go_t (dec_t h1) (go_t (dec_t h1) (go_t (blt_t h2) (go_t (dec_t h3) (go_t (blt_t h4) (go_t (chk_t h5) (go_t (dec_t h3) (go_t (blt_t h4) (go_t (chk_t h6) rfl))))))))))
--CFEND
--CP pDrX (x : Int) (o n c i k N : Nat) (xs vs fl : List Int) (on : List Value → Heap → Out) (out : Exit → List Value → Heap → Out) :: roundK Try.prog (SDecR.on [(34, false)]) noL Try.f25.ntmps 1 (loopOf Try.f25 0) liveDecR [slo 0 o n c, pt 1, w63 0, sl 2 (2 * k) 0, pt 3, w63 ((2 * i : Nat) : Int)] [rU N xs, uS 0 (.slice none 0 0), oI (2 * k) fl, uS x (sl 4 i 1), oI i vs] on out
theorem pDrX (x : Int) (o n c i k N : Nat) (xs vs fl : List Int) (on : List Value → Heap → Out) (out : Exit → List Value → Heap → Out)
    (h1 : ¬(↑((2 : Nat) * i) : Int) < (↑((2 : Nat) * k) : Int) := by first | omega | assumption | rfl) : roundK Try.prog (SDecR.on [(34, false)]) noL Try.f25.ntmps 1 (loopOf Try.f25 0) liveDecR [slo 0 o n c, pt 1, w63 0, sl 2 (2 * k) 0, pt 3, w63 ((2 * i : Nat) : Int)] [rU N xs, uS 0 (.slice none 0 0), oI (2 * k) fl, uS x (sl 4 i 1), oI i vs] on out =
     (out (Exit.exit (0 : Nat)) [Value.slice (some (Addr.mk (0 : Nat) o none)) n c, Value.pointer (some (Addr.mk (1 : Nat) (0 : Nat) none)), Value.int IntKind.i64 (0 : Int), Value.slice (some (Addr.mk (2 :
     Nat) (0 : Nat) none)) ((2 : Nat) * k) (0 : Nat), Value.pointer (some (Addr.mk (3 : Nat) (0 : Nat) none)), Value.int IntKind.i64 (↑((2 : Nat) * i) : Int)] [some (Blk.mk false (1 : Nat) [Seg.ints
     IntKind.u8 N xs]), some (Blk.mk true (2 : Nat) [Seg.ints IntKind.u8 (1 : Nat) [(0 : Int)], Seg.vals [Value.slice none (0 : Nat) (0 : Nat)]]), some (Blk.mk true (1 : Nat) [Seg.ints IntKind.i64 ((2 :
     Nat) * k) fl]), some (Blk.mk true (2 : Nat) [Seg.ints IntKind.u8 (1 : Nat) [x], Seg.vals [Value.slice (some (Addr.mk (4 : Nat) (0 : Nat) none)) i (1 : Nat)]]), some (Blk.mk true (1 : Nat) [Seg.ints
     IntKind.i64 i vs])]) :=
  Eq.trans (by kernel_rfl) (go_f (dec_f h1) rfl)
--CFEND
noncomputable def LDrf : LF := fun vs h k => match vs, h with
  | [.slice (some ⟨0, o, none⟩) n c, .pointer (some ⟨1, 0, none⟩), .int .i64 0, .slice (some ⟨2, 0, none⟩) q 0, .pointer (some ⟨3, 0, none⟩), .int .i64 0], [some ⟨false, 1, [.ints .u8 N xs]⟩, some ⟨true, 2, [.ints .u8 1 [0], .vals [.slice none 0 0]]⟩, some ⟨true, 1, [.ints .i64 Q fl]⟩, some ⟨true, 2, [.ints .u8 1 [x], .vals [.slice none 0 0]]⟩] =>
    bif chk (Q = q ∧ 2 * (q / 2) = q ∧ 0 < q / 2 ∧ q / 2 ≤ 100 ∧ fldsOK n fl (q / 2) ∧ o + n ≤ N ∧ N ≤ 1000000) then
      k (.exit 0) [slo 0 o n c, pt 1, w63 0, sl 2 q 0, pt 3, w63 q] [rU N xs, uS 0 (.slice none 0 0), oI q fl, uS x (sl 4 (q / 2) 1), oI (q / 2) (decV xs o fl (q / 2))] else none
  | _, _ => none
noncomputable def LDr : LSpec := oneL 10 liveDecR LDrf
noncomputable def SDecRv (len : Nat) (fl : List Int) : Spec := mkS [(31, false, FLayRv len fl)]
noncomputable def SDecRn : Spec := mkS [(31, false, FLayRn)]
--CP pDr0 (o c N : Nat) (xs : List Int) :: fnK Try.prog ((mkS []).on [(10, true)]) LDr Try.f25 [slo 0 o 0 c] [rU N xs]
theorem pDr0 (o c N : Nat) (xs : List Int) : fnK Try.prog ((mkS []).on [(10, true)]) LDr Try.f25 [slo 0 o 0 c] [rU N xs] =
     (some (Res.ret (Value.tuple (Array.mk [Value.agg (Array.mk [Value.int IntKind.u8 (0 : Int), Value.slice none (0 : Nat) (0 : Nat)]), Value.int IntKind.i64 (4 : Int)])) [some (Blk.mk false (1 : Nat)
     [Seg.ints IntKind.u8 N xs])])) :=
  Eq.trans (by kernel_rfl) rfl
--CFEND
--CP pDrN (o n c N : Nat) (xs : List Int) :: fnK Try.prog (SDecRn.on [(10, false), (20, true)]) LDr Try.f25 [slo 0 o n c] [rU N xs]
theorem pDrN (o n c N : Nat) (xs : List Int)
    (h1 : (↑n : Int) ≠ (0 : Int) := by first | omega | assumption | rfl)
    (h2 : (0 : Int) < (↑n : Int) := by first | omega | assumption | rfl)
    (h3 : o < N := by first | omega | assumption | rfl)
    (h4 : layS (xs.getD o (0 : Int)) = none := by first | omega | assumption | rfl) : fnK Try.prog (SDecRn.on [(10, false), (20, true)]) LDr Try.f25 [slo 0 o n c] [rU N xs] =
     (some (Res.ret (Value.tuple (Array.mk [Value.agg (Array.mk [Value.int IntKind.u8 (0 : Int), Value.slice none (0 : Nat) (0 : Nat)]), Value.int IntKind.i64 (7 : Int)])) [some (Blk.mk false (1 : Nat)
     [Seg.ints IntKind.u8 N xs])])) :=
  Eq.trans (by kernel_rfl) (go_f (eqb_f h1) (go_t (dec_t h2) (go_t (blt_t h3) (go_t (chk_t h4) rfl))))
--CFEND
--CP pDrF (o n c N len : Nat) (xs fl : List Int) :: fnK Try.prog ((SDecRv len fl).on [(10, false), (20, false), (25, true)]) LDr Try.f25 [slo 0 o n c] [rU N xs]
theorem pDrF (o n c N len : Nat) (xs fl : List Int)
    (h1 : (↑n : Int) ≠ (0 : Int) := by first | omega | assumption | rfl)
    (h2 : (0 : Int) < (↑n : Int) := by first | omega | assumption | rfl)
    (h3 : o < N := by first | omega | assumption | rfl)
    (h4 : layS (xs.getD o (0 : Int)) = some (len, fl) := by first | omega | assumption | rfl)
    (h5 : (↑len : Int) ≠ (0 : Int) := by first | omega | assumption | rfl)
    (h6 : (↑n : Int) ≠ (↑len : Int) := by first | omega | assumption | rfl) : fnK Try.prog ((SDecRv len fl).on [(10, false), (20, false), (25, true)]) LDr Try.f25 [slo 0 o n c] [rU N xs] =
     (some (Res.ret (Value.tuple (Array.mk [Value.agg (Array.mk [Value.int IntKind.u8 (0 : Int), Value.slice none (0 : Nat) (0 : Nat)]), Value.int IntKind.i64 (5 : Int)])) [some (Blk.mk false (1 : Nat)
     [Seg.ints IntKind.u8 N xs])])) :=
  Eq.trans (by kernel_rfl) (go_f (eqb_f h1) (go_t (dec_t h2) (go_t (blt_t h3) (go_t (chk_t h4) (go_f (eqb_f h5) (go_t (bne_t h6) rfl))))))
--CFEND
--CP pDrK (o n c N len : Nat) (xs fl : List Int) :: fnK Try.prog ((SDecRv len fl).on [(10, false), (20, false), (25, false)]) LDr Try.f25 [slo 0 o n c] [rU N xs]
theorem pDrK (o n c N len : Nat) (xs fl : List Int)
    (h1 : (↑n : Int) ≠ (0 : Int) := by first | omega | assumption | rfl)
    (h2 : (0 : Int) < (↑n : Int) := by first | omega | assumption | rfl)
    (h3 : o < N := by first | omega | assumption | rfl)
    (h4 : layS (xs.getD o (0 : Int)) = some (len, fl) := by first | omega | assumption | rfl)
    (h5 : (↑len : Int) ≠ (0 : Int) := by first | omega | assumption | rfl)
    (h6 : (↑n : Int) = (↑len : Int) := by first | omega | assumption | rfl)
    (h7 : fl.length = fl.length ∧ (2 : Nat) * (fl.length / (2 : Nat)) = fl.length ∧ (0 : Nat) < fl.length / (2 : Nat) ∧ fl.length / (2 : Nat) ≤ (100 : Nat) ∧ fldsOK n fl (fl.length / (2 : Nat)) ∧ o + n ≤ N ∧ N ≤ (1000000 : Nat) := by first | omega | assumption | rfl | ((repeat' with_reducible apply And.intro) <;> first | rfl | assumption | omega)) : fnK Try.prog ((SDecRv len fl).on [(10, false), (20, false), (25, false)]) LDr Try.f25 [slo 0 o n c] [rU N xs] =
     (some (Res.ret (Value.tuple (Array.mk [Value.agg (Array.mk [Value.int IntKind.u8 (xs.getD o (0 : Int)), Value.slice (some (Addr.mk (1 : Nat) (0 : Nat) none)) (fl.length / (2 : Nat)) (1 : Nat)]),
     Value.int IntKind.i64 (0 : Int)])) [some (Blk.mk false (1 : Nat) [Seg.ints IntKind.u8 N xs]), some (Blk.mk true (1 : Nat) [Seg.ints IntKind.i64 (fl.length / (2 : Nat)) (decV xs o fl (fl.length / (2 :
     Nat)))])])) :=
  Eq.trans (by kernel_rfl) (go_f (eqb_f h1) (go_t (dec_t h2) (go_t (blt_t h3) (go_t (chk_t h4) (go_f (eqb_f h5) (go_f (bne_f h6) (go_t (dec_t h2) (go_t (blt_t h3) (go_t (chk_t h7) rfl)))))))))
--CFEND
end Go.Proofs.Yticdglfbgocgmaa.VC
