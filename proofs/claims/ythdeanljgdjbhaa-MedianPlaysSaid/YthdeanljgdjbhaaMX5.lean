/- MedianMiddle: the rounds. -/
import Derived.Test.YthdeanljgdjbhaaMXT
namespace Go.Proofs.Ythdeanljgdjbhaa.VC
open Go Go.Proofs

def live4 : List Nat := [10, 0, 2, 3, 4, 41, 42, 43, 11]
abbrev st4 (n a b f : Int) (N : Nat) (i : Nat) : List Value := [.bool false, w63 n, w63 a, w63 b, w63 f, sl 0 N 2, w63 N, w63 i, pt 1]
noncomputable def S4 : Spec := mkS [(14, true, FAddB), (13, false, FAllB)]
--CP p4a (n a b f : Int) (N i : Nat) (gs : List Int) (on : List Value → Heap → Out) (out : Exit → List Value → Heap → Out) :: roundK Try.prog (S4.on [(44, true), (94, false)]) L4i Try.f4.ntmps 1 (loopOf Try.f4 0) live4 (st4 n a b f N i) [rB false N gs, mB true n (.slice none 0 0)] on out
theorem p4a (n a b f : Int) (N i : Nat) (gs : List Int) (on : List Value → Heap → Out) (out : Exit → List Value → Heap → Out)
    (w1 : -9223372036854775808 ≤ (2 : Int) * (↑(nLe (gs.getD i (0 : Int)) [gs.getD i (0 : Int)]) : Int) ∧ (2 : Int) * (↑(nLe (gs.getD i (0 : Int)) [gs.getD i (0 : Int)]) : Int) ≤ 9223372036854775807 := by omega)
    (w2 : -9223372036854775808 ≤ (2 : Int) * (↑(nGe (gs.getD i (0 : Int)) [gs.getD i (0 : Int)]) : Int) ∧ (2 : Int) * (↑(nGe (gs.getD i (0 : Int)) [gs.getD i (0 : Int)]) : Int) ≤ 9223372036854775807 := by omega)
    (w3 : -9223372036854775808 ≤ (↑i : Int) + (1 : Int) ∧ (↑i : Int) + (1 : Int) ≤ 9223372036854775807 := by omega)
    (h1 : (↑i : Int) < (↑N : Int) := by first | omega | assumption | rfl)
    (h2 : (0 : Int) ≤ (↑i : Int) := by first | omega | assumption | rfl)
    (h3 : i < N := by first | omega | assumption | rfl)
    (h4 : (1 : Int) ≤ n := by first | omega | assumption | rfl)
    (h5 : (1 : Nat) ≤ (1 : Nat) ∧ (1 : Nat) ≤ (1000 : Nat) ∧ (1 : Nat) = (1 : Nat) ∧ [gs.getD i (0 : Int)].length = (1 : Nat) := by first | omega | assumption | rfl | ((repeat' with_reducible apply And.intro) <;> first | rfl | assumption | omega))
    (h6 : (↑N : Int) = (↑N : Int) ∧ N = N ∧ (0 : Int) ≤ (↑i : Int) ∧ n = n ∧ (1 : Int) = (1 : Int) ∧ (1 : Nat) = (1 : Nat) ∧ (1 : Nat) = (1 : Nat) ∧ (1 : Nat) = (1 : Nat) ∧ [gs.getD i (0 : Int)] = [gs.getD i (0 : Int)] ∧ [gs.getD i (0 : Int)].length = (1 : Nat) ∧ (1 : Nat) ≤ (1000 : Nat) := by first | omega | assumption | rfl | ((repeat' with_reducible apply And.intro) <;> first | rfl | assumption | omega))
    (h7 : ¬(2 : Int) * (↑(nLe (gs.getD i (0 : Int)) [gs.getD i (0 : Int)]) : Int) < (1 : Int) := by first | omega | assumption | rfl)
    (h8 : ¬(2 : Int) * (↑(nGe (gs.getD i (0 : Int)) [gs.getD i (0 : Int)]) : Int) < (1 : Int) := by first | omega | assumption | rfl)
    (h9 : (↑(nEq (gs.getD i (0 : Int)) [gs.getD i (0 : Int)]) : Int) ≠ (0 : Int) := by first | omega | assumption | rfl)
    (h10 : ¬(1 : Int) > n := by first | omega | assumption | rfl) : roundK Try.prog (S4.on [(44, true), (94, false)]) L4i Try.f4.ntmps 1 (loopOf Try.f4 0) live4 (st4 n a b f N i) [rB false N gs, mB true n (.slice none 0 0)] on out =
     (on [Value.bool false, Value.int IntKind.i64 n, Value.int IntKind.i64 a, Value.int IntKind.i64 b, Value.int IntKind.i64 f, Value.slice (some (Addr.mk (0 : Nat) (0 : Nat) none)) N (2 : Nat), Value.int
     IntKind.i64 (↑N : Int), Value.int IntKind.i64 ((↑i : Int) + (1 : Int)), Value.pointer (some (Addr.mk (1 : Nat) (0 : Nat) none))] [some (Blk.mk false (1 : Nat) [Seg.ints IntKind.i64 N gs]), some
     (Blk.mk true (2 : Nat) [Seg.ints IntKind.i64 (1 : Nat) [n], Seg.vals [Value.slice (some (Addr.mk (2 : Nat) (0 : Nat) none)) (1 : Nat) (1 : Nat)]]), some (Blk.mk true (1 : Nat) [Seg.ints IntKind.i64 (1
     : Nat) [gs.getD i (0 : Int)]])]) :=
  Eq.trans (b :=
     bif decide ((↑i : Int) < (↑N : Int)) then bif decide ((0 : Int) ≤ (↑i : Int)) && decide ((↑i : Int) < (↑N : Int)) then bif ((0 : Nat) + (↑i : Int).toNat * (1 : Nat)).blt N then bif chk ((1 : Int) ≤ n)
     then bif chk ((1 : Nat) ≤ (1 : Nat) ∧ (1 : Nat) ≤ (1000 : Nat) ∧ (1 : Nat) = (1 : Nat) ∧ [gs.getD ((0 : Nat) + (↑i : Int).toNat * (1 : Nat)) (0 : Int)].length = (1 : Nat)) then bif chk ((↑N : Int) =
     (↑N : Int) ∧ N = N ∧ (0 : Int) ≤ (↑i : Int) ∧ n = n ∧ (1 : Int) = (1 : Int) ∧ (1 : Nat) = (1 : Nat) ∧ (1 : Nat) = (1 : Nat) ∧ (1 : Nat) = (1 : Nat) ∧ [gs.getD ((0 : Nat) + (↑i : Int).toNat * (1 :
     Nat)) (0 : Int)] = [gs.getD ((0 : Nat) + (↑i : Int).toNat * (1 : Nat)) (0 : Int)] ∧ [gs.getD ((0 : Nat) + (↑i : Int).toNat * (1 : Nat)) (0 : Int)].length = (1 : Nat) ∧ (1 : Nat) ≤ (1000 : Nat)) then
     bif chk ((1 : Nat) ≤ (1 : Nat) ∧ (1 : Nat) ≤ (1000 : Nat) ∧ (1 : Nat) = (1 : Nat) ∧ [gs.getD ((0 : Nat) + (↑i : Int).toNat * (1 : Nat)) (0 : Int)].length = (1 : Nat)) then bif decide (IntKind.i64.wrap
     ((2 : Int) * (↑(nLe (gs.getD ((0 : Nat) + (↑i : Int).toNat * (1 : Nat)) (0 : Int)) [gs.getD ((0 : Nat) + (↑i : Int).toNat * (1 : Nat)) (0 : Int)]) : Int)) < (1 : Int)) then none else bif decide
     (IntKind.i64.wrap ((2 : Int) * (↑(nGe (gs.getD ((0 : Nat) + (↑i : Int).toNat * (1 : Nat)) (0 : Int)) [gs.getD ((0 : Nat) + (↑i : Int).toNat * (1 : Nat)) (0 : Int)]) : Int)) < (1 : Int)) then none else
     bif (↑(nEq (gs.getD ((0 : Nat) + (↑i : Int).toNat * (1 : Nat)) (0 : Int)) [gs.getD ((0 : Nat) + (↑i : Int).toNat * (1 : Nat)) (0 : Int)]) : Int) == (0 : Int) then none else bif decide ((1 : Int) > n)
     then none else on [Value.bool false, Value.int IntKind.i64 n, Value.int IntKind.i64 a, Value.int IntKind.i64 b, Value.int IntKind.i64 f, Value.slice (some (Addr.mk (0 : Nat) (0 : Nat) none)) N (2 :
     Nat), Value.int IntKind.i64 (↑N : Int), Value.int IntKind.i64 (IntKind.i64.wrap ((↑(↑i : Int).toNat : Int) + (1 : Int))), Value.pointer (some (Addr.mk (1 : Nat) (0 : Nat) none))] [some (Blk.mk false
     (1 : Nat) [Seg.ints IntKind.i64 N gs]), some (Blk.mk true (2 : Nat) [Seg.ints IntKind.i64 (1 : Nat) [n], Seg.vals [Value.slice (some (Addr.mk (2 : Nat) (0 : Nat) none)) (1 : Nat) (1 : Nat)]]), some
     (Blk.mk true (1 : Nat) [Seg.ints IntKind.i64 (1 : Nat) [gs.getD ((0 : Nat) + (↑i : Int).toNat * (1 : Nat)) (0 : Int)]])] else none else none else none else none else none else none else none) (by kernel_rfl) (by simp only [-eq_self, Int.toNat_natCast, Nat.mul_one, Nat.zero_add, swrap w1.1 w1.2, swrap w2.1 w2.2, swrap w3.1 w3.2]; exact (go_t (dec_t h1) (go_t (and_t (dec_t h2) (dec_t h1)) (go_t (blt_t h3) (go_t (chk_t h4) (go_t (chk_t h5) (go_t (chk_t h6) (go_t (chk_t h5) (go_f (dec_f h7) (go_f (dec_f h8) (go_f (eqb_f h9) (go_f (dec_f h10) rfl))))))))))))
--CFEND
--CP p4b (n a b f : Int) (N i k : Nat) (gs xs : List Int) (on : List Value → Heap → Out) (out : Exit → List Value → Heap → Out) :: roundK Try.prog (S4.on [(44, true), (94, false)]) L4i Try.f4.ntmps 1 (loopOf Try.f4 0) live4 (st4 n a b f N i) [rB false N gs, mB true n (sl 2 k 1), rB true k xs] on out
theorem p4b (n a b f : Int) (N i k : Nat) (gs xs : List Int) (on : List Value → Heap → Out) (out : Exit → List Value → Heap → Out)
    (w1 : -9223372036854775808 ≤ (2 : Int) * (↑(nLe (mid (pushW n xs (gs.getD i (0 : Int)))) (pushW n xs (gs.getD i (0 : Int)))) : Int) ∧ (2 : Int) * (↑(nLe (mid (pushW n xs (gs.getD i (0 : Int)))) (pushW n xs (gs.getD i (0 : Int)))) : Int) ≤ 9223372036854775807 := by omega)
    (w2 : -9223372036854775808 ≤ (2 : Int) * (↑(nGe (mid (pushW n xs (gs.getD i (0 : Int)))) (pushW n xs (gs.getD i (0 : Int)))) : Int) ∧ (2 : Int) * (↑(nGe (mid (pushW n xs (gs.getD i (0 : Int)))) (pushW n xs (gs.getD i (0 : Int)))) : Int) ≤ 9223372036854775807 := by omega)
    (w3 : -9223372036854775808 ≤ (↑i : Int) + (1 : Int) ∧ (↑i : Int) + (1 : Int) ≤ 9223372036854775807 := by omega)
    (h1 : (↑i : Int) < (↑N : Int) := by first | omega | assumption | rfl)
    (h2 : (0 : Int) ≤ (↑i : Int) := by first | omega | assumption | rfl)
    (h3 : i < N := by first | omega | assumption | rfl)
    (h4 : (1 : Nat) ≤ k ∧ k ≤ (15 : Nat) ∧ k = k ∧ xs.length = k ∧ (1 : Nat) = (1 : Nat) ∧ (↑k : Int) ≤ n := by first | omega | assumption | rfl | ((repeat' with_reducible apply And.intro) <;> first | rfl | assumption | omega))
    (h5 : (1 : Nat) ≤ (pushW n xs (gs.getD i (0 : Int))).length ∧ (pushW n xs (gs.getD i (0 : Int))).length ≤ (1000 : Nat) ∧ (pushW n xs (gs.getD i (0 : Int))).length = (pushW n xs (gs.getD i (0 : Int))).length ∧ (pushW n xs (gs.getD i (0 : Int))).length = (pushW n xs (gs.getD i (0 : Int))).length := by first | omega | assumption | rfl | ((repeat' with_reducible apply And.intro) <;> first | rfl | assumption | omega))
    (h6 : (↑N : Int) = (↑N : Int) ∧ N = N ∧ (0 : Int) ≤ (↑i : Int) ∧ n = n ∧ (↑(pushW n xs (gs.getD i (0 : Int))).length : Int) = (↑(pushW n xs (gs.getD i (0 : Int))).length : Int) ∧ (pushW n xs (gs.getD i (0 : Int))).length = (pushW n xs (gs.getD i (0 : Int))).length ∧ (pushW n xs (gs.getD i (0 : Int))).length = (pushW n xs (gs.getD i (0 : Int))).length ∧ (pushW n xs (gs.getD i (0 : Int))).length = (pushW n xs (gs.getD i (0 : Int))).length ∧ pushW n xs (gs.getD i (0 : Int)) = pushW n xs (gs.getD i (0 : Int)) ∧ (pushW n xs (gs.getD i (0 : Int))).length = (pushW n xs (gs.getD i (0 : Int))).length ∧ (pushW n xs (gs.getD i (0 : Int))).length ≤ (1000 : Nat) := by first | omega | assumption | rfl | ((repeat' with_reducible apply And.intro) <;> first | rfl | assumption | omega))
    (h7 : ¬(2 : Int) * (↑(nLe (mid (pushW n xs (gs.getD i (0 : Int)))) (pushW n xs (gs.getD i (0 : Int)))) : Int) < (↑(pushW n xs (gs.getD i (0 : Int))).length : Int) := by first | omega | assumption | rfl)
    (h8 : ¬(2 : Int) * (↑(nGe (mid (pushW n xs (gs.getD i (0 : Int)))) (pushW n xs (gs.getD i (0 : Int)))) : Int) < (↑(pushW n xs (gs.getD i (0 : Int))).length : Int) := by first | omega | assumption | rfl)
    (h9 : (↑(nEq (mid (pushW n xs (gs.getD i (0 : Int)))) (pushW n xs (gs.getD i (0 : Int)))) : Int) ≠ (0 : Int) := by first | omega | assumption | rfl)
    (h10 : ¬(↑(pushW n xs (gs.getD i (0 : Int))).length : Int) > n := by first | omega | assumption | rfl) : roundK Try.prog (S4.on [(44, true), (94, false)]) L4i Try.f4.ntmps 1 (loopOf Try.f4 0) live4 (st4 n a b f N i) [rB false N gs, mB true n (sl 2 k 1), rB true k xs] on out =
     (on [Value.bool false, Value.int IntKind.i64 n, Value.int IntKind.i64 a, Value.int IntKind.i64 b, Value.int IntKind.i64 f, Value.slice (some (Addr.mk (0 : Nat) (0 : Nat) none)) N (2 : Nat), Value.int
     IntKind.i64 (↑N : Int), Value.int IntKind.i64 ((↑i : Int) + (1 : Int)), Value.pointer (some (Addr.mk (1 : Nat) (0 : Nat) none))] [some (Blk.mk false (1 : Nat) [Seg.ints IntKind.i64 N gs]), some
     (Blk.mk true (2 : Nat) [Seg.ints IntKind.i64 (1 : Nat) [n], Seg.vals [Value.slice (some (Addr.mk (2 : Nat) (0 : Nat) none)) (pushW n xs (gs.getD i (0 : Int))).length (1 : Nat)]]), some (Blk.mk true (1
     : Nat) [Seg.ints IntKind.i64 (pushW n xs (gs.getD i (0 : Int))).length (pushW n xs (gs.getD i (0 : Int)))])]) :=
  Eq.trans (b :=
     bif decide ((↑i : Int) < (↑N : Int)) then bif decide ((0 : Int) ≤ (↑i : Int)) && decide ((↑i : Int) < (↑N : Int)) then bif ((0 : Nat) + (↑i : Int).toNat * (1 : Nat)).blt N then bif chk ((1 : Nat) ≤ k
     ∧ k ≤ (15 : Nat) ∧ k = k ∧ xs.length = k ∧ (1 : Nat) = (1 : Nat) ∧ (↑k : Int) ≤ n) then bif chk ((1 : Nat) ≤ (pushW n xs (gs.getD ((0 : Nat) + (↑i : Int).toNat * (1 : Nat)) (0 : Int))).length ∧ (pushW
     n xs (gs.getD ((0 : Nat) + (↑i : Int).toNat * (1 : Nat)) (0 : Int))).length ≤ (1000 : Nat) ∧ (pushW n xs (gs.getD ((0 : Nat) + (↑i : Int).toNat * (1 : Nat)) (0 : Int))).length = (pushW n xs (gs.getD
     ((0 : Nat) + (↑i : Int).toNat * (1 : Nat)) (0 : Int))).length ∧ (pushW n xs (gs.getD ((0 : Nat) + (↑i : Int).toNat * (1 : Nat)) (0 : Int))).length = (pushW n xs (gs.getD ((0 : Nat) + (↑i : Int).toNat
     * (1 : Nat)) (0 : Int))).length) then bif chk ((↑N : Int) = (↑N : Int) ∧ N = N ∧ (0 : Int) ≤ (↑i : Int) ∧ n = n ∧ (↑(pushW n xs (gs.getD ((0 : Nat) + (↑i : Int).toNat * (1 : Nat)) (0 : Int))).length :
     Int) = (↑(pushW n xs (gs.getD ((0 : Nat) + (↑i : Int).toNat * (1 : Nat)) (0 : Int))).length : Int) ∧ (pushW n xs (gs.getD ((0 : Nat) + (↑i : Int).toNat * (1 : Nat)) (0 : Int))).length = (pushW n xs
     (gs.getD ((0 : Nat) + (↑i : Int).toNat * (1 : Nat)) (0 : Int))).length ∧ (pushW n xs (gs.getD ((0 : Nat) + (↑i : Int).toNat * (1 : Nat)) (0 : Int))).length = (pushW n xs (gs.getD ((0 : Nat) + (↑i :
     Int).toNat * (1 : Nat)) (0 : Int))).length ∧ (pushW n xs (gs.getD ((0 : Nat) + (↑i : Int).toNat * (1 : Nat)) (0 : Int))).length = (pushW n xs (gs.getD ((0 : Nat) + (↑i : Int).toNat * (1 : Nat)) (0 :
     Int))).length ∧ pushW n xs (gs.getD ((0 : Nat) + (↑i : Int).toNat * (1 : Nat)) (0 : Int)) = pushW n xs (gs.getD ((0 : Nat) + (↑i : Int).toNat * (1 : Nat)) (0 : Int)) ∧ (pushW n xs (gs.getD ((0 : Nat)
     + (↑i : Int).toNat * (1 : Nat)) (0 : Int))).length = (pushW n xs (gs.getD ((0 : Nat) + (↑i : Int).toNat * (1 : Nat)) (0 : Int))).length ∧ (pushW n xs (gs.getD ((0 : Nat) + (↑i : Int).toNat * (1 :
     Nat)) (0 : Int))).length ≤ (1000 : Nat)) then bif chk ((1 : Nat) ≤ (pushW n xs (gs.getD ((0 : Nat) + (↑i : Int).toNat * (1 : Nat)) (0 : Int))).length ∧ (pushW n xs (gs.getD ((0 : Nat) + (↑i :
     Int).toNat * (1 : Nat)) (0 : Int))).length ≤ (1000 : Nat) ∧ (pushW n xs (gs.getD ((0 : Nat) + (↑i : Int).toNat * (1 : Nat)) (0 : Int))).length = (pushW n xs (gs.getD ((0 : Nat) + (↑i : Int).toNat * (1
     : Nat)) (0 : Int))).length ∧ (pushW n xs (gs.getD ((0 : Nat) + (↑i : Int).toNat * (1 : Nat)) (0 : Int))).length = (pushW n xs (gs.getD ((0 : Nat) + (↑i : Int).toNat * (1 : Nat)) (0 : Int))).length)
     then bif decide (IntKind.i64.wrap ((2 : Int) * (↑(nLe (mid (pushW n xs (gs.getD ((0 : Nat) + (↑i : Int).toNat * (1 : Nat)) (0 : Int)))) (pushW n xs (gs.getD ((0 : Nat) + (↑i : Int).toNat * (1 : Nat))
     (0 : Int)))) : Int)) < (↑(pushW n xs (gs.getD ((0 : Nat) + (↑i : Int).toNat * (1 : Nat)) (0 : Int))).length : Int)) then none else bif decide (IntKind.i64.wrap ((2 : Int) * (↑(nGe (mid (pushW n xs
     (gs.getD ((0 : Nat) + (↑i : Int).toNat * (1 : Nat)) (0 : Int)))) (pushW n xs (gs.getD ((0 : Nat) + (↑i : Int).toNat * (1 : Nat)) (0 : Int)))) : Int)) < (↑(pushW n xs (gs.getD ((0 : Nat) + (↑i :
     Int).toNat * (1 : Nat)) (0 : Int))).length : Int)) then none else bif (↑(nEq (mid (pushW n xs (gs.getD ((0 : Nat) + (↑i : Int).toNat * (1 : Nat)) (0 : Int)))) (pushW n xs (gs.getD ((0 : Nat) + (↑i :
     Int).toNat * (1 : Nat)) (0 : Int)))) : Int) == (0 : Int) then none else bif decide ((↑(pushW n xs (gs.getD ((0 : Nat) + (↑i : Int).toNat * (1 : Nat)) (0 : Int))).length : Int) > n) then none else on
     [Value.bool false, Value.int IntKind.i64 n, Value.int IntKind.i64 a, Value.int IntKind.i64 b, Value.int IntKind.i64 f, Value.slice (some (Addr.mk (0 : Nat) (0 : Nat) none)) N (2 : Nat), Value.int
     IntKind.i64 (↑N : Int), Value.int IntKind.i64 (IntKind.i64.wrap ((↑(↑i : Int).toNat : Int) + (1 : Int))), Value.pointer (some (Addr.mk (1 : Nat) (0 : Nat) none))] [some (Blk.mk false (1 : Nat)
     [Seg.ints IntKind.i64 N gs]), some (Blk.mk true (2 : Nat) [Seg.ints IntKind.i64 (1 : Nat) [n], Seg.vals [Value.slice (some (Addr.mk (2 : Nat) (0 : Nat) none)) (pushW n xs (gs.getD ((0 : Nat) + (↑i :
     Int).toNat * (1 : Nat)) (0 : Int))).length (1 : Nat)]]), some (Blk.mk true (1 : Nat) [Seg.ints IntKind.i64 (pushW n xs (gs.getD ((0 : Nat) + (↑i : Int).toNat * (1 : Nat)) (0 : Int))).length (pushW n
     xs (gs.getD ((0 : Nat) + (↑i : Int).toNat * (1 : Nat)) (0 : Int)))])] else none else none else none else none else none else none else none) (by kernel_rfl) (by simp only [-eq_self, Int.toNat_natCast, Nat.mul_one, Nat.zero_add, swrap w1.1 w1.2, swrap w2.1 w2.2, swrap w3.1 w3.2]; exact (go_t (dec_t h1) (go_t (and_t (dec_t h2) (dec_t h1)) (go_t (blt_t h3) (go_t (chk_t h4) (go_t (chk_t h5) (go_t (chk_t h6) (go_t (chk_t h5) (go_f (dec_f h7) (go_f (dec_f h8) (go_f (eqb_f h9) (go_f (dec_f h10) rfl))))))))))))
--CFEND
--CP p4x (n a b f : Int) (N : Nat) (gs : List Int) (on : List Value → Heap → Out) (out : Exit → List Value → Heap → Out) :: roundK Try.prog (S4.on [(44, false)]) L4i Try.f4.ntmps 1 (loopOf Try.f4 0) live4 (st4 n a b f N N) [rB false N gs, mB true n (.slice none 0 0)] on out
theorem p4x (n a b f : Int) (N : Nat) (gs : List Int) (on : List Value → Heap → Out) (out : Exit → List Value → Heap → Out)
    (h1 : ¬(↑N : Int) < (↑N : Int) := by first | omega | assumption | rfl) : roundK Try.prog (S4.on [(44, false)]) L4i Try.f4.ntmps 1 (loopOf Try.f4 0) live4 (st4 n a b f N N) [rB false N gs, mB true n (.slice none 0 0)] on out =
     (out (Exit.exit (0 : Nat)) [Value.bool false, Value.int IntKind.i64 n, Value.int IntKind.i64 a, Value.int IntKind.i64 b, Value.int IntKind.i64 f, Value.slice (some (Addr.mk (0 : Nat) (0 : Nat) none))
     N (2 : Nat), Value.int IntKind.i64 (↑N : Int), Value.int IntKind.i64 (↑N : Int), Value.pointer (some (Addr.mk (1 : Nat) (0 : Nat) none))] [some (Blk.mk false (1 : Nat) [Seg.ints IntKind.i64 N gs]),
     some (Blk.mk true (2 : Nat) [Seg.ints IntKind.i64 (1 : Nat) [n], Seg.vals [Value.slice none (0 : Nat) (0 : Nat)]])]) :=
  Eq.trans (by kernel_rfl) (go_f (dec_f h1) rfl)
--CFEND
--CP p4y (n a b f : Int) (N k : Nat) (gs xs : List Int) (on : List Value → Heap → Out) (out : Exit → List Value → Heap → Out) :: roundK Try.prog (S4.on [(44, false)]) L4i Try.f4.ntmps 1 (loopOf Try.f4 0) live4 (st4 n a b f N N) [rB false N gs, mB true n (sl 2 k 1), rB true k xs] on out
theorem p4y (n a b f : Int) (N k : Nat) (gs xs : List Int) (on : List Value → Heap → Out) (out : Exit → List Value → Heap → Out)
    (h1 : ¬(↑N : Int) < (↑N : Int) := by first | omega | assumption | rfl) : roundK Try.prog (S4.on [(44, false)]) L4i Try.f4.ntmps 1 (loopOf Try.f4 0) live4 (st4 n a b f N N) [rB false N gs, mB true n (sl 2 k 1), rB true k xs] on out =
     (out (Exit.exit (0 : Nat)) [Value.bool false, Value.int IntKind.i64 n, Value.int IntKind.i64 a, Value.int IntKind.i64 b, Value.int IntKind.i64 f, Value.slice (some (Addr.mk (0 : Nat) (0 : Nat) none))
     N (2 : Nat), Value.int IntKind.i64 (↑N : Int), Value.int IntKind.i64 (↑N : Int), Value.pointer (some (Addr.mk (1 : Nat) (0 : Nat) none))] [some (Blk.mk false (1 : Nat) [Seg.ints IntKind.i64 N gs]),
     some (Blk.mk true (2 : Nat) [Seg.ints IntKind.i64 (1 : Nat) [n], Seg.vals [Value.slice (some (Addr.mk (2 : Nat) (0 : Nat) none)) k (1 : Nat)]]), some (Blk.mk true (1 : Nat) [Seg.ints IntKind.i64 k
     xs])]) :=
  Eq.trans (by kernel_rfl) (go_f (dec_f h1) rfl)
--CFEND
theorem S4_ok : SpecOK Try.prog S4 := mkS_cons okAddB (mkS_cons okAllB (mkS_nil _))
theorem loopsI4 : LoopsOK Try.prog L4i Try.f4.ntmps 1 (loopOf Try.f4 0) := loops_one rfl (by kernel_rfl) loopOK4i
theorem loop4 (n a b f : Int) (N : Nat) (gs : List Int) (hn : 1 ≤ n) (hn2 : n ≤ 15) (hN : N ≤ 100) : ∀ (m i k : Nat) (xs : List Int), i + m = N → 1 ≤ k → (k : Int) ≤ n → xs.length = k →
    LoopT Try.prog Try.f4.ntmps 1 (loopOf Try.f4 0) (zipS live4 (st4 n a b f N i)) [rB false N gs, mB true n (sl 2 k 1), rB true k xs] (.exit 0) (zipS live4 (st4 n a b f N N)) [rB false N gs, none, none]
  | 0, i, k, xs, hi, h1, h2, h3 => by
    obtain rfl : i = N := hi
    refine LoopT.weakE (LoopT.last (by simp) (CodeT.out (S := S4.on [(44, false)]) S4_ok loopsI4 (fun on out => p4y n a b f i k gs xs on out))) (WeakS.ext (fun id blk h => ?_) (by simp))
    match id, h with
    | 0, h => exact h
    | 1, h => cases h
    | 2, h => cases h
  | m + 1, i, k, xs, hi, h1, h2, h3 => by
    have hp := pushW_len (x := gs.getD i 0) (show 1 ≤ xs.length by omega) (show (xs.length : Int) ≤ n by omega)
    have hl := mid_le hp.1
    have hg := mid_ge hp.1
    have he := mid_eq hp.1
    have hlb : nLe (mid (pushW n xs (gs.getD i 0))) (pushW n xs (gs.getD i 0)) ≤ (pushW n xs (gs.getD i 0)).length := List.countP_le_length
    have hgb : nGe (mid (pushW n xs (gs.getD i 0))) (pushW n xs (gs.getD i 0)) ≤ (pushW n xs (gs.getD i 0)).length := List.countP_le_length
    refine LoopT.step (CodeT.on (S := S4.on [(44, true), (94, false)]) S4_ok loopsI4 (fun on out => p4b n a b f N i k gs xs on out (by omega) (by omega) (by omega) (by omega) (by omega) (by omega)
      ⟨h1, by omega, rfl, h3, rfl, h2⟩ ⟨hp.1, by omega, rfl, rfl⟩ ⟨rfl, rfl, by omega, rfl, rfl, rfl, rfl, rfl, rfl, rfl, by omega⟩ (by omega) (by omega) (by omega) (by omega))) ?_
    exact loop4 n a b f N gs hn hn2 hN m (i + 1) _ _ (by omega) hp.1 hp.2.1 rfl
noncomputable def L4f : LF := fun vs h k => match vs, h with
  | [.bool false, .int .i64 n, .int .i64 a, .int .i64 b, .int .i64 f, .slice (some ⟨0, 0, none⟩) N 2, .int .i64 N', .int .i64 0, .pointer (some ⟨1, 0, none⟩)],
    [some ⟨false, 1, [.ints .i64 N2 gs]⟩, some ⟨true, 2, [.ints .i64 1 [n'], .vals [.slice none 0 0]]⟩] =>
    bif chk (N' = N ∧ N2 = N ∧ n' = n ∧ 1 ≤ n ∧ n ≤ 15 ∧ N ≤ 100) then k (.exit 0) (st4 n a b f N N) [rB false N gs, none, none] else none
  | _, _ => none
noncomputable def L4 : LSpec := oneL 5 live4 L4f
theorem loopOK4 : LoopOK Try.prog Try.f4.ntmps 1 (loopOf Try.f4 0) live4 L4f := by
  refine LoopOK.of_T ?_
  intro vs h k out hk
  unfold L4f at hk
  split at hk
  · obtain ⟨hb, hk2⟩ := bif_t hk
    obtain ⟨rfl, rfl, rfl, h1, h2, h3⟩ := chk_iff.1 hb
    refine ⟨_, _, _, hk2, fun _ => ?_⟩
    rename_i a b f N gs n _
    cases N with
    | zero =>
      refine LoopT.weakE (LoopT.last (by simp) (CodeT.out (S := S4.on [(44, false)]) S4_ok loopsI4 (fun on out => p4x n a b f 0 gs on out))) (WeakS.ext (fun id blk h => ?_) (by simp))
      match id, h with
      | 0, h => exact h
      | 1, h => cases h
      | 2, h => cases h
    | succ N =>
      have e1 : nLe (gs.getD 0 0) [gs.getD 0 0] = 1 := by simp [nLe]
      have e2 : nGe (gs.getD 0 0) [gs.getD 0 0] = 1 := by simp [nGe]
      have e3 : nEq (gs.getD 0 0) [gs.getD 0 0] = 1 := by simp [nEq]
      refine LoopT.step (CodeT.on (S := S4.on [(44, true), (94, false)]) S4_ok loopsI4 (fun on out => p4a n a b f (N + 1) 0 gs on out (by omega) (by omega) (by omega) (by omega) (by omega) (by omega) h1
        ⟨by omega, by omega, rfl, rfl⟩ ⟨rfl, rfl, by omega, rfl, rfl, rfl, rfl, rfl, rfl, rfl, by omega⟩ (by omega) (by omega) (by omega) (by omega))) ?_
      exact loop4 n a b f (N + 1) gs h1 h2 h3 N 1 1 [gs.getD 0 0] (by omega) (by omega) (by omega) rfl
  · cases hk
theorem loops4 : LoopsOK Try.prog L4 Try.f4.ntmps 1 (bodyOf Try.f4) := loops_one rfl (by kernel_rfl) loopOK4
end Go.Proofs.Ythdeanljgdjbhaa.VC
