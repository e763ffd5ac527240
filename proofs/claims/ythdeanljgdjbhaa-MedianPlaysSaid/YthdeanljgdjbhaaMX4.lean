/- The window of numbers: how many are not above a number. -/
import Derived.Test.YthdeanljgdjbhaaMX3
namespace Go.Proofs.Ythdeanljgdjbhaa.VC
open Go Go.Proofs

noncomputable def inner4 : Code := ((loops (loopOf Try.f4 0))[0]?).getD .skip
def live4i : List Nat := [10, 0, 2, 3, 4, 41, 42, 43, 11, 15, 16, 17, 18, 51, 52, 53]
/-- The state of the inner loop. -/
abbrev st4i (n a b f : Int) (N : Nat) (i : Nat) (v : Int) (p q r k j : Nat) : List Value := [.bool false, w63 n, w63 a, w63 b, w63 f, sl 0 N 2, w63 N, w63 i, pt 1, w63 v, w63 p, w63 q, w63 r, sl 3 k 1, w63 k, w63 j]
abbrev hp4i (n : Int) (N k : Nat) (gs xs : List Int) : Heap := [rB false N gs, mB true n (sl 2 k 1), rB true k xs, rB true k xs]
--CP p4lt (n a b f : Int) (N i : Nat) (v : Int) (p q r k j : Nat) (gs xs : List Int) (on : List Value → Heap → Out) (out : Exit → List Value → Heap → Out) :: roundK Try.prog ((mkS []).on [(54, true), (59, true), (64, false), (69, false)]) noL Try.f4.ntmps 1 inner4 live4i (st4i n a b f N i v p q r k j) (hp4i n N k gs xs) on out
theorem p4lt (n a b f : Int) (N i : Nat) (v : Int) (p q r k j : Nat) (gs xs : List Int) (on : List Value → Heap → Out) (out : Exit → List Value → Heap → Out)
    (w1 : -9223372036854775808 ≤ (↑p : Int) + (1 : Int) ∧ (↑p : Int) + (1 : Int) ≤ 9223372036854775807 := by omega)
    (w2 : -9223372036854775808 ≤ (↑j : Int) + (1 : Int) ∧ (↑j : Int) + (1 : Int) ≤ 9223372036854775807 := by omega)
    (h1 : (↑j : Int) < (↑k : Int) := by first | omega | assumption | rfl)
    (h2 : (0 : Int) ≤ (↑j : Int) := by first | omega | assumption | rfl)
    (h3 : j < k := by first | omega | assumption | rfl)
    (h4 : xs.getD j (0 : Int) ≤ v := by first | omega | assumption | rfl)
    (h5 : ¬xs.getD j (0 : Int) ≥ v := by first | omega | assumption | rfl)
    (h6 : xs.getD j (0 : Int) ≠ v := by first | omega | assumption | rfl) : roundK Try.prog ((mkS []).on [(54, true), (59, true), (64, false), (69, false)]) noL Try.f4.ntmps 1 inner4 live4i (st4i n a b f N i v p q r k j) (hp4i n N k gs xs) on out =
     (on [Value.bool false, Value.int IntKind.i64 n, Value.int IntKind.i64 a, Value.int IntKind.i64 b, Value.int IntKind.i64 f, Value.slice (some (Addr.mk (0 : Nat) (0 : Nat) none)) N (2 : Nat), Value.int
     IntKind.i64 (↑N : Int), Value.int IntKind.i64 (↑i : Int), Value.pointer (some (Addr.mk (1 : Nat) (0 : Nat) none)), Value.int IntKind.i64 v, Value.int IntKind.i64 ((↑p : Int) + (1 : Int)), Value.int
     IntKind.i64 (↑q : Int), Value.int IntKind.i64 (↑r : Int), Value.slice (some (Addr.mk (3 : Nat) (0 : Nat) none)) k (1 : Nat), Value.int IntKind.i64 (↑k : Int), Value.int IntKind.i64 ((↑j : Int) + (1 :
     Int))] [some (Blk.mk false (1 : Nat) [Seg.ints IntKind.i64 N gs]), some (Blk.mk true (2 : Nat) [Seg.ints IntKind.i64 (1 : Nat) [n], Seg.vals [Value.slice (some (Addr.mk (2 : Nat) (0 : Nat) none)) k (1
     : Nat)]]), some (Blk.mk true (1 : Nat) [Seg.ints IntKind.i64 k xs]), some (Blk.mk true (1 : Nat) [Seg.ints IntKind.i64 k xs])]) :=
  Eq.trans (b :=
     bif decide ((↑j : Int) < (↑k : Int)) then bif decide ((0 : Int) ≤ (↑j : Int)) && decide ((↑j : Int) < (↑k : Int)) then bif ((0 : Nat) + (↑j : Int).toNat * (1 : Nat)).blt k then bif decide (xs.getD ((0
     : Nat) + (↑j : Int).toNat * (1 : Nat)) (0 : Int) ≤ v) then bif decide (xs.getD ((0 : Nat) + (↑j : Int).toNat * (1 : Nat)) (0 : Int) ≥ v) then none else bif xs.getD ((0 : Nat) + (↑j : Int).toNat * (1 :
     Nat)) (0 : Int) == v then none else on [Value.bool false, Value.int IntKind.i64 n, Value.int IntKind.i64 a, Value.int IntKind.i64 b, Value.int IntKind.i64 f, Value.slice (some (Addr.mk (0 : Nat) (0 :
     Nat) none)) N (2 : Nat), Value.int IntKind.i64 (↑N : Int), Value.int IntKind.i64 (↑i : Int), Value.pointer (some (Addr.mk (1 : Nat) (0 : Nat) none)), Value.int IntKind.i64 v, Value.int IntKind.i64
     (IntKind.i64.wrap ((↑p : Int) + (1 : Int))), Value.int IntKind.i64 (↑q : Int), Value.int IntKind.i64 (↑r : Int), Value.slice (some (Addr.mk (3 : Nat) (0 : Nat) none)) k (1 : Nat), Value.int
     IntKind.i64 (↑k : Int), Value.int IntKind.i64 (IntKind.i64.wrap ((↑j : Int) + (1 : Int)))] [some (Blk.mk false (1 : Nat) [Seg.ints IntKind.i64 N gs]), some (Blk.mk true (2 : Nat) [Seg.ints IntKind.i64
     (1 : Nat) [n], Seg.vals [Value.slice (some (Addr.mk (2 : Nat) (0 : Nat) none)) k (1 : Nat)]]), some (Blk.mk true (1 : Nat) [Seg.ints IntKind.i64 k xs]), some (Blk.mk true (1 : Nat) [Seg.ints
     IntKind.i64 k xs])] else none else none else none else none) (by kernel_rfl) (by simp only [-eq_self, Int.toNat_natCast, Nat.mul_one, Nat.zero_add, swrap w1.1 w1.2, swrap w2.1 w2.2]; exact (go_t (dec_t h1) (go_t (and_t (dec_t h2) (dec_t h1)) (go_t (blt_t h3) (go_t (dec_t h4) (go_f (dec_f h5) (go_f (eqb_f h6) rfl)))))))
--CFEND
--CP p4eq (n a b f : Int) (N i : Nat) (v : Int) (p q r k j : Nat) (gs xs : List Int) (on : List Value → Heap → Out) (out : Exit → List Value → Heap → Out) :: roundK Try.prog ((mkS []).on [(54, true), (59, true), (64, true), (69, true)]) noL Try.f4.ntmps 1 inner4 live4i (st4i n a b f N i v p q r k j) (hp4i n N k gs xs) on out
theorem p4eq (n a b f : Int) (N i : Nat) (v : Int) (p q r k j : Nat) (gs xs : List Int) (on : List Value → Heap → Out) (out : Exit → List Value → Heap → Out)
    (w1 : -9223372036854775808 ≤ (↑p : Int) + (1 : Int) ∧ (↑p : Int) + (1 : Int) ≤ 9223372036854775807 := by omega)
    (w2 : -9223372036854775808 ≤ (↑q : Int) + (1 : Int) ∧ (↑q : Int) + (1 : Int) ≤ 9223372036854775807 := by omega)
    (w3 : -9223372036854775808 ≤ (↑r : Int) + (1 : Int) ∧ (↑r : Int) + (1 : Int) ≤ 9223372036854775807 := by omega)
    (w4 : -9223372036854775808 ≤ (↑j : Int) + (1 : Int) ∧ (↑j : Int) + (1 : Int) ≤ 9223372036854775807 := by omega)
    (h1 : (↑j : Int) < (↑k : Int) := by first | omega | assumption | rfl)
    (h2 : (0 : Int) ≤ (↑j : Int) := by first | omega | assumption | rfl)
    (h3 : j < k := by first | omega | assumption | rfl)
    (h4 : xs.getD j (0 : Int) ≤ v := by first | omega | assumption | rfl)
    (h5 : xs.getD j (0 : Int) ≥ v := by first | omega | assumption | rfl)
    (h6 : xs.getD j (0 : Int) = v := by first | omega | assumption | rfl) : roundK Try.prog ((mkS []).on [(54, true), (59, true), (64, true), (69, true)]) noL Try.f4.ntmps 1 inner4 live4i (st4i n a b f N i v p q r k j) (hp4i n N k gs xs) on out =
     (on [Value.bool false, Value.int IntKind.i64 n, Value.int IntKind.i64 a, Value.int IntKind.i64 b, Value.int IntKind.i64 f, Value.slice (some (Addr.mk (0 : Nat) (0 : Nat) none)) N (2 : Nat), Value.int
     IntKind.i64 (↑N : Int), Value.int IntKind.i64 (↑i : Int), Value.pointer (some (Addr.mk (1 : Nat) (0 : Nat) none)), Value.int IntKind.i64 v, Value.int IntKind.i64 ((↑p : Int) + (1 : Int)), Value.int
     IntKind.i64 ((↑q : Int) + (1 : Int)), Value.int IntKind.i64 ((↑r : Int) + (1 : Int)), Value.slice (some (Addr.mk (3 : Nat) (0 : Nat) none)) k (1 : Nat), Value.int IntKind.i64 (↑k : Int), Value.int
     IntKind.i64 ((↑j : Int) + (1 : Int))] [some (Blk.mk false (1 : Nat) [Seg.ints IntKind.i64 N gs]), some (Blk.mk true (2 : Nat) [Seg.ints IntKind.i64 (1 : Nat) [n], Seg.vals [Value.slice (some (Addr.mk
     (2 : Nat) (0 : Nat) none)) k (1 : Nat)]]), some (Blk.mk true (1 : Nat) [Seg.ints IntKind.i64 k xs]), some (Blk.mk true (1 : Nat) [Seg.ints IntKind.i64 k xs])]) :=
  Eq.trans (b :=
     bif decide ((↑j : Int) < (↑k : Int)) then bif decide ((0 : Int) ≤ (↑j : Int)) && decide ((↑j : Int) < (↑k : Int)) then bif ((0 : Nat) + (↑j : Int).toNat * (1 : Nat)).blt k then bif decide (xs.getD ((0
     : Nat) + (↑j : Int).toNat * (1 : Nat)) (0 : Int) ≤ v) then bif decide (xs.getD ((0 : Nat) + (↑j : Int).toNat * (1 : Nat)) (0 : Int) ≥ v) then bif xs.getD ((0 : Nat) + (↑j : Int).toNat * (1 : Nat)) (0
     : Int) == v then on [Value.bool false, Value.int IntKind.i64 n, Value.int IntKind.i64 a, Value.int IntKind.i64 b, Value.int IntKind.i64 f, Value.slice (some (Addr.mk (0 : Nat) (0 : Nat) none)) N (2 :
     Nat), Value.int IntKind.i64 (↑N : Int), Value.int IntKind.i64 (↑i : Int), Value.pointer (some (Addr.mk (1 : Nat) (0 : Nat) none)), Value.int IntKind.i64 v, Value.int IntKind.i64 (IntKind.i64.wrap ((↑p
     : Int) + (1 : Int))), Value.int IntKind.i64 (IntKind.i64.wrap ((↑q : Int) + (1 : Int))), Value.int IntKind.i64 (IntKind.i64.wrap ((↑r : Int) + (1 : Int))), Value.slice (some (Addr.mk (3 : Nat) (0 :
     Nat) none)) k (1 : Nat), Value.int IntKind.i64 (↑k : Int), Value.int IntKind.i64 (IntKind.i64.wrap ((↑j : Int) + (1 : Int)))] [some (Blk.mk false (1 : Nat) [Seg.ints IntKind.i64 N gs]), some (Blk.mk
     true (2 : Nat) [Seg.ints IntKind.i64 (1 : Nat) [n], Seg.vals [Value.slice (some (Addr.mk (2 : Nat) (0 : Nat) none)) k (1 : Nat)]]), some (Blk.mk true (1 : Nat) [Seg.ints IntKind.i64 k xs]), some
     (Blk.mk true (1 : Nat) [Seg.ints IntKind.i64 k xs])] else none else none else none else none else none else none) (by kernel_rfl) (by simp only [-eq_self, Int.toNat_natCast, Nat.mul_one, Nat.zero_add, swrap w1.1 w1.2, swrap w2.1 w2.2, swrap w3.1 w3.2, swrap w4.1 w4.2]; exact (go_t (dec_t h1) (go_t (and_t (dec_t h2) (dec_t h1)) (go_t (blt_t h3) (go_t (dec_t h4) (go_t (dec_t h5) (go_t (eqb_t h6) rfl)))))))
--CFEND
--CP p4gt (n a b f : Int) (N i : Nat) (v : Int) (p q r k j : Nat) (gs xs : List Int) (on : List Value → Heap → Out) (out : Exit → List Value → Heap → Out) :: roundK Try.prog ((mkS []).on [(54, true), (59, false), (64, true), (69, false)]) noL Try.f4.ntmps 1 inner4 live4i (st4i n a b f N i v p q r k j) (hp4i n N k gs xs) on out
theorem p4gt (n a b f : Int) (N i : Nat) (v : Int) (p q r k j : Nat) (gs xs : List Int) (on : List Value → Heap → Out) (out : Exit → List Value → Heap → Out)
    (w1 : -9223372036854775808 ≤ (↑q : Int) + (1 : Int) ∧ (↑q : Int) + (1 : Int) ≤ 9223372036854775807 := by omega)
    (w2 : -9223372036854775808 ≤ (↑j : Int) + (1 : Int) ∧ (↑j : Int) + (1 : Int) ≤ 9223372036854775807 := by omega)
    (h1 : (↑j : Int) < (↑k : Int) := by first | omega | assumption | rfl)
    (h2 : (0 : Int) ≤ (↑j : Int) := by first | omega | assumption | rfl)
    (h3 : j < k := by first | omega | assumption | rfl)
    (h4 : ¬xs.getD j (0 : Int) ≤ v := by first | omega | assumption | rfl)
    (h5 : xs.getD j (0 : Int) ≥ v := by first | omega | assumption | rfl)
    (h6 : xs.getD j (0 : Int) ≠ v := by first | omega | assumption | rfl) : roundK Try.prog ((mkS []).on [(54, true), (59, false), (64, true), (69, false)]) noL Try.f4.ntmps 1 inner4 live4i (st4i n a b f N i v p q r k j) (hp4i n N k gs xs) on out =
     (on [Value.bool false, Value.int IntKind.i64 n, Value.int IntKind.i64 a, Value.int IntKind.i64 b, Value.int IntKind.i64 f, Value.slice (some (Addr.mk (0 : Nat) (0 : Nat) none)) N (2 : Nat), Value.int
     IntKind.i64 (↑N : Int), Value.int IntKind.i64 (↑i : Int), Value.pointer (some (Addr.mk (1 : Nat) (0 : Nat) none)), Value.int IntKind.i64 v, Value.int IntKind.i64 (↑p : Int), Value.int IntKind.i64 ((↑q
     : Int) + (1 : Int)), Value.int IntKind.i64 (↑r : Int), Value.slice (some (Addr.mk (3 : Nat) (0 : Nat) none)) k (1 : Nat), Value.int IntKind.i64 (↑k : Int), Value.int IntKind.i64 ((↑j : Int) + (1 :
     Int))] [some (Blk.mk false (1 : Nat) [Seg.ints IntKind.i64 N gs]), some (Blk.mk true (2 : Nat) [Seg.ints IntKind.i64 (1 : Nat) [n], Seg.vals [Value.slice (some (Addr.mk (2 : Nat) (0 : Nat) none)) k (1
     : Nat)]]), some (Blk.mk true (1 : Nat) [Seg.ints IntKind.i64 k xs]), some (Blk.mk true (1 : Nat) [Seg.ints IntKind.i64 k xs])]) :=
  Eq.trans (b :=
     bif decide ((↑j : Int) < (↑k : Int)) then bif decide ((0 : Int) ≤ (↑j : Int)) && decide ((↑j : Int) < (↑k : Int)) then bif ((0 : Nat) + (↑j : Int).toNat * (1 : Nat)).blt k then bif decide (xs.getD ((0
     : Nat) + (↑j : Int).toNat * (1 : Nat)) (0 : Int) ≤ v) then none else bif decide (xs.getD ((0 : Nat) + (↑j : Int).toNat * (1 : Nat)) (0 : Int) ≥ v) then bif xs.getD ((0 : Nat) + (↑j : Int).toNat * (1 :
     Nat)) (0 : Int) == v then none else on [Value.bool false, Value.int IntKind.i64 n, Value.int IntKind.i64 a, Value.int IntKind.i64 b, Value.int IntKind.i64 f, Value.slice (some (Addr.mk (0 : Nat) (0 :
     Nat) none)) N (2 : Nat), Value.int IntKind.i64 (↑N : Int), Value.int IntKind.i64 (↑i : Int), Value.pointer (some (Addr.mk (1 : Nat) (0 : Nat) none)), Value.int IntKind.i64 v, Value.int IntKind.i64 (↑p
     : Int), Value.int IntKind.i64 (IntKind.i64.wrap ((↑q : Int) + (1 : Int))), Value.int IntKind.i64 (↑r : Int), Value.slice (some (Addr.mk (3 : Nat) (0 : Nat) none)) k (1 : Nat), Value.int IntKind.i64
     (↑k : Int), Value.int IntKind.i64 (IntKind.i64.wrap ((↑j : Int) + (1 : Int)))] [some (Blk.mk false (1 : Nat) [Seg.ints IntKind.i64 N gs]), some (Blk.mk true (2 : Nat) [Seg.ints IntKind.i64 (1 : Nat)
     [n], Seg.vals [Value.slice (some (Addr.mk (2 : Nat) (0 : Nat) none)) k (1 : Nat)]]), some (Blk.mk true (1 : Nat) [Seg.ints IntKind.i64 k xs]), some (Blk.mk true (1 : Nat) [Seg.ints IntKind.i64 k xs])]
     else none else none else none else none) (by kernel_rfl) (by simp only [-eq_self, Int.toNat_natCast, Nat.mul_one, Nat.zero_add, swrap w1.1 w1.2, swrap w2.1 w2.2]; exact (go_t (dec_t h1) (go_t (and_t (dec_t h2) (dec_t h1)) (go_t (blt_t h3) (go_f (dec_f h4) (go_t (dec_t h5) (go_f (eqb_f h6) rfl)))))))
--CFEND
--CP p4ix (n a b f : Int) (N i : Nat) (v : Int) (p q r k : Nat) (gs xs : List Int) (on : List Value → Heap → Out) (out : Exit → List Value → Heap → Out) :: roundK Try.prog ((mkS []).on [(54, false)]) noL Try.f4.ntmps 1 inner4 live4i (st4i n a b f N i v p q r k k) (hp4i n N k gs xs) on out
theorem p4ix (n a b f : Int) (N i : Nat) (v : Int) (p q r k : Nat) (gs xs : List Int) (on : List Value → Heap → Out) (out : Exit → List Value → Heap → Out)
    (h1 : ¬(↑k : Int) < (↑k : Int) := by first | omega | assumption | rfl) : roundK Try.prog ((mkS []).on [(54, false)]) noL Try.f4.ntmps 1 inner4 live4i (st4i n a b f N i v p q r k k) (hp4i n N k gs xs) on out =
     (out (Exit.exit (2 : Nat)) [Value.bool false, Value.int IntKind.i64 n, Value.int IntKind.i64 a, Value.int IntKind.i64 b, Value.int IntKind.i64 f, Value.slice (some (Addr.mk (0 : Nat) (0 : Nat) none))
     N (2 : Nat), Value.int IntKind.i64 (↑N : Int), Value.int IntKind.i64 (↑i : Int), Value.pointer (some (Addr.mk (1 : Nat) (0 : Nat) none)), Value.int IntKind.i64 v, Value.int IntKind.i64 (↑p : Int),
     Value.int IntKind.i64 (↑q : Int), Value.int IntKind.i64 (↑r : Int), Value.slice (some (Addr.mk (3 : Nat) (0 : Nat) none)) k (1 : Nat), Value.int IntKind.i64 (↑k : Int), Value.int IntKind.i64 (↑k :
     Int)] [some (Blk.mk false (1 : Nat) [Seg.ints IntKind.i64 N gs]), some (Blk.mk true (2 : Nat) [Seg.ints IntKind.i64 (1 : Nat) [n], Seg.vals [Value.slice (some (Addr.mk (2 : Nat) (0 : Nat) none)) k (1
     : Nat)]]), some (Blk.mk true (1 : Nat) [Seg.ints IntKind.i64 k xs]), some (Blk.mk true (1 : Nat) [Seg.ints IntKind.i64 k xs])]) :=
  Eq.trans (by kernel_rfl) (go_f (dec_f h1) rfl)
--CFEND
def nLe (v : Int) (ys : List Int) : Nat := ys.countP fun y => decide (y ≤ v)
def nGe (v : Int) (ys : List Int) : Nat := ys.countP fun y => decide (y ≥ v)
def nEq (v : Int) (ys : List Int) : Nat := ys.countP fun y => decide (y = v)
theorem drop_getW {xs : List Int} {j : Nat} (h : j < xs.length) : xs.drop j = xs.getD j 0 :: xs.drop (j + 1) := by
  rw [List.drop_eq_getElem_cons h]; simp [List.getD, h]
theorem loop4i (n a b f : Int) (N i : Nat) (v : Int) (k : Nat) (gs xs : List Int) (hx : xs.length = k) (hk : k ≤ 1000) : ∀ (m j p q r : Nat), j + m = k → p ≤ j → q ≤ j → r ≤ j →
    LoopT Try.prog Try.f4.ntmps 1 inner4 (zipS live4i (st4i n a b f N i v p q r k j)) (hp4i n N k gs xs) (.exit 2)
      (zipS live4i (st4i n a b f N i v (p + nLe v (xs.drop j)) (q + nGe v (xs.drop j)) (r + nEq v (xs.drop j)) k k)) (hp4i n N k gs xs)
  | 0, j, p, q, r, hj, hp, hq, hr => by
    obtain rfl : j = k := hj
    rw [List.drop_eq_nil_of_le (by omega)]
    exact LoopT.last (by simp) (CodeT.out (S := (mkS []).on [(54, false)]) mk0 noL_ok (fun on out => p4ix n a b f N i v p q r j gs xs on out))
  | m + 1, j, p, q, r, hj, hp, hq, hr => by
    have hd := drop_getW (xs := xs) (j := j) (by omega)
    rcases Int.lt_trichotomy (xs.getD j 0) v with h | h | h
    · have e1 : nLe v (xs.drop j) = nLe v (xs.drop (j + 1)) + 1 := by rw [hd, nLe, List.countP_cons_of_pos (by simp only [decide_eq_true_eq]; omega)]; rfl
      have e2 : nGe v (xs.drop j) = nGe v (xs.drop (j + 1)) := by rw [hd, nGe, List.countP_cons_of_neg (by simp only [decide_eq_true_eq]; omega)]; rfl
      have e3 : nEq v (xs.drop j) = nEq v (xs.drop (j + 1)) := by rw [hd, nEq, List.countP_cons_of_neg (by simp only [decide_eq_true_eq]; omega)]; rfl
      rw [e1, e2, e3, show p + (nLe v (xs.drop (j + 1)) + 1) = (p + 1) + nLe v (xs.drop (j + 1)) by omega]
      exact LoopT.step (CodeT.on (S := (mkS []).on [(54, true), (59, true), (64, false), (69, false)]) mk0 noL_ok (fun on out => p4lt n a b f N i v p q r k j gs xs on out))
        (loop4i n a b f N i v k gs xs hx hk m (j + 1) (p + 1) q r (by omega) (by omega) (by omega) (by omega))
    · have e1 : nLe v (xs.drop j) = nLe v (xs.drop (j + 1)) + 1 := by rw [hd, nLe, List.countP_cons_of_pos (by simp only [decide_eq_true_eq]; omega)]; rfl
      have e2 : nGe v (xs.drop j) = nGe v (xs.drop (j + 1)) + 1 := by rw [hd, nGe, List.countP_cons_of_pos (by simp only [decide_eq_true_eq]; omega)]; rfl
      have e3 : nEq v (xs.drop j) = nEq v (xs.drop (j + 1)) + 1 := by rw [hd, nEq, List.countP_cons_of_pos (by simp only [decide_eq_true_eq]; omega)]; rfl
      rw [e1, e2, e3, show p + (nLe v (xs.drop (j + 1)) + 1) = (p + 1) + nLe v (xs.drop (j + 1)) by omega, show q + (nGe v (xs.drop (j + 1)) + 1) = (q + 1) + nGe v (xs.drop (j + 1)) by omega, show r + (nEq v (xs.drop (j + 1)) + 1) = (r + 1) + nEq v (xs.drop (j + 1)) by omega]
      exact LoopT.step (CodeT.on (S := (mkS []).on [(54, true), (59, true), (64, true), (69, true)]) mk0 noL_ok (fun on out => p4eq n a b f N i v p q r k j gs xs on out))
        (loop4i n a b f N i v k gs xs hx hk m (j + 1) (p + 1) (q + 1) (r + 1) (by omega) (by omega) (by omega) (by omega))
    · have e1 : nLe v (xs.drop j) = nLe v (xs.drop (j + 1)) := by rw [hd, nLe, List.countP_cons_of_neg (by simp only [decide_eq_true_eq]; omega)]; rfl
      have e2 : nGe v (xs.drop j) = nGe v (xs.drop (j + 1)) + 1 := by rw [hd, nGe, List.countP_cons_of_pos (by simp only [decide_eq_true_eq]; omega)]; rfl
      have e3 : nEq v (xs.drop j) = nEq v (xs.drop (j + 1)) := by rw [hd, nEq, List.countP_cons_of_neg (by simp only [decide_eq_true_eq]; omega)]; rfl
      rw [e1, e2, e3, show q + (nGe v (xs.drop (j + 1)) + 1) = (q + 1) + nGe v (xs.drop (j + 1)) by omega]
      exact LoopT.step (CodeT.on (S := (mkS []).on [(54, true), (59, false), (64, true), (69, false)]) mk0 noL_ok (fun on out => p4gt n a b f N i v p q r k j gs xs on out))
        (loop4i n a b f N i v k gs xs hx hk m (j + 1) p (q + 1) r (by omega) (by omega) (by omega) (by omega))
noncomputable def L4if : LF := fun vs h k => match vs, h with
  | [.bool false, .int .i64 n, .int .i64 a, .int .i64 b, .int .i64 f, .slice (some ⟨0, 0, none⟩) N 2, .int .i64 N', .int .i64 i, .pointer (some ⟨1, 0, none⟩), .int .i64 v, .int .i64 0, .int .i64 0, .int .i64 0, .slice (some ⟨3, 0, none⟩) m 1, .int .i64 m', .int .i64 0],
    [some ⟨false, 1, [.ints .i64 N2 gs]⟩, some ⟨true, 2, [.ints .i64 1 [n'], .vals [.slice (some ⟨2, 0, none⟩) m2 1]]⟩, some ⟨true, 1, [.ints .i64 m3 xs]⟩, some ⟨true, 1, [.ints .i64 m4 ys]⟩] =>
    bif chk (N' = N ∧ N2 = N ∧ 0 ≤ i ∧ n' = n ∧ m' = m ∧ m2 = m ∧ m3 = m ∧ m4 = m ∧ ys = xs ∧ xs.length = m ∧ m ≤ 1000) then
      k (.exit 2) (st4i n a b f N i.toNat v (nLe v xs) (nGe v xs) (nEq v xs) m m) (hp4i n N m gs xs) else none
  | _, _ => none
noncomputable def L4i : LSpec := oneL 10 live4i L4if
theorem loopOK4i : LoopOK Try.prog Try.f4.ntmps 1 inner4 live4i L4if := by
  refine LoopOK.of_T ?_
  intro vs h k out hk
  unfold L4if at hk
  split at hk
  · obtain ⟨hb, hk2⟩ := bif_t hk
    obtain ⟨rfl, rfl, hi, rfl, rfl, rfl, rfl, rfl, rfl, hx, hm⟩ := chk_iff.1 hb
    refine ⟨_, _, _, hk2, fun _ => ?_⟩
    rename_i a b f i v N gs n m xs _
    obtain ⟨i, rfl⟩ := Int.eq_ofNat_of_zero_le hi
    have := loop4i n a b f N i v m gs xs hx hm m 0 0 0 0 (by omega) (by omega) (by omega) (by omega)
    simp only [List.drop_zero, Nat.zero_add] at this
    exact this
  · cases hk
end Go.Proofs.Ythdeanljgdjbhaa.VC
