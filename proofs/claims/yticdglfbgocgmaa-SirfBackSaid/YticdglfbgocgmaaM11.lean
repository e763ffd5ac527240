/- The document's Same: closed forms. -/
import Derived.Test.YticdglfbgocgmaaM10
namespace Go.Proofs.Yticdglfbgocgmaa.VC
open Go Go.Proofs

abbrev uB (a b : Int) (v : Value) : Option Blk := some ⟨true, 3, [.ints .u8 2 [a, b], .vals [v]]⟩
def liveSame : List Nat := [2, 3, 4, 5]
--CP pSmR (a b a' b' : Int) (n m c c' i : Nat) (xs ys : List Int) (on : List Value → Heap → Out) (out : Exit → List Value → Heap → Out) :: roundK Try.prog ((mkS []).on [(31, true), (44, false)]) noL Try.f17.ntmps 2 (loopOf Try.f17 0) liveSame [pt 2, pt 3, .bool false, w63 i] [rI n xs, rI m ys, uB a b (sl 0 n c), uB a' b' (sl 1 m c')] on out
theorem pSmR (a b a' b' : Int) (n m c c' i : Nat) (xs ys : List Int) (on : List Value → Heap → Out) (out : Exit → List Value → Heap → Out)
    (w1 : -9223372036854775808 ≤ (↑i : Int) + (1 : Int) ∧ (↑i : Int) + (1 : Int) ≤ 9223372036854775807 := by omega)
    (h1 : (↑i : Int) < (↑n : Int) := by first | omega | assumption | rfl)
    (h2 : (0 : Int) ≤ (↑i : Int) := by first | omega | assumption | rfl)
    (h3 : i < n := by first | omega | assumption | rfl)
    (h4 : (↑i : Int) < (↑m : Int) := by first | omega | assumption | rfl)
    (h5 : i < m := by first | omega | assumption | rfl)
    (h6 : xs.getD i (0 : Int) = ys.getD i (0 : Int) := by first | omega | assumption | rfl) : roundK Try.prog ((mkS []).on [(31, true), (44, false)]) noL Try.f17.ntmps 2 (loopOf Try.f17 0) liveSame [pt 2, pt 3, .bool false, w63 i] [rI n xs, rI m ys, uB a b (sl 0 n c), uB a' b' (sl 1 m c')] on out =
     (on [Value.pointer (some (Addr.mk (2 : Nat) (0 : Nat) none)), Value.pointer (some (Addr.mk (3 : Nat) (0 : Nat) none)), Value.bool false, Value.int IntKind.i64 ((↑i : Int) + (1 : Int))] [some (Blk.mk
     false (1 : Nat) [Seg.ints IntKind.i64 n xs]), some (Blk.mk false (1 : Nat) [Seg.ints IntKind.i64 m ys]), some (Blk.mk true (3 : Nat) [Seg.ints IntKind.u8 (2 : Nat) [a, b], Seg.vals [Value.slice (some
     (Addr.mk (0 : Nat) (0 : Nat) none)) n c]]), some (Blk.mk true (3 : Nat) [Seg.ints IntKind.u8 (2 : Nat) [a', b'], Seg.vals [Value.slice (some (Addr.mk (1 : Nat) (0 : Nat) none)) m c']])]) :=
  Eq.trans (b :=
     bif decide ((↑i : Int) < (↑n : Int)) then bif decide ((0 : Int) ≤ (↑i : Int)) && decide ((↑i : Int) < (↑n : Int)) then bif ((0 : Nat) + (↑i : Int).toNat * (1 : Nat)).blt n then bif decide ((0 : Int) ≤
     (↑i : Int)) && decide ((↑i : Int) < (↑m : Int)) then bif ((0 : Nat) + (↑i : Int).toNat * (1 : Nat)).blt m then bif xs.getD ((0 : Nat) + (↑i : Int).toNat * (1 : Nat)) (0 : Int) != ys.getD ((0 : Nat) +
     (↑i : Int).toNat * (1 : Nat)) (0 : Int) then none else on [Value.pointer (some (Addr.mk (2 : Nat) (0 : Nat) none)), Value.pointer (some (Addr.mk (3 : Nat) (0 : Nat) none)), Value.bool false, Value.int
     IntKind.i64 (IntKind.i64.wrap ((↑i : Int) + (1 : Int)))] [some (Blk.mk false (1 : Nat) [Seg.ints IntKind.i64 n xs]), some (Blk.mk false (1 : Nat) [Seg.ints IntKind.i64 m ys]), some (Blk.mk true (3 :
     Nat) [Seg.ints IntKind.u8 (2 : Nat) [a, b], Seg.vals [Value.slice (some (Addr.mk (0 : Nat) (0 : Nat) none)) n c]]), some (Blk.mk true (3 : Nat) [Seg.ints IntKind.u8 (2 : Nat) [a', b'], Seg.vals
     [Value.slice (some (Addr.mk (1 : Nat) (0 : Nat) none)) m c']])] else none else none else none else none else none) (by kernel_rfl) (by simp only [-eq_self, Int.toNat_natCast, Nat.mul_one, Nat.zero_add, swrap w1.1 w1.2]; exact (go_t (dec_t h1) (go_t (and_t (dec_t h2) (dec_t h1)) (go_t (blt_t h3) (go_t (and_t (dec_t h2) (dec_t h4)) (go_t (blt_t h5) (go_f (bne_f h6) rfl)))))))
--CFEND
--CP pSmN (a b a' b' : Int) (n m c c' i : Nat) (xs ys : List Int) (on : List Value → Heap → Out) (out : Exit → List Value → Heap → Out) :: roundK Try.prog ((mkS []).on [(31, true), (44, true)]) noL Try.f17.ntmps 2 (loopOf Try.f17 0) liveSame [pt 2, pt 3, .bool false, w63 i] [rI n xs, rI m ys, uB a b (sl 0 n c), uB a' b' (sl 1 m c')] on out
theorem pSmN (a b a' b' : Int) (n m c c' i : Nat) (xs ys : List Int) (on : List Value → Heap → Out) (out : Exit → List Value → Heap → Out)
    (h1 : (↑i : Int) < (↑n : Int) := by first | omega | assumption | rfl)
    (h2 : (0 : Int) ≤ (↑i : Int) := by first | omega | assumption | rfl)
    (h3 : i < n := by first | omega | assumption | rfl)
    (h4 : (↑i : Int) < (↑m : Int) := by first | omega | assumption | rfl)
    (h5 : i < m := by first | omega | assumption | rfl)
    (h6 : xs.getD i (0 : Int) ≠ ys.getD i (0 : Int) := by first | omega | assumption | rfl) : roundK Try.prog ((mkS []).on [(31, true), (44, true)]) noL Try.f17.ntmps 2 (loopOf Try.f17 0) liveSame [pt 2, pt 3, .bool false, w63 i] [rI n xs, rI m ys, uB a b (sl 0 n c), uB a' b' (sl 1 m c')] on out =
     (out Exit.ret [Value.pointer (some (Addr.mk (2 : Nat) (0 : Nat) none)), Value.pointer (some (Addr.mk (3 : Nat) (0 : Nat) none)), Value.bool false, Value.int IntKind.i64 (↑i : Int)] [some (Blk.mk false
     (1 : Nat) [Seg.ints IntKind.i64 n xs]), some (Blk.mk false (1 : Nat) [Seg.ints IntKind.i64 m ys]), some (Blk.mk true (3 : Nat) [Seg.ints IntKind.u8 (2 : Nat) [a, b], Seg.vals [Value.slice (some
     (Addr.mk (0 : Nat) (0 : Nat) none)) n c]]), some (Blk.mk true (3 : Nat) [Seg.ints IntKind.u8 (2 : Nat) [a', b'], Seg.vals [Value.slice (some (Addr.mk (1 : Nat) (0 : Nat) none)) m c']])]) :=
  Eq.trans (b :=
     bif decide ((↑i : Int) < (↑n : Int)) then bif decide ((0 : Int) ≤ (↑i : Int)) && decide ((↑i : Int) < (↑n : Int)) then bif ((0 : Nat) + (↑i : Int).toNat * (1 : Nat)).blt n then bif decide ((0 : Int) ≤
     (↑i : Int)) && decide ((↑i : Int) < (↑m : Int)) then bif ((0 : Nat) + (↑i : Int).toNat * (1 : Nat)).blt m then bif xs.getD ((0 : Nat) + (↑i : Int).toNat * (1 : Nat)) (0 : Int) != ys.getD ((0 : Nat) +
     (↑i : Int).toNat * (1 : Nat)) (0 : Int) then out Exit.ret [Value.pointer (some (Addr.mk (2 : Nat) (0 : Nat) none)), Value.pointer (some (Addr.mk (3 : Nat) (0 : Nat) none)), Value.bool false, Value.int
     IntKind.i64 (↑i : Int)] [some (Blk.mk false (1 : Nat) [Seg.ints IntKind.i64 n xs]), some (Blk.mk false (1 : Nat) [Seg.ints IntKind.i64 m ys]), some (Blk.mk true (3 : Nat) [Seg.ints IntKind.u8 (2 :
     Nat) [a, b], Seg.vals [Value.slice (some (Addr.mk (0 : Nat) (0 : Nat) none)) n c]]), some (Blk.mk true (3 : Nat) [Seg.ints IntKind.u8 (2 : Nat) [a', b'], Seg.vals [Value.slice (some (Addr.mk (1 : Nat)
     (0 : Nat) none)) m c']])] else none else none else none else none else none else none) (by kernel_rfl) (by simp only [-eq_self, Int.toNat_natCast, Nat.mul_one, Nat.zero_add]; exact (go_t (dec_t h1) (go_t (and_t (dec_t h2) (dec_t h1)) (go_t (blt_t h3) (go_t (and_t (dec_t h2) (dec_t h4)) (go_t (blt_t h5) (go_t (bne_t h6) rfl)))))))
--CFEND
--CP pSmX (a b a' b' : Int) (n m c c' i : Nat) (xs ys : List Int) (on : List Value → Heap → Out) (out : Exit → List Value → Heap → Out) :: roundK Try.prog ((mkS []).on [(31, false)]) noL Try.f17.ntmps 2 (loopOf Try.f17 0) liveSame [pt 2, pt 3, .bool false, w63 i] [rI n xs, rI m ys, uB a b (sl 0 n c), uB a' b' (sl 1 m c')] on out
theorem pSmX (a b a' b' : Int) (n m c c' i : Nat) (xs ys : List Int) (on : List Value → Heap → Out) (out : Exit → List Value → Heap → Out)
    (h1 : ¬(↑i : Int) < (↑n : Int) := by first | omega | assumption | rfl) : roundK Try.prog ((mkS []).on [(31, false)]) noL Try.f17.ntmps 2 (loopOf Try.f17 0) liveSame [pt 2, pt 3, .bool false, w63 i] [rI n xs, rI m ys, uB a b (sl 0 n c), uB a' b' (sl 1 m c')] on out =
     (out (Exit.exit (0 : Nat)) [Value.pointer (some (Addr.mk (2 : Nat) (0 : Nat) none)), Value.pointer (some (Addr.mk (3 : Nat) (0 : Nat) none)), Value.bool false, Value.int IntKind.i64 (↑i : Int)] [some
     (Blk.mk false (1 : Nat) [Seg.ints IntKind.i64 n xs]), some (Blk.mk false (1 : Nat) [Seg.ints IntKind.i64 m ys]), some (Blk.mk true (3 : Nat) [Seg.ints IntKind.u8 (2 : Nat) [a, b], Seg.vals
     [Value.slice (some (Addr.mk (0 : Nat) (0 : Nat) none)) n c]]), some (Blk.mk true (3 : Nat) [Seg.ints IntKind.u8 (2 : Nat) [a', b'], Seg.vals [Value.slice (some (Addr.mk (1 : Nat) (0 : Nat) none)) m
     c']])]) :=
  Eq.trans (by kernel_rfl) (go_f (dec_f h1) rfl)
--CFEND
/-- Alike up to a place. -/
def sameTo (xs ys : List Int) (n : Nat) : Prop := ∀ i, i < n → xs.getD i 0 = ys.getD i 0
noncomputable def LSmTf : LF := fun vs h k => match vs, h with
  | [.pointer (some ⟨2, 0, none⟩), .pointer (some ⟨3, 0, none⟩), .bool false, .int .i64 0], [some ⟨false, 1, [.ints .i64 n xs]⟩, some ⟨false, 1, [.ints .i64 m ys]⟩, some ⟨true, 3, [.ints .u8 2 [a, b], .vals [.slice (some ⟨0, 0, none⟩) n' c]]⟩, some ⟨true, 3, [.ints .u8 2 [a', b'], .vals [.slice (some ⟨1, 0, none⟩) m' c']]⟩] =>
    bif chk (n' = n ∧ m' = m ∧ n = m ∧ n ≤ 1000000 ∧ sameTo xs ys n) then k (.exit 0) [pt 2, pt 3, .bool false, w63 n] [rI n xs, rI m ys, uB a b (sl 0 n c), uB a' b' (sl 1 m c')] else none
  | _, _ => none
noncomputable def LSmT : LSpec := oneL 4 liveSame LSmTf
noncomputable def endSm (n : Nat) (xs ys : List Int) : Nat := @Classical.epsilon Nat ⟨0⟩ fun i => i < n ∧ xs.getD i 0 ≠ ys.getD i 0 ∧ sameTo xs ys i
noncomputable def LSmFf : LF := fun vs h k => match vs, h with
  | [.pointer (some ⟨2, 0, none⟩), .pointer (some ⟨3, 0, none⟩), .bool false, .int .i64 0], [some ⟨false, 1, [.ints .i64 n xs]⟩, some ⟨false, 1, [.ints .i64 m ys]⟩, some ⟨true, 3, [.ints .u8 2 [a, b], .vals [.slice (some ⟨0, 0, none⟩) n' c]]⟩, some ⟨true, 3, [.ints .u8 2 [a', b'], .vals [.slice (some ⟨1, 0, none⟩) m' c']]⟩] =>
    bif chk (n' = n ∧ m' = m ∧ n = m ∧ n ≤ 1000000 ∧ ¬ sameTo xs ys n) then k .ret [pt 2, pt 3, .bool false, w63 (endSm n xs ys)] [rI n xs, rI m ys, uB a b (sl 0 n c), uB a' b' (sl 1 m c')] else none
  | _, _ => none
noncomputable def LSmF : LSpec := oneL 4 liveSame LSmFf
--CP pSmT (a b a' b' : Int) (n m c c' : Nat) (xs ys : List Int) :: fnK Try.prog ((mkS []).on [(11, false), (18, false), (26, false)]) LSmT Try.f17 [.agg #[u8v a, u8v b, sl 0 n c], .agg #[u8v a', u8v b', sl 1 m c']] [rI n xs, rI m ys]
theorem pSmT (a b a' b' : Int) (n m c c' : Nat) (xs ys : List Int)
    (h1 : a = a' := by first | omega | assumption | rfl)
    (h2 : b = b' := by first | omega | assumption | rfl)
    (h3 : (↑n : Int) = (↑m : Int) := by first | omega | assumption | rfl)
    (h4 : n = n ∧ m = m ∧ n = m ∧ n ≤ (1000000 : Nat) ∧ sameTo xs ys n := by first | omega | assumption | rfl | ((repeat' with_reducible apply And.intro) <;> first | rfl | assumption | omega)) : fnK Try.prog ((mkS []).on [(11, false), (18, false), (26, false)]) LSmT Try.f17 [.agg #[u8v a, u8v b, sl 0 n c], .agg #[u8v a', u8v b', sl 1 m c']] [rI n xs, rI m ys] =
     (some (Res.ret (Value.bool true) [some (Blk.mk false (1 : Nat) [Seg.ints IntKind.i64 n xs]), some (Blk.mk false (1 : Nat) [Seg.ints IntKind.i64 m ys])])) :=
  Eq.trans (by kernel_rfl) (go_f (bne_f h1) (go_f (bne_f h2) (go_f (bne_f h3) (go_t (chk_t h4) rfl))))
--CFEND
--CP pSmFl (a b a' b' : Int) (n m c c' : Nat) (xs ys : List Int) :: fnK Try.prog ((mkS []).on [(11, false), (18, false), (26, false)]) LSmF Try.f17 [.agg #[u8v a, u8v b, sl 0 n c], .agg #[u8v a', u8v b', sl 1 m c']] [rI n xs, rI m ys]
theorem pSmFl (a b a' b' : Int) (n m c c' : Nat) (xs ys : List Int)
    (h1 : a = a' := by first | omega | assumption | rfl)
    (h2 : b = b' := by first | omega | assumption | rfl)
    (h3 : (↑n : Int) = (↑m : Int) := by first | omega | assumption | rfl)
    (h4 : n = n ∧ m = m ∧ n = m ∧ n ≤ (1000000 : Nat) ∧ ¬sameTo xs ys n := by first | omega | assumption | rfl | ((repeat' with_reducible apply And.intro) <;> first | rfl | assumption | omega)) : fnK Try.prog ((mkS []).on [(11, false), (18, false), (26, false)]) LSmF Try.f17 [.agg #[u8v a, u8v b, sl 0 n c], .agg #[u8v a', u8v b', sl 1 m c']] [rI n xs, rI m ys] =
     (some (Res.ret (Value.bool false) [some (Blk.mk false (1 : Nat) [Seg.ints IntKind.i64 n xs]), some (Blk.mk false (1 : Nat) [Seg.ints IntKind.i64 m ys])])) :=
  Eq.trans (by kernel_rfl) (go_f (bne_f h1) (go_f (bne_f h2) (go_f (bne_f h3) (go_t (chk_t h4) rfl))))
--CFEND
--CP pSmX0 (a b a' b' : Int) (on : List Value → Heap → Out) (out : Exit → List Value → Heap → Out) :: roundK Try.prog ((mkS []).on [(31, false)]) noL Try.f17.ntmps 0 (loopOf Try.f17 0) liveSame [pt 0, pt 1, .bool false, w63 0] [uB a b (.slice none 0 0), uB a' b' (.slice none 0 0)] on out
theorem pSmX0 (a b a' b' : Int) (on : List Value → Heap → Out) (out : Exit → List Value → Heap → Out) : roundK Try.prog ((mkS []).on [(31, false)]) noL Try.f17.ntmps 0 (loopOf Try.f17 0) liveSame [pt 0, pt 1, .bool false, w63 0] [uB a b (.slice none 0 0), uB a' b' (.slice none 0 0)] on out =
     (out (Exit.exit (0 : Nat)) [Value.pointer (some (Addr.mk (0 : Nat) (0 : Nat) none)), Value.pointer (some (Addr.mk (1 : Nat) (0 : Nat) none)), Value.bool false, Value.int IntKind.i64 (0 : Int)] [some
     (Blk.mk true (3 : Nat) [Seg.ints IntKind.u8 (2 : Nat) [a, b], Seg.vals [Value.slice none (0 : Nat) (0 : Nat)]]), some (Blk.mk true (3 : Nat) [Seg.ints IntKind.u8 (2 : Nat) [a', b'], Seg.vals
     [Value.slice none (0 : Nat) (0 : Nat)]])]) :=
  Eq.trans (by kernel_rfl) rfl
--CFEND
noncomputable def LSm0f : LF := fun vs h k => match vs, h with
  | [.pointer (some ⟨0, 0, none⟩), .pointer (some ⟨1, 0, none⟩), .bool false, .int .i64 0], [some ⟨true, 3, [.ints .u8 2 [a, b], .vals [.slice none 0 0]]⟩, some ⟨true, 3, [.ints .u8 2 [a', b'], .vals [.slice none 0 0]]⟩] =>
    k (.exit 0) [pt 0, pt 1, .bool false, w63 0] [uB a b (.slice none 0 0), uB a' b' (.slice none 0 0)]
  | _, _ => none
noncomputable def LSm0 : LSpec := oneL 4 liveSame LSm0f
--CP pSm0 (a b a' b' : Int) :: fnK Try.prog ((mkS []).on [(11, false), (18, false), (26, false)]) LSm0 Try.f17 [.agg #[u8v a, u8v b, .slice none 0 0], .agg #[u8v a', u8v b', .slice none 0 0]] []
theorem pSm0 (a b a' b' : Int)
    (h1 : a = a' := by first | omega | assumption | rfl)
    (h2 : b = b' := by first | omega | assumption | rfl) : fnK Try.prog ((mkS []).on [(11, false), (18, false), (26, false)]) LSm0 Try.f17 [.agg #[u8v a, u8v b, .slice none 0 0], .agg #[u8v a', u8v b', .slice none 0 0]] [] =
     (some (Res.ret (Value.bool true) [])) :=
  Eq.trans (by kernel_rfl) (go_f (bne_f h1) (go_f (bne_f h2) rfl))
--CFEND
noncomputable def FSmT : FSpec := fun args h k => match args, h with
  | [.agg ⟨[.int .u8 a, .int .u8 b, .slice (some ⟨0, 0, none⟩) n' _]⟩, .agg ⟨[.int .u8 a', .int .u8 b', .slice (some ⟨1, 0, none⟩) m' _]⟩], [some ⟨false, 1, [.ints .i64 n xs]⟩, some ⟨false, 1, [.ints .i64 m ys]⟩] =>
    bif chk (a = a' ∧ b = b' ∧ n' = n ∧ m' = m ∧ n = m ∧ n ≤ 1000000 ∧ sameTo xs ys n) then k (.bool true) [rI n xs, rI m ys] else none
  | [.agg ⟨[.int .u8 a, .int .u8 b, .slice none 0 0]⟩, .agg ⟨[.int .u8 a', .int .u8 b', .slice none 0 0]⟩], [] =>
    bif chk (a = a' ∧ b = b') then k (.bool true) [] else none
  | _, _ => none
noncomputable def FSmF : FSpec := fun args h k => match args, h with
  | [.agg ⟨[.int .u8 a, .int .u8 b, .slice (some ⟨0, 0, none⟩) n' _]⟩, .agg ⟨[.int .u8 a', .int .u8 b', .slice (some ⟨1, 0, none⟩) m' _]⟩], [some ⟨false, 1, [.ints .i64 n xs]⟩, some ⟨false, 1, [.ints .i64 m ys]⟩] =>
    bif chk (a = a' ∧ b = b' ∧ n' = n ∧ m' = m ∧ n = m ∧ n ≤ 1000000 ∧ ¬ sameTo xs ys n) then k (.bool false) [rI n xs, rI m ys] else none
  | _, _ => none
noncomputable def SSmT : Spec := mkS [(17, false, FSmT)]
noncomputable def SSmF : Spec := mkS [(17, false, FSmF)]
--CP pSsT (a a' : Int) (n m n' m' c c' : Nat) (xs ys : List Int) :: fnK Try.prog SSmT noL Try.f26 [.agg #[u8v a, sl 0 n' c], .agg #[u8v a', sl 1 m' c']] [rI n xs, rI m ys]
theorem pSsT (a a' : Int) (n m n' m' c c' : Nat) (xs ys : List Int)
    (h1 : a = a' ∧ (0 : Int) = (0 : Int) ∧ n' = n ∧ m' = m ∧ n = m ∧ n ≤ (1000000 : Nat) ∧ sameTo xs ys n := by first | omega | assumption | rfl | ((repeat' with_reducible apply And.intro) <;> first | rfl | assumption | omega)) : fnK Try.prog SSmT noL Try.f26 [.agg #[u8v a, sl 0 n' c], .agg #[u8v a', sl 1 m' c']] [rI n xs, rI m ys] =
     (some (Res.ret (Value.bool true) [some (Blk.mk false (1 : Nat) [Seg.ints IntKind.i64 n xs]), some (Blk.mk false (1 : Nat) [Seg.ints IntKind.i64 m ys])])) :=
  Eq.trans (by kernel_rfl) (go_t (chk_t h1) rfl)
--CFEND
--CP pSsF (a a' : Int) (n m n' m' c c' : Nat) (xs ys : List Int) :: fnK Try.prog SSmF noL Try.f26 [.agg #[u8v a, sl 0 n' c], .agg #[u8v a', sl 1 m' c']] [rI n xs, rI m ys]
theorem pSsF (a a' : Int) (n m n' m' c c' : Nat) (xs ys : List Int)
    (h1 : a = a' ∧ (0 : Int) = (0 : Int) ∧ n' = n ∧ m' = m ∧ n = m ∧ n ≤ (1000000 : Nat) ∧ ¬sameTo xs ys n := by first | omega | assumption | rfl | ((repeat' with_reducible apply And.intro) <;> first | rfl | assumption | omega)) : fnK Try.prog SSmF noL Try.f26 [.agg #[u8v a, sl 0 n' c], .agg #[u8v a', sl 1 m' c']] [rI n xs, rI m ys] =
     (some (Res.ret (Value.bool false) [some (Blk.mk false (1 : Nat) [Seg.ints IntKind.i64 n xs]), some (Blk.mk false (1 : Nat) [Seg.ints IntKind.i64 m ys])])) :=
  Eq.trans (by kernel_rfl) (go_t (chk_t h1) rfl)
--CFEND
--CP pSs0 (a a' : Int) :: fnK Try.prog SSmT noL Try.f26 [.agg #[u8v a, .slice none 0 0], .agg #[u8v a', .slice none 0 0]] []
theorem pSs0 (a a' : Int)
    (h1 : a = a' ∧ (0 : Int) = (0 : Int) := by first | omega | assumption | rfl | ((repeat' with_reducible apply And.intro) <;> first | rfl | assumption | omega)) : fnK Try.prog SSmT noL Try.f26 [.agg #[u8v a, .slice none 0 0], .agg #[u8v a', .slice none 0 0]] [] =
     (some (Res.ret (Value.bool true) [])) :=
  Eq.trans (by kernel_rfl) (go_t (chk_t h1) rfl)
--CFEND
noncomputable def FSsT : FSpec := fun args h k => match args, h with
  | [.agg ⟨[.int .u8 a, .slice (some ⟨0, 0, none⟩) n' _]⟩, .agg ⟨[.int .u8 a', .slice (some ⟨1, 0, none⟩) m' _]⟩], [some ⟨false, 1, [.ints .i64 n xs]⟩, some ⟨false, 1, [.ints .i64 m ys]⟩] =>
    bif chk (a = a' ∧ n' = n ∧ m' = m ∧ n = m ∧ n ≤ 1000000 ∧ sameTo xs ys n) then k (.bool true) [rI n xs, rI m ys] else none
  | [.agg ⟨[.int .u8 a, .slice none 0 0]⟩, .agg ⟨[.int .u8 a', .slice none 0 0]⟩], [] =>
    bif chk (a = a') then k (.bool true) [] else none
  | _, _ => none
noncomputable def FSsF : FSpec := fun args h k => match args, h with
  | [.agg ⟨[.int .u8 a, .slice (some ⟨0, 0, none⟩) n' _]⟩, .agg ⟨[.int .u8 a', .slice (some ⟨1, 0, none⟩) m' _]⟩], [some ⟨false, 1, [.ints .i64 n xs]⟩, some ⟨false, 1, [.ints .i64 m ys]⟩] =>
    bif chk (a = a' ∧ n' = n ∧ m' = m ∧ n = m ∧ n ≤ 1000000 ∧ ¬ sameTo xs ys n) then k (.bool false) [rI n xs, rI m ys] else none
  | _, _ => none
end Go.Proofs.Yticdglfbgocgmaa.VC
