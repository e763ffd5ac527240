/- sirf: Payload: closed forms. -/
import Derived.Test.YticdglfbgocgmaaM14
namespace Go.Proofs.Yticdglfbgocgmaa.VC
open Go Go.Proofs

/-- Values laid one by one. -/
def payB (bs fl vs : List Int) : Nat → List Int
  | 0 => bs
  | k + 1 => putB (payB bs fl vs k) (fl.getD (k * 2) 0).toNat (be (vs.getD k 0) (manyI (fl.getD (k * 2 + 1) 0)).toNat)
def fitsTo (fl vs : List Int) (k : Nat) : Prop := ∀ i, i < k → fitI (vs.getD i 0) (fl.getD (i * 2 + 1) 0)
noncomputable def SPayR : Spec := mkS [(68, true, FPutS)]
abbrev rS (x : Int) (v : Value) : Option Blk := some ⟨true, 2, [.ints .u8 1 [x], .vals [v]]⟩
def livePayS : List Nat := [1, 2, 3, 6, 35, 36, 37]
--CP pPyR (x : Int) (n q c len i k : Nat) (vs bs fl : List Int) (on : List Value → Heap → Out) (out : Exit → List Value → Heap → Out) :: roundK Try.prog (SPayR.on [(38, true), (50, false)]) noL Try.f27.ntmps 1 (loopOf Try.f27 0) livePayS [pt 1, .slice none 0 0, w63 0, sl 2 len 0, sl 3 k 0, w63 k, w63 i] [rI n vs, rS x (sl 0 q c), oU len bs, oF (2 * k) fl] on out
theorem pPyR (x : Int) (n q c len i k : Nat) (vs bs fl : List Int) (on : List Value → Heap → Out) (out : Exit → List Value → Heap → Out)
    (w1 : -9223372036854775808 ≤ (↑i : Int) + (1 : Int) ∧ (↑i : Int) + (1 : Int) ≤ 9223372036854775807 := by omega)
    (h1 : (↑i : Int) < (↑k : Int) := by first | omega | assumption | rfl)
    (h2 : (0 : Int) ≤ (↑i : Int) := by first | omega | assumption | rfl)
    (h3 : i * (2 : Nat) < (2 : Nat) * k := by first | omega | assumption | rfl)
    (h4 : i * (2 : Nat) + (1 : Nat) < (2 : Nat) * k := by first | omega | assumption | rfl)
    (h5 : (↑i : Int) < (↑q : Int) := by first | omega | assumption | rfl)
    (h6 : i < n := by first | omega | assumption | rfl)
    (h7 : len = len ∧ (-4 : Int) ≤ fl.getD (i * (2 : Nat) + (1 : Nat)) (0 : Int) ∧ fl.getD (i * (2 : Nat) + (1 : Nat)) (0 : Int) ≤ (4 : Int) ∧ fl.getD (i * (2 : Nat) + (1 : Nat)) (0 : Int) ≠ (0 : Int) ∧ (0 : Int) ≤ fl.getD (i * (2 : Nat)) (0 : Int) ∧ fl.getD (i * (2 : Nat)) (0 : Int) + manyI (fl.getD (i * (2 : Nat) + (1 : Nat)) (0 : Int)) ≤ (↑len : Int) ∧ len ≤ (1000000 : Nat) := by first | omega | assumption | rfl | ((repeat' with_reducible apply And.intro) <;> first | rfl | assumption | omega))
    (h8 : fitI (vs.getD i (0 : Int)) (fl.getD (i * (2 : Nat) + (1 : Nat)) (0 : Int)) := by first | omega | assumption | rfl) : roundK Try.prog (SPayR.on [(38, true), (50, false)]) noL Try.f27.ntmps 1 (loopOf Try.f27 0) livePayS [pt 1, .slice none 0 0, w63 0, sl 2 len 0, sl 3 k 0, w63 k, w63 i] [rI n vs, rS x (sl 0 q c), oU len bs, oF (2 * k) fl] on out =
     (on [Value.pointer (some (Addr.mk (1 : Nat) (0 : Nat) none)), Value.slice none (0 : Nat) (0 : Nat), Value.int IntKind.i64 (0 : Int), Value.slice (some (Addr.mk (2 : Nat) (0 : Nat) none)) len (0 :
     Nat), Value.slice (some (Addr.mk (3 : Nat) (0 : Nat) none)) k (0 : Nat), Value.int IntKind.i64 (↑k : Int), Value.int IntKind.i64 ((↑i : Int) + (1 : Int))] [some (Blk.mk false (1 : Nat) [Seg.ints
     IntKind.i64 n vs]), some (Blk.mk true (2 : Nat) [Seg.ints IntKind.u8 (1 : Nat) [x], Seg.vals [Value.slice (some (Addr.mk (0 : Nat) (0 : Nat) none)) q c]]), some (Blk.mk true (1 : Nat) [Seg.ints
     IntKind.u8 len (putB bs (fl.getD (i * (2 : Nat)) (0 : Int)).toNat (be (vs.getD i (0 : Int)) (manyI (fl.getD (i * (2 : Nat) + (1 : Nat)) (0 : Int))).toNat))]), some (Blk.mk true (2 : Nat) [Seg.ints
     IntKind.i64 ((2 : Nat) * k) fl])]) :=
  Eq.trans (b :=
     bif decide ((↑i : Int) < (↑k : Int)) then bif decide ((0 : Int) ≤ (↑i : Int)) && decide ((↑i : Int) < (↑k : Int)) then bif ((0 : Nat) + (↑i : Int).toNat * (2 : Nat)).blt ((2 : Nat) * k) then bif ((0 :
     Nat) + (↑i : Int).toNat * (2 : Nat) + (1 : Nat)).blt ((2 : Nat) * k) then bif decide ((0 : Int) ≤ (↑i : Int)) && decide ((↑i : Int) < (↑q : Int)) then bif ((0 : Nat) + (↑i : Int).toNat * (1 :
     Nat)).blt n then bif chk (len = len ∧ (-4 : Int) ≤ fl.getD ((0 : Nat) + (↑i : Int).toNat * (2 : Nat) + (1 : Nat)) (0 : Int) ∧ fl.getD ((0 : Nat) + (↑i : Int).toNat * (2 : Nat) + (1 : Nat)) (0 : Int) ≤
     (4 : Int) ∧ fl.getD ((0 : Nat) + (↑i : Int).toNat * (2 : Nat) + (1 : Nat)) (0 : Int) ≠ (0 : Int) ∧ (0 : Int) ≤ fl.getD ((0 : Nat) + (↑i : Int).toNat * (2 : Nat)) (0 : Int) ∧ fl.getD ((0 : Nat) + (↑i :
     Int).toNat * (2 : Nat)) (0 : Int) + manyI (fl.getD ((0 : Nat) + (↑i : Int).toNat * (2 : Nat) + (1 : Nat)) (0 : Int)) ≤ (↑len : Int) ∧ len ≤ (1000000 : Nat)) then bif !decide (fitI (vs.getD ((0 : Nat)
     + (↑i : Int).toNat * (1 : Nat)) (0 : Int)) (fl.getD ((0 : Nat) + (↑i : Int).toNat * (2 : Nat) + (1 : Nat)) (0 : Int))) then none else on [Value.pointer (some (Addr.mk (1 : Nat) (0 : Nat) none)),
     Value.slice none (0 : Nat) (0 : Nat), Value.int IntKind.i64 (0 : Int), Value.slice (some (Addr.mk (2 : Nat) (0 : Nat) none)) len (0 : Nat), Value.slice (some (Addr.mk (3 : Nat) (0 : Nat) none)) k (0 :
     Nat), Value.int IntKind.i64 (↑k : Int), Value.int IntKind.i64 (IntKind.i64.wrap ((↑i : Int) + (1 : Int)))] [some (Blk.mk false (1 : Nat) [Seg.ints IntKind.i64 n vs]), some (Blk.mk true (2 : Nat)
     [Seg.ints IntKind.u8 (1 : Nat) [x], Seg.vals [Value.slice (some (Addr.mk (0 : Nat) (0 : Nat) none)) q c]]), some (Blk.mk true (1 : Nat) [Seg.ints IntKind.u8 len (putB bs (fl.getD ((0 : Nat) + (↑i :
     Int).toNat * (2 : Nat)) (0 : Int)).toNat (be (vs.getD ((0 : Nat) + (↑i : Int).toNat * (1 : Nat)) (0 : Int)) (manyI (fl.getD ((0 : Nat) + (↑i : Int).toNat * (2 : Nat) + (1 : Nat)) (0 :
     Int))).toNat))]), some (Blk.mk true (2 : Nat) [Seg.ints IntKind.i64 ((2 : Nat) * k) fl])] else none else none else none else none else none else none else none) (by kernel_rfl) (by simp only [-eq_self, Int.toNat_natCast, Nat.zero_add, Nat.mul_one, swrap w1.1 w1.2]; exact (go_t (dec_t h1) (go_t (and_t (dec_t h2) (dec_t h1)) (go_t (blt_t h3) (go_t (blt_t h4) (go_t (and_t (dec_t h2) (dec_t h5)) (go_t (blt_t h6) (go_t (chk_t h7) (go_f (not_f (dec_t h8)) rfl)))))))))
--CFEND
--CP pPyN (x : Int) (n q c len i k : Nat) (vs bs fl : List Int) (on : List Value → Heap → Out) (out : Exit → List Value → Heap → Out) :: roundK Try.prog (SPayR.on [(38, true), (50, true)]) noL Try.f27.ntmps 1 (loopOf Try.f27 0) livePayS [pt 1, .slice none 0 0, w63 0, sl 2 len 0, sl 3 k 0, w63 k, w63 i] [rI n vs, rS x (sl 0 q c), oU len bs, oF (2 * k) fl] on out
theorem pPyN (x : Int) (n q c len i k : Nat) (vs bs fl : List Int) (on : List Value → Heap → Out) (out : Exit → List Value → Heap → Out)
    (h1 : (↑i : Int) < (↑k : Int) := by first | omega | assumption | rfl)
    (h2 : (0 : Int) ≤ (↑i : Int) := by first | omega | assumption | rfl)
    (h3 : i * (2 : Nat) < (2 : Nat) * k := by first | omega | assumption | rfl)
    (h4 : i * (2 : Nat) + (1 : Nat) < (2 : Nat) * k := by first | omega | assumption | rfl)
    (h5 : (↑i : Int) < (↑q : Int) := by first | omega | assumption | rfl)
    (h6 : i < n := by first | omega | assumption | rfl)
    (h7 : len = len ∧ (-4 : Int) ≤ fl.getD (i * (2 : Nat) + (1 : Nat)) (0 : Int) ∧ fl.getD (i * (2 : Nat) + (1 : Nat)) (0 : Int) ≤ (4 : Int) ∧ fl.getD (i * (2 : Nat) + (1 : Nat)) (0 : Int) ≠ (0 : Int) ∧ (0 : Int) ≤ fl.getD (i * (2 : Nat)) (0 : Int) ∧ fl.getD (i * (2 : Nat)) (0 : Int) + manyI (fl.getD (i * (2 : Nat) + (1 : Nat)) (0 : Int)) ≤ (↑len : Int) ∧ len ≤ (1000000 : Nat) := by first | omega | assumption | rfl | ((repeat' with_reducible apply And.intro) <;> first | rfl | assumption | omega))
    (h8 : ¬fitI (vs.getD i (0 : Int)) (fl.getD (i * (2 : Nat) + (1 : Nat)) (0 : Int)) := by first | omega | assumption | rfl) : roundK Try.prog (SPayR.on [(38, true), (50, true)]) noL Try.f27.ntmps 1 (loopOf Try.f27 0) livePayS [pt 1, .slice none 0 0, w63 0, sl 2 len 0, sl 3 k 0, w63 k, w63 i] [rI n vs, rS x (sl 0 q c), oU len bs, oF (2 * k) fl] on out =
     (out Exit.ret [Value.pointer (some (Addr.mk (1 : Nat) (0 : Nat) none)), Value.slice none (0 : Nat) (0 : Nat), Value.int IntKind.i64 (2 : Int), Value.slice (some (Addr.mk (2 : Nat) (0 : Nat) none)) len
     (0 : Nat), Value.slice (some (Addr.mk (3 : Nat) (0 : Nat) none)) k (0 : Nat), Value.int IntKind.i64 (↑k : Int), Value.int IntKind.i64 (↑i : Int)] [some (Blk.mk false (1 : Nat) [Seg.ints IntKind.i64 n
     vs]), some (Blk.mk true (2 : Nat) [Seg.ints IntKind.u8 (1 : Nat) [x], Seg.vals [Value.slice (some (Addr.mk (0 : Nat) (0 : Nat) none)) q c]]), some (Blk.mk true (1 : Nat) [Seg.ints IntKind.u8 len (putB
     bs (fl.getD (i * (2 : Nat)) (0 : Int)).toNat (be (vs.getD i (0 : Int)) (manyI (fl.getD (i * (2 : Nat) + (1 : Nat)) (0 : Int))).toNat))]), some (Blk.mk true (2 : Nat) [Seg.ints IntKind.i64 ((2 : Nat) *
     k) fl])]) :=
  Eq.trans (b :=
     bif decide ((↑i : Int) < (↑k : Int)) then bif decide ((0 : Int) ≤ (↑i : Int)) && decide ((↑i : Int) < (↑k : Int)) then bif ((0 : Nat) + (↑i : Int).toNat * (2 : Nat)).blt ((2 : Nat) * k) then bif ((0 :
     Nat) + (↑i : Int).toNat * (2 : Nat) + (1 : Nat)).blt ((2 : Nat) * k) then bif decide ((0 : Int) ≤ (↑i : Int)) && decide ((↑i : Int) < (↑q : Int)) then bif ((0 : Nat) + (↑i : Int).toNat * (1 :
     Nat)).blt n then bif chk (len = len ∧ (-4 : Int) ≤ fl.getD ((0 : Nat) + (↑i : Int).toNat * (2 : Nat) + (1 : Nat)) (0 : Int) ∧ fl.getD ((0 : Nat) + (↑i : Int).toNat * (2 : Nat) + (1 : Nat)) (0 : Int) ≤
     (4 : Int) ∧ fl.getD ((0 : Nat) + (↑i : Int).toNat * (2 : Nat) + (1 : Nat)) (0 : Int) ≠ (0 : Int) ∧ (0 : Int) ≤ fl.getD ((0 : Nat) + (↑i : Int).toNat * (2 : Nat)) (0 : Int) ∧ fl.getD ((0 : Nat) + (↑i :
     Int).toNat * (2 : Nat)) (0 : Int) + manyI (fl.getD ((0 : Nat) + (↑i : Int).toNat * (2 : Nat) + (1 : Nat)) (0 : Int)) ≤ (↑len : Int) ∧ len ≤ (1000000 : Nat)) then bif !decide (fitI (vs.getD ((0 : Nat)
     + (↑i : Int).toNat * (1 : Nat)) (0 : Int)) (fl.getD ((0 : Nat) + (↑i : Int).toNat * (2 : Nat) + (1 : Nat)) (0 : Int))) then out Exit.ret [Value.pointer (some (Addr.mk (1 : Nat) (0 : Nat) none)),
     Value.slice none (0 : Nat) (0 : Nat), Value.int IntKind.i64 (2 : Int), Value.slice (some (Addr.mk (2 : Nat) (0 : Nat) none)) len (0 : Nat), Value.slice (some (Addr.mk (3 : Nat) (0 : Nat) none)) k (0 :
     Nat), Value.int IntKind.i64 (↑k : Int), Value.int IntKind.i64 (↑i : Int)] [some (Blk.mk false (1 : Nat) [Seg.ints IntKind.i64 n vs]), some (Blk.mk true (2 : Nat) [Seg.ints IntKind.u8 (1 : Nat) [x],
     Seg.vals [Value.slice (some (Addr.mk (0 : Nat) (0 : Nat) none)) q c]]), some (Blk.mk true (1 : Nat) [Seg.ints IntKind.u8 len (putB bs (fl.getD ((0 : Nat) + (↑i : Int).toNat * (2 : Nat)) (0 :
     Int)).toNat (be (vs.getD ((0 : Nat) + (↑i : Int).toNat * (1 : Nat)) (0 : Int)) (manyI (fl.getD ((0 : Nat) + (↑i : Int).toNat * (2 : Nat) + (1 : Nat)) (0 : Int))).toNat))]), some (Blk.mk true (2 : Nat)
     [Seg.ints IntKind.i64 ((2 : Nat) * k) fl])] else none else none else none else none else none else none else none else none) (by kernel_rfl) (by simp only [-eq_self, Int.toNat_natCast, Nat.zero_add, Nat.mul_one]; exact (go_t (dec_t h1) (go_t (and_t (dec_t h2) (dec_t h1)) (go_t (blt_t h3) (go_t (blt_t h4) (go_t (and_t (dec_t h2) (dec_t h5)) (go_t (blt_t h6) (go_t (chk_t h7) (go_t (not_t (dec_f h8)) rfl)))))))))
--CFEND
--CP pPyX (x : Int) (n q c len i k : Nat) (vs bs fl : List Int) (on : List Value → Heap → Out) (out : Exit → List Value → Heap → Out) :: roundK Try.prog (SPayR.on [(38, false)]) noL Try.f27.ntmps 1 (loopOf Try.f27 0) livePayS [pt 1, .slice none 0 0, w63 0, sl 2 len 0, sl 3 k 0, w63 k, w63 i] [rI n vs, rS x (sl 0 q c), oU len bs, oF (2 * k) fl] on out
theorem pPyX (x : Int) (n q c len i k : Nat) (vs bs fl : List Int) (on : List Value → Heap → Out) (out : Exit → List Value → Heap → Out)
    (h1 : ¬(↑i : Int) < (↑k : Int) := by first | omega | assumption | rfl) : roundK Try.prog (SPayR.on [(38, false)]) noL Try.f27.ntmps 1 (loopOf Try.f27 0) livePayS [pt 1, .slice none 0 0, w63 0, sl 2 len 0, sl 3 k 0, w63 k, w63 i] [rI n vs, rS x (sl 0 q c), oU len bs, oF (2 * k) fl] on out =
     (out (Exit.exit (1 : Nat)) [Value.pointer (some (Addr.mk (1 : Nat) (0 : Nat) none)), Value.slice none (0 : Nat) (0 : Nat), Value.int IntKind.i64 (0 : Int), Value.slice (some (Addr.mk (2 : Nat) (0 :
     Nat) none)) len (0 : Nat), Value.slice (some (Addr.mk (3 : Nat) (0 : Nat) none)) k (0 : Nat), Value.int IntKind.i64 (↑k : Int), Value.int IntKind.i64 (↑i : Int)] [some (Blk.mk false (1 : Nat)
     [Seg.ints IntKind.i64 n vs]), some (Blk.mk true (2 : Nat) [Seg.ints IntKind.u8 (1 : Nat) [x], Seg.vals [Value.slice (some (Addr.mk (0 : Nat) (0 : Nat) none)) q c]]), some (Blk.mk true (1 : Nat)
     [Seg.ints IntKind.u8 len bs]), some (Blk.mk true (2 : Nat) [Seg.ints IntKind.i64 ((2 : Nat) * k) fl])]) :=
  Eq.trans (by kernel_rfl) (go_f (dec_f h1) rfl)
--CFEND
def pyOK (k' : Int) (k q n len M : Nat) (fl : List Int) : Prop := k'.toNat = k ∧ 0 < k ∧ k ≤ 100 ∧ q = n ∧ k ≤ q ∧ fl.length = 2 * k ∧ M = 2 * k ∧ fldsOK len fl k ∧ len ≤ 1000000
noncomputable def LPyTf : LF := fun vs h k => match vs, h with
  | [.pointer (some ⟨1, 0, none⟩), .slice none 0 0, .int .i64 0, .slice (some ⟨2, 0, none⟩) len' 0, .slice (some ⟨3, 0, none⟩) q' 0, .int .i64 k', .int .i64 0], [some ⟨false, 1, [.ints .i64 n vl]⟩, some ⟨true, 2, [.ints .u8 1 [x], .vals [.slice (some ⟨0, 0, none⟩) q c]]⟩, some ⟨true, 1, [.ints .u8 len bs]⟩, some ⟨true, 2, [.ints .i64 M fl]⟩] =>
    bif chk (len' = len ∧ pyOK k' q' q n len M fl ∧ fitsTo fl vl q') then
      k (.exit 1) [pt 1, .slice none 0 0, w63 0, sl 2 len 0, sl 3 q' 0, w63 q', w63 q'] [rI n vl, rS x (sl 0 q c), oU len (payB bs fl vl q'), oF M fl] else none
  | _, _ => none
noncomputable def LPyT : LSpec := oneL 9 livePayS LPyTf
noncomputable def endPy (fl vs : List Int) (k : Nat) : Nat := @Classical.epsilon Nat ⟨0⟩ fun i => i < k ∧ ¬ fitI (vs.getD i 0) (fl.getD (i * 2 + 1) 0) ∧ fitsTo fl vs i
noncomputable def LPyFf : LF := fun vs h k => match vs, h with
  | [.pointer (some ⟨1, 0, none⟩), .slice none 0 0, .int .i64 0, .slice (some ⟨2, 0, none⟩) len' 0, .slice (some ⟨3, 0, none⟩) q' 0, .int .i64 k', .int .i64 0], [some ⟨false, 1, [.ints .i64 n vl]⟩, some ⟨true, 2, [.ints .u8 1 [x], .vals [.slice (some ⟨0, 0, none⟩) q c]]⟩, some ⟨true, 1, [.ints .u8 len bs]⟩, some ⟨true, 2, [.ints .i64 M fl]⟩] =>
    bif chk (len' = len ∧ pyOK k' q' q n len M fl ∧ ¬ fitsTo fl vl q') then
      k .ret [pt 1, .slice none 0 0, w63 2, sl 2 len 0, sl 3 q' 0, w63 q', w63 (endPy fl vl q')] [rI n vl, rS x (sl 0 q c), oU len (payB bs fl vl (endPy fl vl q' + 1)), oF M fl] else none
  | _, _ => none
noncomputable def LPyF : LSpec := oneL 9 livePayS LPyFf
noncomputable def SPayS : Spec := mkS [(65, false, FLayS)]
--CF cfPyN (x : Int) (n q c : Nat) (vs : List Int) :: fnK Try.prog (SPayS.on [(16, true)]) noL Try.f27 [.agg #[u8v x, sl 0 q c]] [rI n vs]
theorem cfPyN (x : Int) (n q c : Nat) (vs : List Int) : fnK Try.prog (SPayS.on [(16, true)]) noL Try.f27 [.agg #[u8v x, sl 0 q c]] [rI n vs] =
     (bif x == 2 then none else bif x == 4 then none else bif x == 7 then none else bif x == 41 then none else bif x == 52 then none else bif x == 11 then none else bif x == 12 then none else bif x == 166
     then none else some (Res.ret (Value.tuple (Array.mk [Value.slice none 0 0, Value.int IntKind.i64 7])) [some (Blk.mk false 1 [Seg.ints IntKind.i64 n vs])])) := by kernel_rfl
--CFEND
--CF cfPyC (x : Int) (n q c : Nat) (vs : List Int) :: fnK Try.prog (SPayS.on [(16, false), (19, true)]) noL Try.f27 [.agg #[u8v x, sl 0 q c]] [rI n vs]
theorem cfPyC (x : Int) (n q c : Nat) (vs : List Int) : fnK Try.prog (SPayS.on [(16, false), (19, true)]) noL Try.f27 [.agg #[u8v x, sl 0 q c]] [rI n vs] =
     (bif x == 2 then bif (↑q : Int) != 12 then some (Res.ret (Value.tuple (Array.mk [Value.slice none 0 0, Value.int IntKind.i64 2])) [some (Blk.mk false 1 [Seg.ints IntKind.i64 n vs])]) else none else
     bif x == 4 then bif (↑q : Int) != 3 then some (Res.ret (Value.tuple (Array.mk [Value.slice none 0 0, Value.int IntKind.i64 2])) [some (Blk.mk false 1 [Seg.ints IntKind.i64 n vs])]) else none else bif
     x == 7 then bif (↑q : Int) != 6 then some (Res.ret (Value.tuple (Array.mk [Value.slice none 0 0, Value.int IntKind.i64 2])) [some (Blk.mk false 1 [Seg.ints IntKind.i64 n vs])]) else none else bif x ==
     41 then bif (↑q : Int) != 10 then some (Res.ret (Value.tuple (Array.mk [Value.slice none 0 0, Value.int IntKind.i64 2])) [some (Blk.mk false 1 [Seg.ints IntKind.i64 n vs])]) else none else bif x == 52
     then bif (↑q : Int) != 9 then some (Res.ret (Value.tuple (Array.mk [Value.slice none 0 0, Value.int IntKind.i64 2])) [some (Blk.mk false 1 [Seg.ints IntKind.i64 n vs])]) else none else bif x == 11
     then bif (↑q : Int) != 1 then some (Res.ret (Value.tuple (Array.mk [Value.slice none 0 0, Value.int IntKind.i64 2])) [some (Blk.mk false 1 [Seg.ints IntKind.i64 n vs])]) else none else bif x == 12
     then bif (↑q : Int) != 1 then some (Res.ret (Value.tuple (Array.mk [Value.slice none 0 0, Value.int IntKind.i64 2])) [some (Blk.mk false 1 [Seg.ints IntKind.i64 n vs])]) else none else bif x == 166
     then bif (↑q : Int) != 3 then some (Res.ret (Value.tuple (Array.mk [Value.slice none 0 0, Value.int IntKind.i64 2])) [some (Blk.mk false 1 [Seg.ints IntKind.i64 n vs])]) else none else none) := by kernel_rfl
--CFEND
--CF cfPyT (x : Int) (n q c : Nat) (vs : List Int) :: fnK Try.prog (SPayS.on [(16, false), (19, false)]) LPyT Try.f27 [.agg #[u8v x, sl 0 q c]] [rI n vs]
theorem cfPyT (x : Int) (n q c : Nat) (vs : List Int) : fnK Try.prog (SPayS.on [(16, false), (19, false)]) LPyT Try.f27 [.agg #[u8v x, sl 0 q c]] [rI n vs] =
     (bif x == 2 then bif (↑q : Int) != 12 then none else bif chk (41 = 41 ∧ pyOK 12 12 q n 41 24 [1, -4, 5, -4, 9, -4, 13, -2, 15, -2, 17, -2, 19, 1, 20, 1, 21, 1, 22, 2, 24, 4, 28, 1] ∧ fitsTo [1, -4, 5,
     -4, 9, -4, 13, -2, 15, -2, 17, -2, 19, 1, 20, 1, 21, 1, 22, 2, 24, 4, 28, 1] vs 12) then some (Res.ret (Value.tuple (Array.mk [Value.slice (some (Addr.mk 1 0 none)) 41 0, Value.int IntKind.i64 0]))
     [some (Blk.mk false 1 [Seg.ints IntKind.i64 n vs]), some (Blk.mk true 1 [Seg.ints IntKind.u8 41 (payB ((List.replicate 41 0).set 0 x) [1, -4, 5, -4, 9, -4, 13, -2, 15, -2, 17, -2, 19, 1, 20, 1, 21, 1,
     22, 2, 24, 4, 28, 1] vs 12)])]) else none else bif x == 4 then bif (↑q : Int) != 3 then none else bif chk (188 = 188 ∧ pyOK 3 3 q n 188 6 [1, -2, 3, 4, 7, 1] ∧ fitsTo [1, -2, 3, 4, 7, 1] vs 3) then
     some (Res.ret (Value.tuple (Array.mk [Value.slice (some (Addr.mk 1 0 none)) 188 0, Value.int IntKind.i64 0])) [some (Blk.mk false 1 [Seg.ints IntKind.i64 n vs]), some (Blk.mk true 1 [Seg.ints
     IntKind.u8 188 (payB ((List.replicate 188 0).set 0 x) [1, -2, 3, 4, 7, 1] vs 3)])]) else none else bif x == 7 then bif (↑q : Int) != 6 then none else bif chk (20 = 20 ∧ pyOK 6 6 q n 20 12 [1, 2, 3, 4,
     7, 1, 8, 4, 12, 4, 16, 4] ∧ fitsTo [1, 2, 3, 4, 7, 1, 8, 4, 12, 4, 16, 4] vs 6) then some (Res.ret (Value.tuple (Array.mk [Value.slice (some (Addr.mk 1 0 none)) 20 0, Value.int IntKind.i64 0])) [some
     (Blk.mk false 1 [Seg.ints IntKind.i64 n vs]), some (Blk.mk true 1 [Seg.ints IntKind.u8 20 (payB ((List.replicate 20 0).set 0 x) [1, 2, 3, 4, 7, 1, 8, 4, 12, 4, 16, 4] vs 6)])]) else none else bif x ==
     41 then bif (↑q : Int) != 10 then none else bif chk (91 = 91 ∧ pyOK 10 10 q n 91 20 [1, 2, 3, 2, 5, 2, 7, 4, 11, 2, 13, 1, 14, 1, 15, 1, 16, 1, 17, 2] ∧ fitsTo [1, 2, 3, 2, 5, 2, 7, 4, 11, 2, 13, 1,
     14, 1, 15, 1, 16, 1, 17, 2] vs 10) then some (Res.ret (Value.tuple (Array.mk [Value.slice (some (Addr.mk 1 0 none)) 91 0, Value.int IntKind.i64 0])) [some (Blk.mk false 1 [Seg.ints IntKind.i64 n vs]),
     some (Blk.mk true 1 [Seg.ints IntKind.u8 91 (payB ((List.replicate 91 0).set 0 x) [1, 2, 3, 2, 5, 2, 7, 4, 11, 2, 13, 1, 14, 1, 15, 1, 16, 1, 17, 2] vs 10)])]) else none else bif x == 52 then bif (↑q
     : Int) != 9 then none else bif chk (19 = 19 ∧ pyOK 9 9 q n 19 18 [1, 1, 2, 1, 3, 1, 4, 1, 5, 1, 6, 2, 8, -2, 10, 4, 14, 1] ∧ fitsTo [1, 1, 2, 1, 3, 1, 4, 1, 5, 1, 6, 2, 8, -2, 10, 4, 14, 1] vs 9) then
     some (Res.ret (Value.tuple (Array.mk [Value.slice (some (Addr.mk 1 0 none)) 19 0, Value.int IntKind.i64 0])) [some (Blk.mk false 1 [Seg.ints IntKind.i64 n vs]), some (Blk.mk true 1 [Seg.ints
     IntKind.u8 19 (payB ((List.replicate 19 0).set 0 x) [1, 1, 2, 1, 3, 1, 4, 1, 5, 1, 6, 2, 8, -2, 10, 4, 14, 1] vs 9)])]) else none else bif x == 11 then bif (↑q : Int) != 1 then none else bif chk (2 =
     2 ∧ pyOK 1 1 q n 2 2 [1, 1] ∧ fitsTo [1, 1] vs 1) then some (Res.ret (Value.tuple (Array.mk [Value.slice (some (Addr.mk 1 0 none)) 2 0, Value.int IntKind.i64 0])) [some (Blk.mk false 1 [Seg.ints
     IntKind.i64 n vs]), some (Blk.mk true 1 [Seg.ints IntKind.u8 2 (payB ((List.replicate 2 0).set 0 x) [1, 1] vs 1)])]) else none else bif x == 12 then bif (↑q : Int) != 1 then none else bif chk (2 = 2 ∧
     pyOK 1 1 q n 2 2 [1, 1] ∧ fitsTo [1, 1] vs 1) then some (Res.ret (Value.tuple (Array.mk [Value.slice (some (Addr.mk 1 0 none)) 2 0, Value.int IntKind.i64 0])) [some (Blk.mk false 1 [Seg.ints
     IntKind.i64 n vs]), some (Blk.mk true 1 [Seg.ints IntKind.u8 2 (payB ((List.replicate 2 0).set 0 x) [1, 1] vs 1)])]) else none else bif x == 166 then bif (↑q : Int) != 3 then none else bif chk (8 = 8
     ∧ pyOK 3 3 q n 8 6 [1, 1, 2, 1, 3, 1] ∧ fitsTo [1, 1, 2, 1, 3, 1] vs 3) then some (Res.ret (Value.tuple (Array.mk [Value.slice (some (Addr.mk 1 0 none)) 8 0, Value.int IntKind.i64 0])) [some (Blk.mk
     false 1 [Seg.ints IntKind.i64 n vs]), some (Blk.mk true 1 [Seg.ints IntKind.u8 8 (payB ((List.replicate 8 0).set 0 x) [1, 1, 2, 1, 3, 1] vs 3)])]) else none else none) := by kernel_rfl
--CFEND
--CF cfPyF (x : Int) (n q c : Nat) (vs : List Int) :: fnK Try.prog (SPayS.on [(16, false), (19, false)]) LPyF Try.f27 [.agg #[u8v x, sl 0 q c]] [rI n vs]
theorem cfPyF (x : Int) (n q c : Nat) (vs : List Int) : fnK Try.prog (SPayS.on [(16, false), (19, false)]) LPyF Try.f27 [.agg #[u8v x, sl 0 q c]] [rI n vs] =
     (bif x == 2 then bif (↑q : Int) != 12 then none else bif chk (41 = 41 ∧ pyOK 12 12 q n 41 24 [1, -4, 5, -4, 9, -4, 13, -2, 15, -2, 17, -2, 19, 1, 20, 1, 21, 1, 22, 2, 24, 4, 28, 1] ∧ ¬fitsTo [1, -4,
     5, -4, 9, -4, 13, -2, 15, -2, 17, -2, 19, 1, 20, 1, 21, 1, 22, 2, 24, 4, 28, 1] vs 12) then some (Res.ret (Value.tuple (Array.mk [Value.slice none 0 0, Value.int IntKind.i64 2])) [some (Blk.mk false 1
     [Seg.ints IntKind.i64 n vs])]) else none else bif x == 4 then bif (↑q : Int) != 3 then none else bif chk (188 = 188 ∧ pyOK 3 3 q n 188 6 [1, -2, 3, 4, 7, 1] ∧ ¬fitsTo [1, -2, 3, 4, 7, 1] vs 3) then
     some (Res.ret (Value.tuple (Array.mk [Value.slice none 0 0, Value.int IntKind.i64 2])) [some (Blk.mk false 1 [Seg.ints IntKind.i64 n vs])]) else none else bif x == 7 then bif (↑q : Int) != 6 then none
     else bif chk (20 = 20 ∧ pyOK 6 6 q n 20 12 [1, 2, 3, 4, 7, 1, 8, 4, 12, 4, 16, 4] ∧ ¬fitsTo [1, 2, 3, 4, 7, 1, 8, 4, 12, 4, 16, 4] vs 6) then some (Res.ret (Value.tuple (Array.mk [Value.slice none 0
     0, Value.int IntKind.i64 2])) [some (Blk.mk false 1 [Seg.ints IntKind.i64 n vs])]) else none else bif x == 41 then bif (↑q : Int) != 10 then none else bif chk (91 = 91 ∧ pyOK 10 10 q n 91 20 [1, 2, 3,
     2, 5, 2, 7, 4, 11, 2, 13, 1, 14, 1, 15, 1, 16, 1, 17, 2] ∧ ¬fitsTo [1, 2, 3, 2, 5, 2, 7, 4, 11, 2, 13, 1, 14, 1, 15, 1, 16, 1, 17, 2] vs 10) then some (Res.ret (Value.tuple (Array.mk [Value.slice none
     0 0, Value.int IntKind.i64 2])) [some (Blk.mk false 1 [Seg.ints IntKind.i64 n vs])]) else none else bif x == 52 then bif (↑q : Int) != 9 then none else bif chk (19 = 19 ∧ pyOK 9 9 q n 19 18 [1, 1, 2,
     1, 3, 1, 4, 1, 5, 1, 6, 2, 8, -2, 10, 4, 14, 1] ∧ ¬fitsTo [1, 1, 2, 1, 3, 1, 4, 1, 5, 1, 6, 2, 8, -2, 10, 4, 14, 1] vs 9) then some (Res.ret (Value.tuple (Array.mk [Value.slice none 0 0, Value.int
     IntKind.i64 2])) [some (Blk.mk false 1 [Seg.ints IntKind.i64 n vs])]) else none else bif x == 11 then bif (↑q : Int) != 1 then none else bif chk (2 = 2 ∧ pyOK 1 1 q n 2 2 [1, 1] ∧ ¬fitsTo [1, 1] vs 1)
     then some (Res.ret (Value.tuple (Array.mk [Value.slice none 0 0, Value.int IntKind.i64 2])) [some (Blk.mk false 1 [Seg.ints IntKind.i64 n vs])]) else none else bif x == 12 then bif (↑q : Int) != 1
     then none else bif chk (2 = 2 ∧ pyOK 1 1 q n 2 2 [1, 1] ∧ ¬fitsTo [1, 1] vs 1) then some (Res.ret (Value.tuple (Array.mk [Value.slice none 0 0, Value.int IntKind.i64 2])) [some (Blk.mk false 1
     [Seg.ints IntKind.i64 n vs])]) else none else bif x == 166 then bif (↑q : Int) != 3 then none else bif chk (8 = 8 ∧ pyOK 3 3 q n 8 6 [1, 1, 2, 1, 3, 1] ∧ ¬fitsTo [1, 1, 2, 1, 3, 1] vs 3) then some
     (Res.ret (Value.tuple (Array.mk [Value.slice none 0 0, Value.int IntKind.i64 2])) [some (Blk.mk false 1 [Seg.ints IntKind.i64 n vs])]) else none else none) := by kernel_rfl
--CFEND
end Go.Proofs.Yticdglfbgocgmaa.VC
