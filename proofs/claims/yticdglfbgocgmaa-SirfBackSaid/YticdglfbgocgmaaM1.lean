/- sirf: layouts, many, get: closed forms. -/
import Derived.Test.YticdglfbgocgmaaBV
namespace Go.Proofs.Yticdglfbgocgmaa.VC
open Go Go.Proofs

abbrev rF (n : Nat) (xs : List Int) : Option Blk := some ⟨false, 2, [.ints .i64 n xs]⟩
abbrev oF (n : Nat) (xs : List Int) : Option Blk := some ⟨true, 2, [.ints .i64 n xs]⟩
def FOfS : FSpec := fun args h k => match args, h with
  | [.int .i64 n, .slice (some ⟨0, 0, none⟩) m c], [some ⟨false, 2, [.ints .i64 N xs]⟩] => k (.agg #[w63 n, sl 0 m c]) [rF N xs]
  | _, _ => none
--CF cfOfS (n : Int) (m c N : Nat) (xs : List Int) :: fnK Try.prog (mkS []) noL Try.f99 [w63 n, sl 0 m c] [rF N xs]
theorem cfOfS (n : Int) (m c N : Nat) (xs : List Int) : fnK Try.prog (mkS []) noL Try.f99 [w63 n, sl 0 m c] [rF N xs] =
     (some (Res.ret (Value.agg (Array.mk [Value.int IntKind.i64 n, Value.slice (some (Addr.mk 0 0 none)) m c])) [some (Blk.mk false 2 [Seg.ints IntKind.i64 N xs])])) := by kernel_rfl
--CFEND
def SOfS : Spec := mkS [(99, false, FOfS)]
--CF cfLayS . :: fnK Try.prog SOfS noL Try.f65 [] []
theorem cfLayS  : fnK Try.prog SOfS noL Try.f65 [] [] =
     (some (Res.ret (Value.map (some 0)) [some (Blk.mk true 0 [Seg.mp [(Value.int IntKind.u8 2, Value.agg (Array.mk [Value.int IntKind.i64 41, Value.slice (some (Addr.mk 1 0 none)) 12 0])), (Value.int
     IntKind.u8 4, Value.agg (Array.mk [Value.int IntKind.i64 188, Value.slice (some (Addr.mk 2 0 none)) 3 0])), (Value.int IntKind.u8 7, Value.agg (Array.mk [Value.int IntKind.i64 20, Value.slice (some
     (Addr.mk 3 0 none)) 6 0])), (Value.int IntKind.u8 41, Value.agg (Array.mk [Value.int IntKind.i64 91, Value.slice (some (Addr.mk 4 0 none)) 10 0])), (Value.int IntKind.u8 52, Value.agg (Array.mk
     [Value.int IntKind.i64 19, Value.slice (some (Addr.mk 5 0 none)) 9 0])), (Value.int IntKind.u8 11, Value.agg (Array.mk [Value.int IntKind.i64 2, Value.slice (some (Addr.mk 6 0 none)) 1 0])),
     (Value.int IntKind.u8 12, Value.agg (Array.mk [Value.int IntKind.i64 2, Value.slice (some (Addr.mk 7 0 none)) 1 0])), (Value.int IntKind.u8 166, Value.agg (Array.mk [Value.int IntKind.i64 8,
     Value.slice (some (Addr.mk 8 0 none)) 3 0]))]]), some (Blk.mk true 2 [Seg.ints IntKind.i64 24 [1, -4, 5, -4, 9, -4, 13, -2, 15, -2, 17, -2, 19, 1, 20, 1, 21, 1, 22, 2, 24, 4, 28, 1]]), some (Blk.mk
     true 2 [Seg.ints IntKind.i64 6 [1, -2, 3, 4, 7, 1]]), some (Blk.mk true 2 [Seg.ints IntKind.i64 12 [1, 2, 3, 4, 7, 1, 8, 4, 12, 4, 16, 4]]), some (Blk.mk true 2 [Seg.ints IntKind.i64 20 [1, 2, 3, 2,
     5, 2, 7, 4, 11, 2, 13, 1, 14, 1, 15, 1, 16, 1, 17, 2]]), some (Blk.mk true 2 [Seg.ints IntKind.i64 18 [1, 1, 2, 1, 3, 1, 4, 1, 5, 1, 6, 2, 8, -2, 10, 4, 14, 1]]), some (Blk.mk true 2 [Seg.ints
     IntKind.i64 2 [1, 1]]), some (Blk.mk true 2 [Seg.ints IntKind.i64 2 [1, 1]]), some (Blk.mk true 2 [Seg.ints IntKind.i64 6 [1, 1, 2, 1, 3, 1]])])) := by kernel_rfl
--CFEND
--CF cfMany (a s : Int) :: fnK Try.prog (mkS []) noL Try.f100 [.agg #[w63 a, w63 s]] []
theorem cfMany (a s : Int) : fnK Try.prog (mkS []) noL Try.f100 [.agg #[w63 a, w63 s]] [] =
     (some (Res.ret (Value.int IntKind.i64 (if IntKind.i64.wrap (0 - s) > s then IntKind.i64.wrap (0 - s) else s)) [])) := by kernel_rfl
--CFEND
/-- How many bytes a field has. -/
def manyI (s : Int) : Int := if 0 - s > s then 0 - s else s
noncomputable def FManyS : FSpec := fun args h k => match args, h with
  | [.agg ⟨[.int .i64 _, .int .i64 s]⟩], [] => bif chk (-8 ≤ s ∧ s ≤ 8) then k (w63 (manyI s)) [] else none
  | _, _ => none
noncomputable def SManyS : Spec := mkS [(100, false, FManyS)]
def liveGetS : List Nat := [1, 2, 4, 5, 9, 10]
--CP pGetS (v a s m : Int) (o n c i N : Nat) (xs : List Int) (on : List Value → Heap → Out) (out : Exit → List Value → Heap → Out) :: roundK Try.prog (SManyS.on [(11, true)]) noL Try.f66.ntmps 1 (loopOf Try.f66 0) liveGetS [slo 0 o n c, pt 1, w63 0, u64v v, w63 m, w63 i] [rU N xs, oF 2 [a, s]] on out
theorem pGetS (v a s m : Int) (o n c i N : Nat) (xs : List Int) (on : List Value → Heap → Out) (out : Exit → List Value → Heap → Out)
    (w1 : -9223372036854775808 ≤ a + (↑i : Int) ∧ a + (↑i : Int) ≤ 9223372036854775807 := by omega)
    (w2 : -9223372036854775808 ≤ (↑i : Int) + (1 : Int) ∧ (↑i : Int) + (1 : Int) ≤ 9223372036854775807 := by omega)
    (h1 : (↑i : Int) < m := by first | omega | assumption | rfl)
    (h2 : (0 : Int) ≤ a + (↑i : Int) := by first | omega | assumption | rfl)
    (h3 : a + (↑i : Int) < (↑n : Int) := by first | omega | assumption | rfl)
    (h4 : o + (a + (↑i : Int)).toNat < N := by first | omega | assumption | rfl) : roundK Try.prog (SManyS.on [(11, true)]) noL Try.f66.ntmps 1 (loopOf Try.f66 0) liveGetS [slo 0 o n c, pt 1, w63 0, u64v v, w63 m, w63 i] [rU N xs, oF 2 [a, s]] on out =
     (on [Value.slice (some (Addr.mk (0 : Nat) o none)) n c, Value.pointer (some (Addr.mk (1 : Nat) (0 : Nat) none)), Value.int IntKind.i64 (0 : Int), Value.int IntKind.u64 (bits BinOp.or IntKind.u64
     (IntKind.u64.wrap (v * (256 : Int))) (IntKind.u64.wrap (xs.getD (o + (a + (↑i : Int)).toNat) (0 : Int)))), Value.int IntKind.i64 m, Value.int IntKind.i64 ((↑i : Int) + (1 : Int))] [some (Blk.mk false
     (1 : Nat) [Seg.ints IntKind.u8 N xs]), some (Blk.mk true (2 : Nat) [Seg.ints IntKind.i64 (2 : Nat) [a, s]])]) :=
  Eq.trans (b :=
     bif decide ((↑i : Int) < m) then bif decide ((0 : Int) ≤ IntKind.i64.wrap (a + (↑i : Int))) && decide (IntKind.i64.wrap (a + (↑i : Int)) < (↑n : Int)) then bif (o + (IntKind.i64.wrap (a + (↑i :
     Int))).toNat * (1 : Nat)).blt N then on [Value.slice (some (Addr.mk (0 : Nat) o none)) n c, Value.pointer (some (Addr.mk (1 : Nat) (0 : Nat) none)), Value.int IntKind.i64 (0 : Int), Value.int
     IntKind.u64 (bits BinOp.or IntKind.u64 (IntKind.u64.wrap (v * (256 : Int))) (IntKind.u64.wrap (xs.getD (o + (IntKind.i64.wrap (a + (↑i : Int))).toNat * (1 : Nat)) (0 : Int)))), Value.int IntKind.i64
     m, Value.int IntKind.i64 (IntKind.i64.wrap ((↑i : Int) + (1 : Int)))] [some (Blk.mk false (1 : Nat) [Seg.ints IntKind.u8 N xs]), some (Blk.mk true (2 : Nat) [Seg.ints IntKind.i64 (2 : Nat) [a, s]])]
     else none else none else none) (by kernel_rfl) (by simp only [-eq_self, Nat.mul_one, swrap w1.1 w1.2, swrap w2.1 w2.2]; exact (go_t (dec_t h1) (go_t (and_t (dec_t h2) (dec_t h3)) (go_t (blt_t h4) rfl))))
--CFEND
--CP pGetSX (v a s m i : Int) (o n c N : Nat) (xs : List Int) (on : List Value → Heap → Out) (out : Exit → List Value → Heap → Out) :: roundK Try.prog (SManyS.on [(11, false)]) noL Try.f66.ntmps 1 (loopOf Try.f66 0) liveGetS [slo 0 o n c, pt 1, w63 0, u64v v, w63 m, w63 i] [rU N xs, oF 2 [a, s]] on out
theorem pGetSX (v a s m i : Int) (o n c N : Nat) (xs : List Int) (on : List Value → Heap → Out) (out : Exit → List Value → Heap → Out)
    (h1 : ¬i < m := by first | omega | assumption | rfl) : roundK Try.prog (SManyS.on [(11, false)]) noL Try.f66.ntmps 1 (loopOf Try.f66 0) liveGetS [slo 0 o n c, pt 1, w63 0, u64v v, w63 m, w63 i] [rU N xs, oF 2 [a, s]] on out =
     (out (Exit.exit (0 : Nat)) [Value.slice (some (Addr.mk (0 : Nat) o none)) n c, Value.pointer (some (Addr.mk (1 : Nat) (0 : Nat) none)), Value.int IntKind.i64 (0 : Int), Value.int IntKind.u64 v,
     Value.int IntKind.i64 m, Value.int IntKind.i64 i] [some (Blk.mk false (1 : Nat) [Seg.ints IntKind.u8 N xs]), some (Blk.mk true (2 : Nat) [Seg.ints IntKind.i64 (2 : Nat) [a, s]])]) :=
  Eq.trans (by kernel_rfl) (go_f (dec_f h1) rfl)
--CFEND
/-- The bytes of a field. -/
def fldB (xs : List Int) (o : Nat) (a m : Int) : List Int := (xs.drop (o + a.toNat)).take m.toNat
noncomputable def LGetSf : LF := fun vs h k => match vs, h with
  | [.slice (some ⟨0, o, none⟩) n c, .pointer (some ⟨1, 0, none⟩), .int .i64 0, .int .u64 0, .int .i64 m, .int .i64 0], [some ⟨false, 1, [.ints .u8 N xs]⟩, some ⟨true, 2, [.ints .i64 2 [a, s]]⟩] =>
    bif chk (0 ≤ a ∧ 0 ≤ m ∧ m ≤ 4 ∧ a + m ≤ n ∧ o + n ≤ N ∧ N ≤ 1000000) then k (.exit 0) [slo 0 o n c, pt 1, w63 0, u64v (valB (fldB xs o a m)), w63 m, w63 m] [rU N xs, oF 2 [a, s]] else none
  | _, _ => none
noncomputable def LGetS : LSpec := oneL 3 liveGetS LGetSf
--CF cfGetSF1 (a s : Int) (o n c N : Nat) (xs : List Int) :: fnK Try.prog (SManyS.on [(32, true)]) LGetS Try.f66 [.agg #[w63 a, w63 s], slo 0 o n c] [rU N xs]
theorem cfGetSF1 (a s : Int) (o n c N : Nat) (xs : List Int) : fnK Try.prog (SManyS.on [(32, true)]) LGetS Try.f66 [.agg #[w63 a, w63 s], slo 0 o n c] [rU N xs] =
     (bif chk (-8 ≤ s ∧ s ≤ 8) then bif chk (0 ≤ a ∧ 0 ≤ manyI s ∧ manyI s ≤ 4 ∧ a + manyI s ≤ (↑n : Int) ∧ o + n ≤ N ∧ N ≤ 1000000) then bif chk (-8 ≤ s ∧ s ≤ 8) then bif decide (s < 0) then bif decide
     (IntKind.u64.wrap (IntKind.i64.wrap (64 - IntKind.i64.wrap (8 * manyI s))) < 0) then none else bif decide (IntKind.u64.wrap (IntKind.i64.wrap (64 - IntKind.i64.wrap (8 * manyI s))) < 0) then none else
     some (Res.ret (Value.int IntKind.i64 ((IntKind.i64.wrap (IntKind.u64.wrap (valB (fldB xs o a (manyI s)) * 2 ^ min (IntKind.u64.wrap (IntKind.i64.wrap (64 - IntKind.i64.wrap (8 * manyI s)))).toNat
     64))).fdiv (2 ^ min (IntKind.u64.wrap (IntKind.i64.wrap (64 - IntKind.i64.wrap (8 * manyI s)))).toNat 64))) [some (Blk.mk false 1 [Seg.ints IntKind.u8 N xs])]) else none else none else none else none) := by kernel_rfl
--CFEND
--CP pGetSF0 (a s : Int) (o n c N : Nat) (xs : List Int) :: fnK Try.prog (SManyS.on [(32, false)]) LGetS Try.f66 [.agg #[w63 a, w63 s], slo 0 o n c] [rU N xs]
theorem pGetSF0 (a s : Int) (o n c N : Nat) (xs : List Int)
    (w1 : -9223372036854775808 ≤ valB (fldB xs o a (manyI s)) ∧ valB (fldB xs o a (manyI s)) ≤ 9223372036854775807 := by omega)
    (h1 : (-8 : Int) ≤ s ∧ s ≤ (8 : Int) := by first | omega | assumption | rfl | ((repeat' with_reducible apply And.intro) <;> first | rfl | assumption | omega))
    (h2 : (0 : Int) ≤ a ∧ (0 : Int) ≤ manyI s ∧ manyI s ≤ (4 : Int) ∧ a + manyI s ≤ (↑n : Int) ∧ o + n ≤ N ∧ N ≤ (1000000 : Nat) := by first | omega | assumption | rfl | ((repeat' with_reducible apply And.intro) <;> first | rfl | assumption | omega))
    (h3 : ¬s < (0 : Int) := by first | omega | assumption | rfl) : fnK Try.prog (SManyS.on [(32, false)]) LGetS Try.f66 [.agg #[w63 a, w63 s], slo 0 o n c] [rU N xs] =
     (some (Res.ret (Value.int IntKind.i64 (valB (fldB xs o a (manyI s)))) [some (Blk.mk false (1 : Nat) [Seg.ints IntKind.u8 N xs])])) :=
  Eq.trans (b :=
     bif chk ((-8 : Int) ≤ s ∧ s ≤ (8 : Int)) then bif chk ((0 : Int) ≤ a ∧ (0 : Int) ≤ manyI s ∧ manyI s ≤ (4 : Int) ∧ a + manyI s ≤ (↑n : Int) ∧ o + n ≤ N ∧ N ≤ (1000000 : Nat)) then bif chk ((-8 : Int)
     ≤ s ∧ s ≤ (8 : Int)) then bif decide (s < (0 : Int)) then none else some (Res.ret (Value.int IntKind.i64 (IntKind.i64.wrap (valB (fldB xs o a (manyI s))))) [some (Blk.mk false (1 : Nat) [Seg.ints
     IntKind.u8 N xs])]) else none else none else none) (by kernel_rfl) (by simp only [-eq_self, swrap w1.1 w1.2]; exact (go_t (chk_t h1) (go_t (chk_t h2) (go_t (chk_t h1) (go_f (dec_f h3) rfl)))))
--CFEND
end Go.Proofs.Yticdglfbgocgmaa.VC
