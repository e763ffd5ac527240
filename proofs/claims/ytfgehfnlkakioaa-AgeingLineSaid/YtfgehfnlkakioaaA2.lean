/- ageing: Add and Rate of books with points on a line; AgeingLine. -/
import Derived.Test.YtfgehfnlkakioaaA1
import Derived.Test.YtfgehfnlkakioaaOX
import Derived.Test.YtfgehfnlkakioaaVX4
namespace Go.Proofs.Ytfgehfnlkakioaa.VC
open Go Go.Proofs

def flatP : List (Int × Int) → List Int
  | [] => []
  | p :: r => p.1 :: p.2 :: flatP r
/-- A book's cells. -/
def book (pts : List (Int × Int)) : List Int := 2147484 :: (pts.length : Int) :: (flatP pts ++ List.replicate (16 - 2 * pts.length) 0)
def pairsN : Nat → List Int → List (Int × Int)
  | 0, _ => []
  | _ + 1, [] => []
  | _ + 1, [_] => []
  | n + 1, c :: f :: r => (c, f) :: pairsN n r
def pointsX (xs : List Int) : List (Int × Int) := pairsN (xs.getD 1 0).toNat (xs.drop 2)
def pushP (pts : List (Int × Int)) (p : Int × Int) : List (Int × Int) := if pts.length = 8 then pts.tail ++ [p] else pts ++ [p]
def lineP (slope shift base : Int) (ats : List Int) : List (Int × Int) := ats.map fun a => (base + a * 1000000000, slope * a + shift)
/-- Seconds behind the first point. -/
def secs (pts : List (Int × Int)) : List Int := pts.map fun p => (p.1 - (pts.getD 0 (0, 0)).1) / 1000000000
def s1 : List Int → Int
  | [] => 0
  | x :: r => x + s1 r
def s2 : List Int → Int
  | [] => 0
  | x :: r => x * x + s2 r
def sumX (xs : List Int) : Int := s1 (secs (pointsX xs))
def sumXX (xs : List Int) : Int := s2 (secs (pointsX xs))
def slopeX (xs : List Int) : Int := (((pointsX xs).getD 1 (0, 0)).2 - ((pointsX xs).getD 0 (0, 0)).2) / ((((pointsX xs).getD 1 (0, 0)).1 - ((pointsX xs).getD 0 (0, 0)).1) / 1000000000)
def risingL : List Int → Prop
  | [] => True
  | [_] => True
  | a :: b :: r => a < b ∧ risingL (b :: r)
/-- Points on a line, three at least. -/
def lineOK (xs : List Int) : Prop := ∃ slope shift base ats, xs = book (lineP slope shift base ats) ∧ 3 ≤ ats.length ∧ ats.length ≤ 8 ∧ risingL ats ∧ (∀ a ∈ ats, 1 ≤ a ∧ a ≤ 48000) ∧ -9 ≤ slope ∧ slope ≤ 9 ∧ -1000 ≤ shift ∧ shift ≤ 1000 ∧ 0 ≤ base ∧ base ≤ 1152921504606846976
def F108g : FSpec := fun args h k => match args, h with
  | [.pointer (some ⟨0, 0, none⟩)], [some ⟨false, 18, [.ints .i64 18 xs]⟩] => k (.bool (xs.getD 0 0 == 0)) [bB false xs]
  | _, _ => none
--CF cf108g (xs : List Int) :: fnK Try.prog (mkS []) noL Try.f108 [pt 0] [bB false xs]
theorem cf108g (xs : List Int) : fnK Try.prog (mkS []) noL Try.f108 [pt 0] [bB false xs] =
     (some (Res.ret (Value.bool (xs.getD 0 0 == 0)) [some (Blk.mk false 18 [Seg.ints IntKind.i64 18 xs])])) := by kernel_rfl
--CFEND
def S67g : Spec := mkS [(108, false, F108g)]
--CF cf67_0 (c f : Int) :: fnK Try.prog S67g noL Try.f67 [pt 0, w63 c, w63 f] [bB true [2147484, 0, 0, 0, 0, 0, 0, 0, 0, 0, 0, 0, 0, 0, 0, 0, 0, 0]]
theorem cf67_0 (c f : Int) : fnK Try.prog S67g noL Try.f67 [pt 0, w63 c, w63 f] [bB true [2147484, 0, 0, 0, 0, 0, 0, 0, 0, 0, 0, 0, 0, 0, 0, 0, 0, 0]] =
     (bif decide (f < -2147484) then some (Res.ret (Value.int IntKind.i64 2) [some (Blk.mk true 18 [Seg.ints IntKind.i64 18 [2147484, 0, 0, 0, 0, 0, 0, 0, 0, 0, 0, 0, 0, 0, 0, 0, 0, 0]])]) else bif decide
     (f > 2147484) then some (Res.ret (Value.int IntKind.i64 2) [some (Blk.mk true 18 [Seg.ints IntKind.i64 18 [2147484, 0, 0, 0, 0, 0, 0, 0, 0, 0, 0, 0, 0, 0, 0, 0, 0, 0]])]) else some (Res.ret (Value.int
     IntKind.i64 0) [some (Blk.mk true 18 [Seg.ints IntKind.i64 18 [2147484, IntKind.i64.wrap (0 + 1), c, f, 0, 0, 0, 0, 0, 0, 0, 0, 0, 0, 0, 0, 0, 0]])])) := by kernel_rfl
--CFEND
--CF cf67_1 (c0 f0 c f : Int) :: fnK Try.prog S67g noL Try.f67 [pt 0, w63 c, w63 f] [bB true [2147484, 1, c0, f0, 0, 0, 0, 0, 0, 0, 0, 0, 0, 0, 0, 0, 0, 0]]
theorem cf67_1 (c0 f0 c f : Int) : fnK Try.prog S67g noL Try.f67 [pt 0, w63 c, w63 f] [bB true [2147484, 1, c0, f0, 0, 0, 0, 0, 0, 0, 0, 0, 0, 0, 0, 0, 0, 0]] =
     (bif decide (f < IntKind.i64.wrap (0 - 2147484)) then some (Res.ret (Value.int IntKind.i64 2) [some (Blk.mk true 18 [Seg.ints IntKind.i64 18 [2147484, 1, c0, f0, 0, 0, 0, 0, 0, 0, 0, 0, 0, 0, 0, 0, 0,
     0]])]) else bif decide (f > 2147484) then some (Res.ret (Value.int IntKind.i64 2) [some (Blk.mk true 18 [Seg.ints IntKind.i64 18 [2147484, 1, c0, f0, 0, 0, 0, 0, 0, 0, 0, 0, 0, 0, 0, 0, 0, 0]])]) else
     bif decide (c ≤ c0) then some (Res.ret (Value.int IntKind.i64 10) [some (Blk.mk true 18 [Seg.ints IntKind.i64 18 [2147484, 1, c0, f0, 0, 0, 0, 0, 0, 0, 0, 0, 0, 0, 0, 0, 0, 0]])]) else some (Res.ret
     (Value.int IntKind.i64 0) [some (Blk.mk true 18 [Seg.ints IntKind.i64 18 [2147484, IntKind.i64.wrap (1 + 1), c0, f0, c, f, 0, 0, 0, 0, 0, 0, 0, 0, 0, 0, 0, 0]])])) := by kernel_rfl
--CFEND
--CF cf67_2 (c0 f0 c1 f1 c f : Int) :: fnK Try.prog S67g noL Try.f67 [pt 0, w63 c, w63 f] [bB true [2147484, 2, c0, f0, c1, f1, 0, 0, 0, 0, 0, 0, 0, 0, 0, 0, 0, 0]]
theorem cf67_2 (c0 f0 c1 f1 c f : Int) : fnK Try.prog S67g noL Try.f67 [pt 0, w63 c, w63 f] [bB true [2147484, 2, c0, f0, c1, f1, 0, 0, 0, 0, 0, 0, 0, 0, 0, 0, 0, 0]] =
     (bif decide (f < IntKind.i64.wrap (0 - 2147484)) then some (Res.ret (Value.int IntKind.i64 2) [some (Blk.mk true 18 [Seg.ints IntKind.i64 18 [2147484, 2, c0, f0, c1, f1, 0, 0, 0, 0, 0, 0, 0, 0, 0, 0,
     0, 0]])]) else bif decide (f > 2147484) then some (Res.ret (Value.int IntKind.i64 2) [some (Blk.mk true 18 [Seg.ints IntKind.i64 18 [2147484, 2, c0, f0, c1, f1, 0, 0, 0, 0, 0, 0, 0, 0, 0, 0, 0, 0]])])
     else bif decide (c ≤ c1) then some (Res.ret (Value.int IntKind.i64 10) [some (Blk.mk true 18 [Seg.ints IntKind.i64 18 [2147484, 2, c0, f0, c1, f1, 0, 0, 0, 0, 0, 0, 0, 0, 0, 0, 0, 0]])]) else some
     (Res.ret (Value.int IntKind.i64 0) [some (Blk.mk true 18 [Seg.ints IntKind.i64 18 [2147484, IntKind.i64.wrap (2 + 1), c0, f0, c1, f1, c, f, 0, 0, 0, 0, 0, 0, 0, 0, 0, 0]])])) := by kernel_rfl
--CFEND
--CF cf67_3 (c0 f0 c1 f1 c2 f2 c f : Int) :: fnK Try.prog S67g noL Try.f67 [pt 0, w63 c, w63 f] [bB true [2147484, 3, c0, f0, c1, f1, c2, f2, 0, 0, 0, 0, 0, 0, 0, 0, 0, 0]]
theorem cf67_3 (c0 f0 c1 f1 c2 f2 c f : Int) : fnK Try.prog S67g noL Try.f67 [pt 0, w63 c, w63 f] [bB true [2147484, 3, c0, f0, c1, f1, c2, f2, 0, 0, 0, 0, 0, 0, 0, 0, 0, 0]] =
     (bif decide (f < IntKind.i64.wrap (0 - 2147484)) then some (Res.ret (Value.int IntKind.i64 2) [some (Blk.mk true 18 [Seg.ints IntKind.i64 18 [2147484, 3, c0, f0, c1, f1, c2, f2, 0, 0, 0, 0, 0, 0, 0,
     0, 0, 0]])]) else bif decide (f > 2147484) then some (Res.ret (Value.int IntKind.i64 2) [some (Blk.mk true 18 [Seg.ints IntKind.i64 18 [2147484, 3, c0, f0, c1, f1, c2, f2, 0, 0, 0, 0, 0, 0, 0, 0, 0,
     0]])]) else bif decide (c ≤ c2) then some (Res.ret (Value.int IntKind.i64 10) [some (Blk.mk true 18 [Seg.ints IntKind.i64 18 [2147484, 3, c0, f0, c1, f1, c2, f2, 0, 0, 0, 0, 0, 0, 0, 0, 0, 0]])]) else
     some (Res.ret (Value.int IntKind.i64 0) [some (Blk.mk true 18 [Seg.ints IntKind.i64 18 [2147484, IntKind.i64.wrap (3 + 1), c0, f0, c1, f1, c2, f2, c, f, 0, 0, 0, 0, 0, 0, 0, 0]])])) := by kernel_rfl
--CFEND
--CF cf67_4 (c0 f0 c1 f1 c2 f2 c3 f3 c f : Int) :: fnK Try.prog S67g noL Try.f67 [pt 0, w63 c, w63 f] [bB true [2147484, 4, c0, f0, c1, f1, c2, f2, c3, f3, 0, 0, 0, 0, 0, 0, 0, 0]]
theorem cf67_4 (c0 f0 c1 f1 c2 f2 c3 f3 c f : Int) : fnK Try.prog S67g noL Try.f67 [pt 0, w63 c, w63 f] [bB true [2147484, 4, c0, f0, c1, f1, c2, f2, c3, f3, 0, 0, 0, 0, 0, 0, 0, 0]] =
     (bif decide (f < IntKind.i64.wrap (0 - 2147484)) then some (Res.ret (Value.int IntKind.i64 2) [some (Blk.mk true 18 [Seg.ints IntKind.i64 18 [2147484, 4, c0, f0, c1, f1, c2, f2, c3, f3, 0, 0, 0, 0, 0,
     0, 0, 0]])]) else bif decide (f > 2147484) then some (Res.ret (Value.int IntKind.i64 2) [some (Blk.mk true 18 [Seg.ints IntKind.i64 18 [2147484, 4, c0, f0, c1, f1, c2, f2, c3, f3, 0, 0, 0, 0, 0, 0, 0,
     0]])]) else bif decide (c ≤ c3) then some (Res.ret (Value.int IntKind.i64 10) [some (Blk.mk true 18 [Seg.ints IntKind.i64 18 [2147484, 4, c0, f0, c1, f1, c2, f2, c3, f3, 0, 0, 0, 0, 0, 0, 0, 0]])])
     else some (Res.ret (Value.int IntKind.i64 0) [some (Blk.mk true 18 [Seg.ints IntKind.i64 18 [2147484, IntKind.i64.wrap (4 + 1), c0, f0, c1, f1, c2, f2, c3, f3, c, f, 0, 0, 0, 0, 0, 0]])])) := by kernel_rfl
--CFEND
--CF cf67_5 (c0 f0 c1 f1 c2 f2 c3 f3 c4 f4 c f : Int) :: fnK Try.prog S67g noL Try.f67 [pt 0, w63 c, w63 f] [bB true [2147484, 5, c0, f0, c1, f1, c2, f2, c3, f3, c4, f4, 0, 0, 0, 0, 0, 0]]
theorem cf67_5 (c0 f0 c1 f1 c2 f2 c3 f3 c4 f4 c f : Int) : fnK Try.prog S67g noL Try.f67 [pt 0, w63 c, w63 f] [bB true [2147484, 5, c0, f0, c1, f1, c2, f2, c3, f3, c4, f4, 0, 0, 0, 0, 0, 0]] =
     (bif decide (f < IntKind.i64.wrap (0 - 2147484)) then some (Res.ret (Value.int IntKind.i64 2) [some (Blk.mk true 18 [Seg.ints IntKind.i64 18 [2147484, 5, c0, f0, c1, f1, c2, f2, c3, f3, c4, f4, 0, 0,
     0, 0, 0, 0]])]) else bif decide (f > 2147484) then some (Res.ret (Value.int IntKind.i64 2) [some (Blk.mk true 18 [Seg.ints IntKind.i64 18 [2147484, 5, c0, f0, c1, f1, c2, f2, c3, f3, c4, f4, 0, 0, 0,
     0, 0, 0]])]) else bif decide (c ≤ c4) then some (Res.ret (Value.int IntKind.i64 10) [some (Blk.mk true 18 [Seg.ints IntKind.i64 18 [2147484, 5, c0, f0, c1, f1, c2, f2, c3, f3, c4, f4, 0, 0, 0, 0, 0,
     0]])]) else some (Res.ret (Value.int IntKind.i64 0) [some (Blk.mk true 18 [Seg.ints IntKind.i64 18 [2147484, IntKind.i64.wrap (5 + 1), c0, f0, c1, f1, c2, f2, c3, f3, c4, f4, c, f, 0, 0, 0, 0]])])) := by kernel_rfl
--CFEND
--CF cf67_6 (c0 f0 c1 f1 c2 f2 c3 f3 c4 f4 c5 f5 c f : Int) :: fnK Try.prog S67g noL Try.f67 [pt 0, w63 c, w63 f] [bB true [2147484, 6, c0, f0, c1, f1, c2, f2, c3, f3, c4, f4, c5, f5, 0, 0, 0, 0]]
theorem cf67_6 (c0 f0 c1 f1 c2 f2 c3 f3 c4 f4 c5 f5 c f : Int) : fnK Try.prog S67g noL Try.f67 [pt 0, w63 c, w63 f] [bB true [2147484, 6, c0, f0, c1, f1, c2, f2, c3, f3, c4, f4, c5, f5, 0, 0, 0, 0]] =
     (bif decide (f < IntKind.i64.wrap (0 - 2147484)) then some (Res.ret (Value.int IntKind.i64 2) [some (Blk.mk true 18 [Seg.ints IntKind.i64 18 [2147484, 6, c0, f0, c1, f1, c2, f2, c3, f3, c4, f4, c5,
     f5, 0, 0, 0, 0]])]) else bif decide (f > 2147484) then some (Res.ret (Value.int IntKind.i64 2) [some (Blk.mk true 18 [Seg.ints IntKind.i64 18 [2147484, 6, c0, f0, c1, f1, c2, f2, c3, f3, c4, f4, c5,
     f5, 0, 0, 0, 0]])]) else bif decide (c ≤ c5) then some (Res.ret (Value.int IntKind.i64 10) [some (Blk.mk true 18 [Seg.ints IntKind.i64 18 [2147484, 6, c0, f0, c1, f1, c2, f2, c3, f3, c4, f4, c5, f5,
     0, 0, 0, 0]])]) else some (Res.ret (Value.int IntKind.i64 0) [some (Blk.mk true 18 [Seg.ints IntKind.i64 18 [2147484, IntKind.i64.wrap (6 + 1), c0, f0, c1, f1, c2, f2, c3, f3, c4, f4, c5, f5, c, f, 0,
     0]])])) := by kernel_rfl
--CFEND
--CF cf67_7 (c0 f0 c1 f1 c2 f2 c3 f3 c4 f4 c5 f5 c6 f6 c f : Int) :: fnK Try.prog S67g noL Try.f67 [pt 0, w63 c, w63 f] [bB true [2147484, 7, c0, f0, c1, f1, c2, f2, c3, f3, c4, f4, c5, f5, c6, f6, 0, 0]]
theorem cf67_7 (c0 f0 c1 f1 c2 f2 c3 f3 c4 f4 c5 f5 c6 f6 c f : Int) : fnK Try.prog S67g noL Try.f67 [pt 0, w63 c, w63 f] [bB true [2147484, 7, c0, f0, c1, f1, c2, f2, c3, f3, c4, f4, c5, f5, c6, f6, 0, 0]] =
     (bif decide (f < IntKind.i64.wrap (0 - 2147484)) then some (Res.ret (Value.int IntKind.i64 2) [some (Blk.mk true 18 [Seg.ints IntKind.i64 18 [2147484, 7, c0, f0, c1, f1, c2, f2, c3, f3, c4, f4, c5,
     f5, c6, f6, 0, 0]])]) else bif decide (f > 2147484) then some (Res.ret (Value.int IntKind.i64 2) [some (Blk.mk true 18 [Seg.ints IntKind.i64 18 [2147484, 7, c0, f0, c1, f1, c2, f2, c3, f3, c4, f4, c5,
     f5, c6, f6, 0, 0]])]) else bif decide (c ≤ c6) then some (Res.ret (Value.int IntKind.i64 10) [some (Blk.mk true 18 [Seg.ints IntKind.i64 18 [2147484, 7, c0, f0, c1, f1, c2, f2, c3, f3, c4, f4, c5, f5,
     c6, f6, 0, 0]])]) else some (Res.ret (Value.int IntKind.i64 0) [some (Blk.mk true 18 [Seg.ints IntKind.i64 18 [2147484, IntKind.i64.wrap (7 + 1), c0, f0, c1, f1, c2, f2, c3, f3, c4, f4, c5, f5, c6,
     f6, c, f]])])) := by kernel_rfl
--CFEND
--CF cf67_8 (c0 f0 c1 f1 c2 f2 c3 f3 c4 f4 c5 f5 c6 f6 c7 f7 c f : Int) :: fnK Try.prog S67g noL Try.f67 [pt 0, w63 c, w63 f] [bB true [2147484, 8, c0, f0, c1, f1, c2, f2, c3, f3, c4, f4, c5, f5, c6, f6, c7, f7]]
theorem cf67_8 (c0 f0 c1 f1 c2 f2 c3 f3 c4 f4 c5 f5 c6 f6 c7 f7 c f : Int) : fnK Try.prog S67g noL Try.f67 [pt 0, w63 c, w63 f] [bB true [2147484, 8, c0, f0, c1, f1, c2, f2, c3, f3, c4, f4, c5, f5, c6, f6, c7, f7]] =
     (bif decide (f < IntKind.i64.wrap (0 - 2147484)) then some (Res.ret (Value.int IntKind.i64 2) [some (Blk.mk true 18 [Seg.ints IntKind.i64 18 [2147484, 8, c0, f0, c1, f1, c2, f2, c3, f3, c4, f4, c5,
     f5, c6, f6, c7, f7]])]) else bif decide (f > 2147484) then some (Res.ret (Value.int IntKind.i64 2) [some (Blk.mk true 18 [Seg.ints IntKind.i64 18 [2147484, 8, c0, f0, c1, f1, c2, f2, c3, f3, c4, f4,
     c5, f5, c6, f6, c7, f7]])]) else bif decide (c ≤ c7) then some (Res.ret (Value.int IntKind.i64 10) [some (Blk.mk true 18 [Seg.ints IntKind.i64 18 [2147484, 8, c0, f0, c1, f1, c2, f2, c3, f3, c4, f4,
     c5, f5, c6, f6, c7, f7]])]) else some (Res.ret (Value.int IntKind.i64 0) [some (Blk.mk true 18 [Seg.ints IntKind.i64 18 [2147484, IntKind.i64.wrap (IntKind.i64.wrap (8 - 1) + 1), c1, f1, c2, f2, c3,
     f3, c4, f4, c5, f5, c6, f6, c7, f7, c, f]])])) := by kernel_rfl
--CFEND
def S68g : Spec := mkS [(19, false, F19), (24, false, F24), (25, false, F25), (34, false, F34), (108, false, F108g), (109, true, F109)]
--CF cf68g (xs : List Int) (n i : Nat) (a b c d : Int) (on : List Value → Heap → Out) (out : Exit → List Value → Heap → Out) :: roundK Try.prog S68g noL Try.f68.ntmps 1 (loopOf Try.f68 0) live68 [pt 0, pt 1, .slice (some ⟨0, 2, none⟩) n 2, w63 n, w63 i] [bB false xs, sB a b c d] on out
theorem cf68g (xs : List Int) (n i : Nat) (a b c d : Int) (on : List Value → Heap → Out) (out : Exit → List Value → Heap → Out) : roundK Try.prog S68g noL Try.f68.ntmps 1 (loopOf Try.f68 0) live68 [pt 0, pt 1, .slice (some ⟨0, 2, none⟩) n 2, w63 n, w63 i] [bB false xs, sB a b c d] on out =
     (bif decide ((↑i : Int) < (↑n : Int)) then bif decide (0 ≤ (↑i : Int)) && decide ((↑i : Int) < (↑n : Int)) then bif (2 + (↑i : Int).toNat * 2).blt 18 then bif (2 + (↑i : Int).toNat * 2 + 1).blt 18
     then on [Value.pointer (some (Addr.mk 0 0 none)), Value.pointer (some (Addr.mk 1 0 none)), Value.slice (some (Addr.mk 0 2 none)) n 2, Value.int IntKind.i64 (↑n : Int), Value.int IntKind.i64
     (IntKind.i64.wrap ((↑i : Int) + 1))] [some (Blk.mk false 18 [Seg.ints IntKind.i64 18 xs]), some (Blk.mk true 4 [Seg.ints IntKind.i64 4 [hold (a + IntKind.i64.wrap ((hold (xs.getD (2 + (↑i : Int).toNat
     * 2) 0 - xs.getD 2 0)).tdiv 1000000000)), hold (b + IntKind.i64.wrap (xs.getD (2 + (↑i : Int).toNat * 2 + 1) 0 - xs.getD 3 0)), hold (c + hold (IntKind.i64.wrap ((hold (xs.getD (2 + (↑i : Int).toNat *
     2) 0 - xs.getD 2 0)).tdiv 1000000000) * IntKind.i64.wrap ((hold (xs.getD (2 + (↑i : Int).toNat * 2) 0 - xs.getD 2 0)).tdiv 1000000000))), hold (d + hold (IntKind.i64.wrap ((hold (xs.getD (2 + (↑i :
     Int).toNat * 2) 0 - xs.getD 2 0)).tdiv 1000000000) * IntKind.i64.wrap (xs.getD (2 + (↑i : Int).toNat * 2 + 1) 0 - xs.getD 3 0)))]])] else none else none else none else out (Exit.exit 0) [Value.pointer
     (some (Addr.mk 0 0 none)), Value.pointer (some (Addr.mk 1 0 none)), Value.slice (some (Addr.mk 0 2 none)) n 2, Value.int IntKind.i64 (↑n : Int), Value.int IntKind.i64 (↑i : Int)] [some (Blk.mk false
     18 [Seg.ints IntKind.i64 18 xs]), some (Blk.mk true 4 [Seg.ints IntKind.i64 4 [a, b, c, d]])]) := by kernel_rfl
--CFEND
noncomputable def L68gf : LF := fun vs h k => match vs, h with
  | [.pointer (some ⟨0, 0, none⟩), .pointer (some ⟨1, 0, none⟩), .slice (some ⟨0, 2, none⟩) n 2, .int .i64 n', .int .i64 0], [some ⟨false, 18, [.ints .i64 18 xs]⟩, some ⟨true, 4, [.ints .i64 4 ys]⟩] =>
    bif decide ((n : Int) = xs.getD 1 0) && decide (n' = n) && eqLs ys [0, 0, 0, 0] && chk (lineOK xs) then
      k (.exit 0) [pt 0, pt 1, .slice (some ⟨0, 2, none⟩) n 2, w63 n, w63 n] [bB false xs, sB (sumX xs) (slopeX xs * sumX xs) (sumXX xs) (slopeX xs * sumXX xs)] else none
  | _, _ => none
noncomputable def L68g : LSpec := oneL 5 live68 L68gf
--CF cf68G (xs : List Int) :: fnK Try.prog S68g L68g Try.f68 [pt 0] [bB false xs]
theorem cf68G (xs : List Int) : fnK Try.prog S68g L68g Try.f68 [pt 0] [bB false xs] =
     (bif xs.getD 0 0 == 0 then some (Res.ret (Value.int IntKind.i64 0) [some (Blk.mk false 18 [Seg.ints IntKind.i64 18 xs])]) else bif decide (xs.getD 1 0 < 3) then some (Res.ret (Value.int IntKind.i64 0)
     [some (Blk.mk false 18 [Seg.ints IntKind.i64 18 xs])]) else bif decide (0 ≤ xs.getD 1 0) && decide (xs.getD 1 0 ≤ 8) && true then bif decide ((↑(xs.getD 1 0 - 0).toNat : Int) = xs.getD 1 0) && decide
     ((↑(xs.getD 1 0 - 0).toNat : Int) = (↑(xs.getD 1 0 - 0).toNat : Int)) && true && chk (lineOK xs) then some (Res.ret (Value.int IntKind.i64 (if downI (hold (hold (xs.getD 1 0 * (slopeX xs * sumXX xs))
     - hold (sumX xs * (slopeX xs * sumX xs)))) 3600 (hold (hold (xs.getD 1 0 * sumXX xs) - hold (sumX xs * sumX xs))) < IntKind.i64.wrap (0 - IntKind.i64.wrap ((xs.getD 0 0).tdiv 16)) then
     IntKind.i64.wrap (0 - IntKind.i64.wrap ((xs.getD 0 0).tdiv 16)) else if downI (hold (hold (xs.getD 1 0 * (slopeX xs * sumXX xs)) - hold (sumX xs * (slopeX xs * sumX xs)))) 3600 (hold (hold (xs.getD 1
     0 * sumXX xs) - hold (sumX xs * sumX xs))) > IntKind.i64.wrap ((xs.getD 0 0).tdiv 16) then IntKind.i64.wrap ((xs.getD 0 0).tdiv 16) else downI (hold (hold (xs.getD 1 0 * (slopeX xs * sumXX xs)) - hold
     (sumX xs * (slopeX xs * sumX xs)))) 3600 (hold (hold (xs.getD 1 0 * sumXX xs) - hold (sumX xs * sumX xs))))) [some (Blk.mk false 18 [Seg.ints IntKind.i64 18 xs])]) else none else none) := by kernel_rfl
--CFEND

theorem flatP_len : ∀ (pts : List (Int × Int)), (flatP pts).length = 2 * pts.length
  | [] => rfl
  | p :: r => by simp [flatP, flatP_len r]; omega
theorem pairsN_flat : ∀ (pts : List (Int × Int)) (z : List Int), pairsN pts.length (flatP pts ++ z) = pts
  | [], z => by simp [pairsN]
  | p :: r, z => by simp [pairsN, flatP, pairsN_flat r z]
theorem book_len (pts : List (Int × Int)) : (book pts).getD 1 0 = pts.length := rfl
theorem points_book (pts : List (Int × Int)) : pointsX (book pts) = pts := by
  unfold pointsX
  rw [book_len, Int.toNat_natCast]
  exact pairsN_flat pts _
theorem flatP_get : ∀ (pts : List (Int × Int)) (z : List Int) (i : Nat), i < pts.length → (flatP pts ++ z).getD (i * 2) 0 = (pts.getD i (0, 0)).1 ∧ (flatP pts ++ z).getD (i * 2 + 1) 0 = (pts.getD i (0, 0)).2
  | [], z, i, h => by simp at h
  | p :: r, z, 0, _ => ⟨rfl, rfl⟩
  | p :: r, z, i + 1, h => by
    obtain ⟨a, b⟩ := flatP_get r z i (by simpa using h)
    rw [show (i + 1) * 2 = i * 2 + 2 by omega, show i * 2 + 2 + 1 = i * 2 + 1 + 2 by omega]
    exact ⟨a, b⟩
theorem book_get (pts : List (Int × Int)) (i : Nat) (h : i < pts.length) : (book pts).getD (2 + i * 2) 0 = (pts.getD i (0, 0)).1 ∧ (book pts).getD (2 + i * 2 + 1) 0 = (pts.getD i (0, 0)).2 := by
  have := flatP_get pts (List.replicate (16 - 2 * pts.length) 0) i h
  rw [Nat.add_comm 2, show i * 2 + 2 + 1 = i * 2 + 1 + 2 by omega]
  exact this

theorem ok108g : EntryOK Try.prog 108 F108g := by
  refine EntryOK.of_fn (mkS_nil _) follows_ok Try.func108 (by kernel_rfl) (by kernel_rfl) ?_
  intro args h k out hF
  unfold F108g at hF
  split at hF
  · exact ⟨_, _, hF, fun _ => ⟨noL, noL_ok, cf108g ..⟩⟩
  · cases hF
theorem S67g_ok : SpecOK Try.prog S67g := mkS_cons ok108g (mkS_nil _)
theorem w0 : IntKind.i64.wrap (0 - 2147484) = -2147484 := by decide
theorem add_ok {c f : Int} (h1 : -2147484 ≤ f) (h2 : f ≤ 2147484) : ∀ (pts : List (Int × Int)), pts.length ≤ 8 → (∀ p, pts.getLast? = some p → p.1 < c) →
    fnK Try.prog S67g noL Try.f67 [pt 0, w63 c, w63 f] [bB true (book pts)] = some (.ret (w63 0) [bB true (book (pushP pts (c, f)))])
  | [], _, _ => by
    refine (cf67_0  c f).trans ?_
    try rw [w0]
    rw [dec_f (show ¬ f < -2147484 by omega), condF, dec_f (show ¬ f > 2147484 by omega), condF]
    rfl
  | [(c0, f0)], _, hl => by
    refine (cf67_1 c0 f0 c f).trans ?_
    try rw [w0]
    rw [dec_f (show ¬ f < -2147484 by omega), condF, dec_f (show ¬ f > 2147484 by omega), condF, dec_f (show ¬ c ≤ c0 by have := hl (c0, f0) rfl; simp only at this; omega), condF]
    rfl
  | [(c0, f0), (c1, f1)], _, hl => by
    refine (cf67_2 c0 f0 c1 f1 c f).trans ?_
    try rw [w0]
    rw [dec_f (show ¬ f < -2147484 by omega), condF, dec_f (show ¬ f > 2147484 by omega), condF, dec_f (show ¬ c ≤ c1 by have := hl (c1, f1) rfl; simp only at this; omega), condF]
    rfl
  | [(c0, f0), (c1, f1), (c2, f2)], _, hl => by
    refine (cf67_3 c0 f0 c1 f1 c2 f2 c f).trans ?_
    try rw [w0]
    rw [dec_f (show ¬ f < -2147484 by omega), condF, dec_f (show ¬ f > 2147484 by omega), condF, dec_f (show ¬ c ≤ c2 by have := hl (c2, f2) rfl; simp only at this; omega), condF]
    rfl
  | [(c0, f0), (c1, f1), (c2, f2), (c3, f3)], _, hl => by
    refine (cf67_4 c0 f0 c1 f1 c2 f2 c3 f3 c f).trans ?_
    try rw [w0]
    rw [dec_f (show ¬ f < -2147484 by omega), condF, dec_f (show ¬ f > 2147484 by omega), condF, dec_f (show ¬ c ≤ c3 by have := hl (c3, f3) rfl; simp only at this; omega), condF]
    rfl
  | [(c0, f0), (c1, f1), (c2, f2), (c3, f3), (c4, f4)], _, hl => by
    refine (cf67_5 c0 f0 c1 f1 c2 f2 c3 f3 c4 f4 c f).trans ?_
    try rw [w0]
    rw [dec_f (show ¬ f < -2147484 by omega), condF, dec_f (show ¬ f > 2147484 by omega), condF, dec_f (show ¬ c ≤ c4 by have := hl (c4, f4) rfl; simp only at this; omega), condF]
    rfl
  | [(c0, f0), (c1, f1), (c2, f2), (c3, f3), (c4, f4), (c5, f5)], _, hl => by
    refine (cf67_6 c0 f0 c1 f1 c2 f2 c3 f3 c4 f4 c5 f5 c f).trans ?_
    try rw [w0]
    rw [dec_f (show ¬ f < -2147484 by omega), condF, dec_f (show ¬ f > 2147484 by omega), condF, dec_f (show ¬ c ≤ c5 by have := hl (c5, f5) rfl; simp only at this; omega), condF]
    rfl
  | [(c0, f0), (c1, f1), (c2, f2), (c3, f3), (c4, f4), (c5, f5), (c6, f6)], _, hl => by
    refine (cf67_7 c0 f0 c1 f1 c2 f2 c3 f3 c4 f4 c5 f5 c6 f6 c f).trans ?_
    try rw [w0]
    rw [dec_f (show ¬ f < -2147484 by omega), condF, dec_f (show ¬ f > 2147484 by omega), condF, dec_f (show ¬ c ≤ c6 by have := hl (c6, f6) rfl; simp only at this; omega), condF]
    rfl
  | [(c0, f0), (c1, f1), (c2, f2), (c3, f3), (c4, f4), (c5, f5), (c6, f6), (c7, f7)], _, hl => by
    refine (cf67_8 c0 f0 c1 f1 c2 f2 c3 f3 c4 f4 c5 f5 c6 f6 c7 f7 c f).trans ?_
    try rw [w0]
    rw [dec_f (show ¬ f < -2147484 by omega), condF, dec_f (show ¬ f > 2147484 by omega), condF, dec_f (show ¬ c ≤ c7 by have := hl (c7, f7) rfl; simp only at this; omega), condF]
    rfl
  | _ :: _ :: _ :: _ :: _ :: _ :: _ :: _ :: _ :: _, h, _ => by simp at h
noncomputable def F67g : FSpec := fun args h k => match args, h with
  | [.pointer (some ⟨0, 0, none⟩), .int .i64 c, .int .i64 f], [some ⟨true, 18, [.ints .i64 18 xs]⟩] =>
    bif chk (∃ pts, xs = book pts ∧ pts.length ≤ 8 ∧ -2147484 ≤ f ∧ f ≤ 2147484 ∧ ∀ p, pts.getLast? = some p → p.1 < c) then k (w63 0) [bB true (book (pushP (pointsX xs) (c, f)))] else none
  | _, _ => none
theorem ok67g : EntryOK Try.prog 67 F67g := by
  refine EntryOK.of_fn S67g_ok follows_ok Try.func67 (by kernel_rfl) (by kernel_rfl) ?_
  intro args h k out hF
  unfold F67g at hF
  split at hF
  · obtain ⟨hb, hF2⟩ := bif_t hF
    obtain ⟨pts, rfl, h1, h2, h3, h4⟩ := chk_iff.1 hb
    refine ⟨_, _, hF2, fun _ => ⟨noL, noL_ok, ?_⟩⟩
    rw [points_book]
    exact add_ok h2 h3 pts h1 h4
  · cases hF

/-! ### sums -/
theorem s_take : ∀ (l : List Int) (i : Nat), i < l.length → s1 (l.take (i + 1)) = s1 (l.take i) + l.getD i 0 ∧ s2 (l.take (i + 1)) = s2 (l.take i) + l.getD i 0 * l.getD i 0
  | [], i, h => by simp at h
  | x :: r, 0, _ => by simp [s1, s2]
  | x :: r, i + 1, h => by
    obtain ⟨a, b⟩ := s_take r i (by simpa using h)
    simp only [List.take_succ_cons, s1, s2, a, b, List.getD_cons_succ]
    omega
theorem s_bound {B : Int} (hB : 0 ≤ B) : ∀ (l : List Int), (∀ x ∈ l, 0 ≤ x ∧ x ≤ B) → 0 ≤ s1 l ∧ s1 l ≤ l.length * B ∧ 0 ≤ s2 l ∧ s2 l ≤ l.length * (B * B)
  | [], _ => by simp [s1, s2]
  | x :: r, h => by
    obtain ⟨a, b, c, d⟩ := s_bound hB r (fun y hy => h y (List.mem_cons_of_mem _ hy))
    obtain ⟨e, f⟩ := h x (List.mem_cons_self ..)
    have g0 : 0 ≤ x * x := Int.mul_nonneg e e
    have g1 : x * x ≤ B * B := Int.mul_le_mul f f e hB
    simp only [s1, s2, List.length_cons, Int.natCast_add, Int.add_mul, Int.natCast_one, Int.one_mul]
    omega
theorem sq_nonneg (x : Int) : 0 ≤ x * x := by
  rcases Int.le_total 0 x with h | h
  · exact Int.mul_nonneg h h
  · have := Int.mul_nonneg (show 0 ≤ -x by omega) (show 0 ≤ -x by omega)
    rwa [Int.neg_mul_neg] at this
theorem spread : ∀ (l : List Int) (x : Int), 0 ≤ s2 l + l.length * (x * x) - 2 * (x * s1 l)
  | [], x => by simp [s1, s2]
  | y :: r, x => by
    have a := spread r x
    have b := sq_nonneg (y - x)
    simp only [s1, s2, List.length_cons, Int.natCast_add, Int.natCast_one]
    grind
theorem cauchy : ∀ (l : List Int), 0 ≤ l.length * s2 l - s1 l * s1 l
  | [] => by simp [s1, s2]
  | x :: r => by
    have a := cauchy r
    have b := spread r x
    simp only [s1, s2, List.length_cons, Int.natCast_add, Int.natCast_one]
    grind
theorem cauchy_pos {x : Int} {r : List Int} (hx : 0 < x) (hr : 0 ≤ s2 r) : 0 < ((0 :: x :: r : List Int).length : Int) * s2 (0 :: x :: r) - s1 (0 :: x :: r) * s1 (0 :: x :: r) := by
  have a := cauchy (x :: r)
  have b : 0 < x * x := Int.mul_pos hx hx
  simp only [s1, s2, List.length_cons, Int.natCast_add, Int.natCast_one, Int.zero_add, Int.zero_mul] at a ⊢
  grind
/-! ### the loop of Rate -/
theorem getD_map0 {f : Int → Int × Int} {l : List Int} {i : Nat} (h : i < l.length) : (l.map f).getD i (0, 0) = f (l.getD i 0) := by
  rw [List.getD_eq_getElem?_getD, List.getD_eq_getElem?_getD, List.getElem?_map, List.getElem?_eq_getElem h]; rfl
theorem getD_mapI {f : Int → Int} {l : List Int} {i : Nat} (h : i < l.length) : (l.map f).getD i 0 = f (l.getD i 0) := by
  rw [List.getD_eq_getElem?_getD, List.getD_eq_getElem?_getD, List.getElem?_map, List.getElem?_eq_getElem h]; rfl
theorem getD_memI {l : List Int} {i : Nat} (h : i < l.length) : l.getD i 0 ∈ l := by
  rw [List.getD_eq_getElem?_getD, List.getElem?_eq_getElem h]; exact List.getElem_mem ..
theorem rising_head {a : Int} : ∀ {l : List Int}, risingL (a :: l) → ∀ x ∈ l, a < x
  | [], _, x, hx => by cases hx
  | b :: r, h, x, hx => by
    rcases List.mem_cons.1 hx with rfl | hx
    · exact h.1
    · have := rising_head h.2 x hx
      have := h.1
      omega
theorem line_len (s sh b : Int) (ats : List Int) : (lineP s sh b ats).length = ats.length := List.length_map ..
theorem line_get {s sh b : Int} {ats : List Int} {i : Nat} (h : i < ats.length) : (lineP s sh b ats).getD i (0, 0) = (b + ats.getD i 0 * 1000000000, s * ats.getD i 0 + sh) := getD_map0 h
theorem secs_line {s sh b : Int} {ats : List Int} (h : 0 < ats.length) : secs (lineP s sh b ats) = ats.map fun a => a - ats.getD 0 0 := by
  unfold secs
  rw [line_get h]
  unfold lineP
  rw [List.map_map]
  refine List.map_congr_left fun a _ => ?_
  show ((b + a * 1000000000) - (b + ats.getD 0 0 * 1000000000)) / 1000000000 = _
  omega
theorem slope_line {s sh b : Int} {ats : List Int} (h : 1 < ats.length) (hr : risingL ats) : slopeX (book (lineP s sh b ats)) = s := by
  unfold slopeX
  rw [points_book, line_get h, line_get (show 0 < ats.length by omega)]
  have : 0 < ats.getD 1 0 - ats.getD 0 0 := by
    match ats, h, hr with
    | _ :: _ :: _, _, hr => have := hr.1; simp; omega
  generalize ats.getD 1 0 = x at *
  generalize ats.getD 0 0 = y at *
  show (s * x + sh - (s * y + sh)) / ((b + x * 1000000000 - (b + y * 1000000000)) / 1000000000) = s
  rw [show (b + x * 1000000000 - (b + y * 1000000000)) / 1000000000 = x - y by omega, show s * x + sh - (s * y + sh) = s * (x - y) by rw [Int.mul_sub]; omega]
  exact Int.mul_ediv_cancel _ (by omega)
theorem mulb {s x B : Int} (h1 : -9 ≤ s) (h2 : s ≤ 9) (h3 : 0 ≤ x) (h4 : x ≤ B) : -(9 * B) ≤ s * x ∧ s * x ≤ 9 * B := by
  have a := Int.mul_le_mul_of_nonneg_right h2 h3
  have b := Int.mul_le_mul_of_nonneg_right h1 h3
  omega
def behind (ats : List Int) : List Int := ats.map fun a => a - ats.getD 0 0
theorem behind_ok {ats : List Int} (hr : risingL ats) (hb : ∀ a ∈ ats, 1 ≤ a ∧ a ≤ 48000) : ∀ u ∈ behind ats, 0 ≤ u ∧ u ≤ 48000 := by
  intro u hu
  obtain ⟨a, ha, rfl⟩ := List.mem_map.1 hu
  have h1 := hb a ha
  match ats, hr, hb, ha with
  | x :: r, hr, hb, ha =>
    have h2 := hb x (List.mem_cons_self ..)
    have : x ≤ a := by
      rcases List.mem_cons.1 ha with rfl | ha
      · omega
      · have := rising_head hr a ha; omega
    show 0 ≤ a - x ∧ a - x ≤ 48000
    omega
theorem loop68g {s sh b : Int} {ats : List Int} (hl : 1 ≤ ats.length) (hl2 : ats.length ≤ 8) (hr : risingL ats) (hb : ∀ a ∈ ats, 1 ≤ a ∧ a ≤ 48000) (hs1 : -9 ≤ s) (hs2 : s ≤ 9)
    {k : Exit → List Value → Heap → Out} : ∀ (r i : Nat), i + r = ats.length + 1 → r ≠ 0 →
      loopN Try.prog S68g noL Try.f68.ntmps 1 (loopOf Try.f68 0) live68 r [pt 0, pt 1, .slice (some ⟨0, 2, none⟩) ats.length 2, w63 ats.length, w63 i] [bB false (book (lineP s sh b ats)), sB (s1 ((behind ats).take i)) (s * s1 ((behind ats).take i)) (s2 ((behind ats).take i)) (s * s2 ((behind ats).take i))] k =
      k (.exit 0) [pt 0, pt 1, .slice (some ⟨0, 2, none⟩) ats.length 2, w63 ats.length, w63 ats.length] [bB false (book (lineP s sh b ats)), sB (s1 (behind ats)) (s * s1 (behind ats)) (s2 (behind ats)) (s * s2 (behind ats))] := by
  intro r
  induction r with
  | zero => intro i _ h; exact (h rfl).elim
  | succ r ih =>
    intro i hir _
    have lu : (behind ats).length = ats.length := List.length_map ..
    refine (loopN_succ ..).trans ((cf68g ..).trans ?_)
    by_cases hi : i < ats.length
    · have q := ih (i + 1) (by omega) (by omega)
      obtain ⟨e1, e2⟩ := s_take (behind ats) i (by omega)
      rw [e1, e2] at q
      have bu : (behind ats).getD i 0 = ats.getD i 0 - ats.getD 0 0 := getD_mapI hi
      have bd := behind_ok hr hb ((behind ats).getD i 0) (getD_memI (by omega))
      obtain ⟨t1, t2, t3, t4⟩ := s_bound (B := 48000) (by omega) ((behind ats).take i) (fun x hx => behind_ok hr hb x (List.mem_of_mem_take hx))
      have tl : (((behind ats).take i).length : Int) ≤ 8 := by rw [List.length_take]; omega
      have m1 : (((behind ats).take i).length : Int) * 48000 ≤ 384000 := by omega
      have m2 : (((behind ats).take i).length : Int) * (48000 * 48000) ≤ 18432000000 := by omega
      obtain ⟨g1, g2⟩ := book_get (lineP s sh b ats) i (by rw [line_len]; exact hi)
      obtain ⟨g3, g4⟩ := book_get (lineP s sh b ats) 0 (by rw [line_len]; omega)
      rw [line_get hi] at g1 g2
      rw [line_get (show 0 < ats.length by omega)] at g3 g4
      have bi := hb _ (getD_memI hi)
      have b0 := hb _ (getD_memI (show 0 < ats.length by omega))
      rw [dec_t (show (i : Int) < (ats.length : Nat) by omega), condT, dec_t (show (0 : Int) ≤ i by omega), Bool.and_self, condT, Int.toNat_natCast, blt_t (show 2 + i * 2 < 18 by omega), condT, blt_t (show 2 + i * 2 + 1 < 18 by omega), condT]
      rw [g1, g2, g3, g4, snat i (by omega)]
      rw [bu] at q bd
      generalize hX : s1 ((behind ats).take i) = A at *
      generalize hY : s2 ((behind ats).take i) = C at *
      generalize ats.getD i 0 = x at *
      generalize ats.getD 0 0 = y at *
      have c0 : ((b + x * 1000000000, s * x + sh) : Int × Int).1 = b + x * 1000000000 := rfl
      have z1 : IntKind.i64.wrap ((hold (b + x * 1000000000 - (b + y * 1000000000))).tdiv 1000000000) = x - y := by
        rw [hold_id (by omega), Int.tdiv_eq_ediv_of_nonneg (by omega), swrap (by omega) (by omega)]; omega
      have z2 : IntKind.i64.wrap (s * x + sh - (s * y + sh)) = s * (x - y) := by
        have := mulb hs1 hs2 bd.1 bd.2
        rw [show s * x + sh - (s * y + sh) = s * (x - y) by rw [Int.mul_sub]; omega, swrap (by omega) (by omega)]
      simp only [z1, z2]
      clear z1 z2 g1 g2 g3 g4 bu hX hY
      generalize x - y = u at *
      have u2 : 0 ≤ u * u := Int.mul_nonneg bd.1 bd.1
      have u3 : u * u ≤ 48000 * 48000 := Int.mul_le_mul bd.2 bd.2 bd.1 (by omega)
      have v1 := mulb hs1 hs2 bd.1 bd.2
      have v2 := mulb (B := 400000) hs1 hs2 t1 (by omega)
      have v3 := mulb (B := 20000000000) hs1 hs2 t3 (by omega)
      have v4 := mulb (B := 48000 * 48000) hs1 hs2 u2 u3
      have v5 : u * (s * u) = s * (u * u) := by grind
      rw [v5, hold_id (z := A + u) (by omega), hold_id (z := s * A + s * u) (by omega), hold_id (z := u * u) (by omega), hold_id (z := C + u * u) (by omega), hold_id (z := s * (u * u)) (by omega), hold_id (z := s * C + s * (u * u)) (by omega), ← Int.mul_add, ← Int.mul_add]
      exact q
    · have : i = ats.length := by omega
      subst this
      rw [dec_f (show ¬ ((ats.length : Nat) : Int) < (ats.length : Nat) by omega), condF, List.take_of_length_le (by omega)]
theorem S68g_ok : SpecOK Try.prog S68g := mkS_cons ok19 (mkS_cons ok24 (mkS_cons ok25 (mkS_cons ok34 (mkS_cons ok108g (mkS_cons ok109 (mkS_nil _))))))
theorem loopOK68g : LoopOK Try.prog Try.f68.ntmps 1 (loopOf Try.f68 0) live68 L68gf := by
  refine LoopOK.of_rounds S68g_ok follows_ok (L := noL) noL_ok ?_
  intro vs h k out hk
  unfold L68gf at hk
  split at hk
  · obtain ⟨hc, hk2⟩ := bif_t hk
    simp only [Bool.and_eq_true, decide_eq_true_eq] at hc
    obtain ⟨⟨⟨h1, rfl⟩, h2⟩, h3⟩ := hc
    cases eqLs_iff h2
    obtain ⟨s, sh, b, ats, rfl, l1, l2, hr, hb, a1, a2, _⟩ := chk_iff.1 h3
    rw [book_len, line_len] at h1
    have h1 := Int.ofNat_inj.1 h1
    subst h1
    refine ⟨_, _, _, hk2, fun _ => ⟨ats.length + 1, ?_⟩⟩
    have := loop68g (s := s) (sh := sh) (b := b) (by omega) l2 hr hb a1 a2 (k := fun e vs h => some (.at e (zipS live68 vs) h)) (ats.length + 1) 0 (by omega) (by omega)
    simp only [List.take_zero, s1, s2, Int.mul_zero] at this
    refine Eq.trans this ?_
    rw [slope_line (by omega) hr]
    unfold sumX sumXX
    rw [points_book, secs_line (by omega)]
    rfl
  · cases hk
theorem loops68g : LoopsOK Try.prog L68g Try.f68.ntmps 1 (bodyOf Try.f68) := loops_one rfl (by kernel_rfl) loopOK68g
/-- A book with points on a line. -/
def rateOK (xs : List Int) : Prop := ∃ slope shift base ats, xs = book (lineP slope shift base ats) ∧ ats.length ≤ 8 ∧ risingL ats ∧ (∀ a ∈ ats, 1 ≤ a ∧ a ≤ 48000) ∧ -9 ≤ slope ∧ slope ≤ 9 ∧ -1000 ≤ shift ∧ shift ≤ 1000 ∧ 0 ≤ base ∧ base ≤ 1152921504606846976
def rateX (xs : List Int) : Int := if (pointsX xs).length < 3 then 0 else clampI (3600 * slopeX xs) (-134217) 134217
noncomputable def F68g : FSpec := fun args h k => match args, h with
  | [.pointer (some ⟨0, 0, none⟩)], [some ⟨false, 18, [.ints .i64 18 xs]⟩] => bif chk (rateOK xs) then k (w63 (rateX xs)) [bB false xs] else none
  | _, _ => none
theorem behind_sum {ats : List Int} (h3 : 3 ≤ ats.length) (hr : risingL ats) (hb : ∀ a ∈ ats, 1 ≤ a ∧ a ≤ 48000) : 0 < (ats.length : Int) * s2 (behind ats) - s1 (behind ats) * s1 (behind ats) := by
  have bk := behind_ok hr hb
  match ats, h3, hr, hb, bk with
  | x :: y :: r, h3, hr, hb, bk =>
    have e : behind (x :: y :: r) = 0 :: (y - x) :: r.map fun a => a - x := by
      show (x - x) :: (y - x) :: _ = _
      rw [Int.sub_self]; rfl
    have l : ((x :: y :: r : List Int).length : Int) = ((0 :: (y - x) :: (r.map fun a => a - x) : List Int).length : Int) := by simp
    rw [e] at bk ⊢
    rw [l]
    refine cauchy_pos (by have := hr.1; omega) ?_
    exact (s_bound (B := 48000) (by omega) _ (fun u hu => bk u (List.mem_cons_of_mem _ (List.mem_cons_of_mem _ hu)))).2.2.1
theorem rate68 {xs : List Int} (h : rateOK xs) : fnK Try.prog S68g L68g Try.f68 [pt 0] [bB false xs] = some (.ret (w63 (rateX xs)) [bB false xs]) := by
  obtain ⟨s, sh, b, ats, rfl, l2, hr, hb, a1, a2, a3, a4, a5, a6⟩ := h
  refine (cf68G ..).trans ?_
  have g0 : (book (lineP s sh b ats)).getD 0 0 = 2147484 := rfl
  have g1 : (book (lineP s sh b ats)).getD 1 0 = ats.length := by rw [book_len, line_len]
  rw [g0, g1, show ((2147484 : Int) == 0) = false from rfl, condF]
  by_cases h3 : ats.length < 3
  · rw [dec_t (show (ats.length : Int) < 3 by omega), condT]
    have : rateX (book (lineP s sh b ats)) = 0 := if_pos (by rw [points_book, line_len]; exact h3)
    rw [this]
  · have lo : lineOK (book (lineP s sh b ats)) := ⟨s, sh, b, ats, rfl, by omega, l2, hr, hb, a1, a2, a3, a4, a5, a6⟩
    rw [dec_f (show ¬ (ats.length : Int) < 3 by omega), condF, dec_t (show (0 : Int) ≤ ats.length by omega), dec_t (show (ats.length : Int) ≤ 8 by omega), Int.sub_zero, Int.toNat_natCast, dec_t (rfl : (ats.length : Int) = ats.length), chk_t lo]
    simp only [Bool.and_self, condT]
    have hx : rateX (book (lineP s sh b ats)) = clampI (3600 * slopeX (book (lineP s sh b ats))) (-134217) 134217 := if_neg (by rw [points_book, line_len]; exact h3)
    rw [slope_line (by omega) hr] at hx
    have e1 : sumX (book (lineP s sh b ats)) = s1 (behind ats) := by
      unfold sumX; rw [points_book, secs_line (by omega)]; rfl
    have e2 : sumXX (book (lineP s sh b ats)) = s2 (behind ats) := by
      unfold sumXX; rw [points_book, secs_line (by omega)]; rfl
    rw [hx, e1, e2, slope_line (by omega) hr]
    have D := behind_sum (by omega) hr hb
    obtain ⟨t1, t2, t3, t4⟩ := s_bound (B := 48000) (by omega) (behind ats) (behind_ok hr hb)
    rw [show (behind ats).length = ats.length from List.length_map ..] at t2 t4
    generalize s1 (behind ats) = A at *
    generalize s2 (behind ats) = C at *
    have k1 : (ats.length : Int) * C ≤ 8 * 20000000000 := Int.mul_le_mul (by omega) (by omega) t3 (by omega)
    have k2 : 0 ≤ (ats.length : Int) * C := Int.mul_nonneg (by omega) t3
    have k3 : A * A ≤ 400000 * 400000 := Int.mul_le_mul (by omega) (by omega) t1 (by omega)
    have k4 : 0 ≤ A * A := Int.mul_nonneg t1 t1
    have r1 : (ats.length : Int) * (s * C) = s * (ats.length * C) := by grind
    have r2 : A * (s * A) = s * (A * A) := by grind
    have v1 := mulb a1 a2 k2 k1
    have v2 := mulb a1 a2 k4 k3
    rw [r1, r2]
    generalize (ats.length : Int) * C = E at *
    generalize A * A = G at *
    rw [hold_id (z := s * E) (by omega), hold_id (z := s * G) (by omega), hold_id (z := E) (by omega), hold_id (z := G) (by omega), hold_id (z := s * E - s * G) (by omega), hold_id (z := E - G) (by omega), ← Int.mul_sub]
    have dn : downI (s * (E - G)) 3600 (E - G) = 3600 * s := by
      unfold downI
      rw [if_neg (by omega), show s * (E - G) * 3600 = 3600 * s * (E - G) by grind, Int.mul_ediv_cancel _ (by omega)]
      exact hold_id (by omega)
    rw [dn, show IntKind.i64.wrap ((2147484 : Int).tdiv 16) = 134217 by decide, show IntKind.i64.wrap (0 - 134217) = -134217 by decide]
    rfl
theorem ok68g : EntryOK Try.prog 68 F68g := by
  refine EntryOK.of_fn S68g_ok follows_ok Try.func68 (by kernel_rfl) (by kernel_rfl) ?_
  intro args h k out hF
  unfold F68g at hF
  split at hF
  · obtain ⟨hb, hF2⟩ := bif_t hF
    exact ⟨_, _, hF2, fun _ => ⟨L68g, loops68g, rate68 (chk_iff.1 hb)⟩⟩
  · cases hF
end Go.Proofs.Ytfgehfnlkakioaa.VC
