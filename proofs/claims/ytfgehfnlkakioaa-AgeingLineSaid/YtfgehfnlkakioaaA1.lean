/- ageing: what the functions that the law AgeingNone reaches compute at the states that come. -/
import Derived.Test.YtfgehfnlkakioaaUX
namespace Go.Proofs.Ytfgehfnlkakioaa.VC
open Go Go.Proofs

def eqI : Int → Int → Bool
  | .ofNat a, .ofNat b => Nat.beq a b
  | .negSucc a, .negSucc b => Nat.beq a b
  | _, _ => false
def eqLs : List Int → List Int → Bool
  | [], [] => true
  | a :: r, b :: s => eqI a b && eqLs r s
  | _, _ => false
abbrev rest12 : List Int := [0, 0, 0, 0, 0, 0, 0, 0, 0, 0]
abbrev bz : List Int := 0 :: 0 :: 0 :: 0 :: 0 :: 0 :: 0 :: 0 :: rest12
abbrev b0 : List Int := 2147484 :: 0 :: 0 :: 0 :: 0 :: 0 :: 0 :: 0 :: rest12
abbrev b1 : List Int := 2147484 :: 1 :: 0 :: 0 :: 0 :: 0 :: 0 :: 0 :: rest12
abbrev b2 : List Int := 2147484 :: 2 :: 0 :: 0 :: 1800000000000 :: 10 :: 0 :: 0 :: rest12
abbrev b3 : List Int := 2147484 :: 3 :: 0 :: 0 :: 1800000000000 :: 10 :: 3600000000000 :: 20 :: rest12
abbrev bB (own : Bool) (xs : List Int) : Option Blk := some ⟨own, 18, [.ints .i64 18 xs]⟩
def F108 : FSpec := fun args h k => match args, h with
  | [.pointer none], [] => k (.bool true) []
  | [.pointer (some ⟨0, 0, none⟩)], [some ⟨false, 18, [.ints .i64 18 (r :: xs)]⟩] => k (.bool (eqI r 0)) [bB false (r :: xs)]
  | _, _ => none
def F66 : FSpec := fun args h k => match args, h with
  | [.int .i64 r], [] => bif eqI r 2147484 then k (.tuple #[pt 0, w63 0]) [bB true b0] else none
  | _, _ => none
def F67 : FSpec := fun args h k => match args, h with
  | [.pointer none, .int .i64 _, .int .i64 _], [] => k (w63 1) []
  | [.pointer (some ⟨0, 0, none⟩), .int .i64 c, .int .i64 f], [some ⟨true, 18, [.ints .i64 18 xs]⟩] =>
    bif eqLs xs bz then k (w63 1) [bB true xs] else
    bif eqLs xs b0 && eqI c 0 && eqI f 0 then k (w63 0) [bB true b1] else
    bif eqLs xs b1 && eqI c 1800000000000 && eqI f 10 then k (w63 0) [bB true b2] else
    bif eqLs xs b2 && eqI c 3600000000000 && eqI f 20 then k (w63 0) [bB true b3] else
    bif eqLs xs b3 && eqI c 3600000000000 && eqI f 20 then k (w63 10) [bB true b3] else none
  | _, _ => none
def F68 : FSpec := fun args h k => match args, h with
  | [.pointer none], [] => k (w63 0) []
  | [.pointer (some ⟨0, 0, none⟩)], [some ⟨false, 18, [.ints .i64 18 xs]⟩] =>
    bif eqLs xs bz then k (w63 0) [bB false xs] else
    bif eqLs xs b2 then k (w63 0) [bB false xs] else
    bif eqLs xs b3 then k (w63 20) [bB false xs] else none
  | _, _ => none
def F69 : FSpec := fun args h k => match args, h with
  | [.pointer none], [] => k (tupled []) []
  | [.pointer (some ⟨0, 0, none⟩)], [some ⟨true, 18, [.ints .i64 18 xs]⟩] => bif eqLs xs bz then k (tupled []) [bB true xs] else none
  | _, _ => none
def F70 : FSpec := fun args h k => match args, h with
  | [.pointer none], [] => k (w63 0) []
  | [.pointer (some ⟨0, 0, none⟩)], [some ⟨false, 18, [.ints .i64 18 xs]⟩] => bif eqLs xs bz then k (w63 0) [bB false xs] else none
  | _, _ => none
def F71 : FSpec := fun args h k => match args, h with
  | [.pointer none], [] => k (.pointer none) []
  | [.pointer (some ⟨0, 0, none⟩)], [some ⟨false, 18, [.ints .i64 18 xs]⟩] => bif eqLs xs bz then k (.pointer none) [bB false xs] else none
  | _, _ => none
def F109 : FSpec := fun args h k => match args, h with
  | [.pointer (some ⟨0, 0, none⟩), .int .i64 x, .int .i64 y], [some ⟨true, 4, [.ints .i64 4 [a, b, c, d]]⟩] =>
    k (tupled []) [some ⟨true, 4, [.ints .i64 4 [hold (a + x), hold (b + y), hold (c + hold (x * x)), hold (d + hold (x * y))]]⟩]
  | _, _ => none
def F107 : FSpec := fun args h k => match args, h with
  | [.int .i64 f, .int .i64 d, .int .i64 x, .int .i64 r], [] => bif eqI f 5 && eqI d 20 && eqI x 1800000000000 && eqI r 100 then k (w63 15) [] else none
  | _, _ => none
def F65 : FSpec := fun args h k => match args, h with
  | [], [] => k (.bool true) []
  | _, _ => none
--CF cf108n . :: fnK Try.prog (mkS []) noL Try.f108 [.pointer none] []
theorem cf108n  : fnK Try.prog (mkS []) noL Try.f108 [.pointer none] [] =
     (some (Res.ret (Value.bool true) [])) := by kernel_rfl
--CFEND
--CF cf108 (r : Int) (xs : List Int) :: fnK Try.prog (mkS []) noL Try.f108 [pt 0] [bB false (r :: xs)]
theorem cf108 (r : Int) (xs : List Int) : fnK Try.prog (mkS []) noL Try.f108 [pt 0] [bB false (r :: xs)] =
     (some (Res.ret (Value.bool (r == 0)) [some (Blk.mk false 18 [Seg.ints IntKind.i64 18 (r :: xs)])])) := by kernel_rfl
--CFEND
--CF cf66 . :: fnK Try.prog (mkS []) noL Try.f66 [w63 2147484] []
theorem cf66  : fnK Try.prog (mkS []) noL Try.f66 [w63 2147484] [] =
     (some (Res.ret (Value.tuple (Array.mk [Value.pointer (some (Addr.mk 0 0 none)), Value.int IntKind.i64 0])) [some (Blk.mk true 18 [Seg.ints IntKind.i64 18 [2147484, 0, 0, 0, 0, 0, 0, 0, 0, 0, 0, 0, 0,
     0, 0, 0, 0, 0]])])) := by kernel_rfl
--CFEND
def S67 : Spec := mkS [(108, false, F108)]
--CF cf67n (c f : Int) :: fnK Try.prog S67 noL Try.f67 [.pointer none, w63 c, w63 f] []
theorem cf67n (c f : Int) : fnK Try.prog S67 noL Try.f67 [.pointer none, w63 c, w63 f] [] =
     (some (Res.ret (Value.int IntKind.i64 1) [])) := by kernel_rfl
--CFEND
--CF cf67z (c f : Int) :: fnK Try.prog S67 noL Try.f67 [pt 0, w63 c, w63 f] [bB true bz]
theorem cf67z (c f : Int) : fnK Try.prog S67 noL Try.f67 [pt 0, w63 c, w63 f] [bB true bz] =
     (some (Res.ret (Value.int IntKind.i64 1) [some (Blk.mk true 18 [Seg.ints IntKind.i64 18 [0, 0, 0, 0, 0, 0, 0, 0, 0, 0, 0, 0, 0, 0, 0, 0, 0, 0]])])) := by kernel_rfl
--CFEND
--CF cf67a . :: fnK Try.prog S67 noL Try.f67 [pt 0, w63 0, w63 0] [bB true b0]
theorem cf67a  : fnK Try.prog S67 noL Try.f67 [pt 0, w63 0, w63 0] [bB true b0] =
     (some (Res.ret (Value.int IntKind.i64 0) [some (Blk.mk true 18 [Seg.ints IntKind.i64 18 [2147484, 1, 0, 0, 0, 0, 0, 0, 0, 0, 0, 0, 0, 0, 0, 0, 0, 0]])])) := by kernel_rfl
--CFEND
--CF cf67b . :: fnK Try.prog S67 noL Try.f67 [pt 0, w63 1800000000000, w63 10] [bB true b1]
theorem cf67b  : fnK Try.prog S67 noL Try.f67 [pt 0, w63 1800000000000, w63 10] [bB true b1] =
     (some (Res.ret (Value.int IntKind.i64 0) [some (Blk.mk true 18 [Seg.ints IntKind.i64 18 [2147484, 2, 0, 0, 1800000000000, 10, 0, 0, 0, 0, 0, 0, 0, 0, 0, 0, 0, 0]])])) := by kernel_rfl
--CFEND
--CF cf67c . :: fnK Try.prog S67 noL Try.f67 [pt 0, w63 3600000000000, w63 20] [bB true b2]
theorem cf67c  : fnK Try.prog S67 noL Try.f67 [pt 0, w63 3600000000000, w63 20] [bB true b2] =
     (some (Res.ret (Value.int IntKind.i64 0) [some (Blk.mk true 18 [Seg.ints IntKind.i64 18 [2147484, 3, 0, 0, 1800000000000, 10, 3600000000000, 20, 0, 0, 0, 0, 0, 0, 0, 0, 0, 0]])])) := by kernel_rfl
--CFEND
--CF cf67d . :: fnK Try.prog S67 noL Try.f67 [pt 0, w63 3600000000000, w63 20] [bB true b3]
theorem cf67d  : fnK Try.prog S67 noL Try.f67 [pt 0, w63 3600000000000, w63 20] [bB true b3] =
     (some (Res.ret (Value.int IntKind.i64 10) [some (Blk.mk true 18 [Seg.ints IntKind.i64 18 [2147484, 3, 0, 0, 1800000000000, 10, 3600000000000, 20, 0, 0, 0, 0, 0, 0, 0, 0, 0, 0]])])) := by kernel_rfl
--CFEND
--CF cf69n . :: fnK Try.prog S67 noL Try.f69 [.pointer none] []
theorem cf69n  : fnK Try.prog S67 noL Try.f69 [.pointer none] [] =
     (some (Res.ret (Value.tuple (Array.mk [])) [])) := by kernel_rfl
--CFEND
--CF cf69z . :: fnK Try.prog S67 noL Try.f69 [pt 0] [bB true bz]
theorem cf69z  : fnK Try.prog S67 noL Try.f69 [pt 0] [bB true bz] =
     (some (Res.ret (Value.tuple (Array.mk [])) [some (Blk.mk true 18 [Seg.ints IntKind.i64 18 [0, 0, 0, 0, 0, 0, 0, 0, 0, 0, 0, 0, 0, 0, 0, 0, 0, 0]])])) := by kernel_rfl
--CFEND
--CF cf70n . :: fnK Try.prog S67 noL Try.f70 [.pointer none] []
theorem cf70n  : fnK Try.prog S67 noL Try.f70 [.pointer none] [] =
     (some (Res.ret (Value.int IntKind.i64 0) [])) := by kernel_rfl
--CFEND
--CF cf70z . :: fnK Try.prog S67 noL Try.f70 [pt 0] [bB false bz]
theorem cf70z  : fnK Try.prog S67 noL Try.f70 [pt 0] [bB false bz] =
     (some (Res.ret (Value.int IntKind.i64 0) [some (Blk.mk false 18 [Seg.ints IntKind.i64 18 [0, 0, 0, 0, 0, 0, 0, 0, 0, 0, 0, 0, 0, 0, 0, 0, 0, 0]])])) := by kernel_rfl
--CFEND
--CF cf71n . :: fnK Try.prog S67 noL Try.f71 [.pointer none] []
theorem cf71n  : fnK Try.prog S67 noL Try.f71 [.pointer none] [] =
     (some (Res.ret (Value.pointer none) [])) := by kernel_rfl
--CFEND
--CF cf71z . :: fnK Try.prog S67 noL Try.f71 [pt 0] [bB false bz]
theorem cf71z  : fnK Try.prog S67 noL Try.f71 [pt 0] [bB false bz] =
     (some (Res.ret (Value.pointer none) [some (Blk.mk false 18 [Seg.ints IntKind.i64 18 [0, 0, 0, 0, 0, 0, 0, 0, 0, 0, 0, 0, 0, 0, 0, 0, 0, 0]])])) := by kernel_rfl
--CFEND
def S107 : Spec := mkS [(19, false, F19), (23, false, F23), (34, false, F34)]
--CF cf107 . :: fnK Try.prog S107 noL Try.f107 [w63 5, w63 20, w63 1800000000000, w63 100] []
theorem cf107  : fnK Try.prog S107 noL Try.f107 [w63 5, w63 20, w63 1800000000000, w63 100] [] =
     (some (Res.ret (Value.int IntKind.i64 15) [])) := by kernel_rfl
--CFEND
def S109 : Spec := mkS [(23, false, F23), (24, false, F24)]
--CF cf109 (x y a b c d : Int) :: fnK Try.prog S109 noL Try.f109 [pt 0, w63 x, w63 y] [some ⟨true, 4, [.ints .i64 4 [a, b, c, d]]⟩]
theorem cf109 (x y a b c d : Int) : fnK Try.prog S109 noL Try.f109 [pt 0, w63 x, w63 y] [some ⟨true, 4, [.ints .i64 4 [a, b, c, d]]⟩] =
     (some (Res.ret (Value.tuple (Array.mk [])) [some (Blk.mk true 4 [Seg.ints IntKind.i64 4 [hold (a + x), hold (b + y), hold (c + hold (x * x)), hold (d + hold (x * y))]])])) := by kernel_rfl
--CFEND
def S68 : Spec := mkS [(19, false, F19), (24, false, F24), (25, false, F25), (34, false, F34), (108, false, F108), (109, true, F109)]
def live68 : List Nat := [0, 3, 25, 26, 27]
abbrev sl68 : Value := .slice (some ⟨0, 2, none⟩) 3 2
abbrev st68 (q : Int) : List Value := [pt 0, pt 1, sl68, w63 3, w63 q]
abbrev sB (a b c d : Int) : Option Blk := some ⟨true, 4, [.ints .i64 4 [a, b, c, d]]⟩
--CF cf68r0 (on : List Value → Heap → Out) (out : Exit → List Value → Heap → Out) :: roundK Try.prog S68 noL Try.f68.ntmps 1 (loopOf Try.f68 0) live68 (st68 0) [bB false b3, sB 0 0 0 0] on out
theorem cf68r0 (on : List Value → Heap → Out) (out : Exit → List Value → Heap → Out) : roundK Try.prog S68 noL Try.f68.ntmps 1 (loopOf Try.f68 0) live68 (st68 0) [bB false b3, sB 0 0 0 0] on out =
     (on [Value.pointer (some (Addr.mk 0 0 none)), Value.pointer (some (Addr.mk 1 0 none)), Value.slice (some (Addr.mk 0 2 none)) 3 2, Value.int IntKind.i64 3, Value.int IntKind.i64 1] [some (Blk.mk false
     18 [Seg.ints IntKind.i64 18 b3]), some (Blk.mk true 4 [Seg.ints IntKind.i64 4 [0, 0, 0, 0]])]) := by kernel_rfl
--CFEND
--CF cf68r1 (on : List Value → Heap → Out) (out : Exit → List Value → Heap → Out) :: roundK Try.prog S68 noL Try.f68.ntmps 1 (loopOf Try.f68 0) live68 (st68 1) [bB false b3, sB 0 0 0 0] on out
theorem cf68r1 (on : List Value → Heap → Out) (out : Exit → List Value → Heap → Out) : roundK Try.prog S68 noL Try.f68.ntmps 1 (loopOf Try.f68 0) live68 (st68 1) [bB false b3, sB 0 0 0 0] on out =
     (on [Value.pointer (some (Addr.mk 0 0 none)), Value.pointer (some (Addr.mk 1 0 none)), Value.slice (some (Addr.mk 0 2 none)) 3 2, Value.int IntKind.i64 3, Value.int IntKind.i64 2] [some (Blk.mk false
     18 [Seg.ints IntKind.i64 18 b3]), some (Blk.mk true 4 [Seg.ints IntKind.i64 4 [1800, 10, 3240000, 18000]])]) := by kernel_rfl
--CFEND
--CF cf68r2 (on : List Value → Heap → Out) (out : Exit → List Value → Heap → Out) :: roundK Try.prog S68 noL Try.f68.ntmps 1 (loopOf Try.f68 0) live68 (st68 2) [bB false b3, sB 1800 10 3240000 18000] on out
theorem cf68r2 (on : List Value → Heap → Out) (out : Exit → List Value → Heap → Out) : roundK Try.prog S68 noL Try.f68.ntmps 1 (loopOf Try.f68 0) live68 (st68 2) [bB false b3, sB 1800 10 3240000 18000] on out =
     (on [Value.pointer (some (Addr.mk 0 0 none)), Value.pointer (some (Addr.mk 1 0 none)), Value.slice (some (Addr.mk 0 2 none)) 3 2, Value.int IntKind.i64 3, Value.int IntKind.i64 3] [some (Blk.mk false
     18 [Seg.ints IntKind.i64 18 b3]), some (Blk.mk true 4 [Seg.ints IntKind.i64 4 [5400, 30, 16200000, 90000]])]) := by kernel_rfl
--CFEND
--CF cf68r3 (on : List Value → Heap → Out) (out : Exit → List Value → Heap → Out) :: roundK Try.prog S68 noL Try.f68.ntmps 1 (loopOf Try.f68 0) live68 (st68 3) [bB false b3, sB 5400 30 16200000 90000] on out
theorem cf68r3 (on : List Value → Heap → Out) (out : Exit → List Value → Heap → Out) : roundK Try.prog S68 noL Try.f68.ntmps 1 (loopOf Try.f68 0) live68 (st68 3) [bB false b3, sB 5400 30 16200000 90000] on out =
     (out (Exit.exit 0) [Value.pointer (some (Addr.mk 0 0 none)), Value.pointer (some (Addr.mk 1 0 none)), Value.slice (some (Addr.mk 0 2 none)) 3 2, Value.int IntKind.i64 3, Value.int IntKind.i64 3] [some
     (Blk.mk false 18 [Seg.ints IntKind.i64 18 b3]), some (Blk.mk true 4 [Seg.ints IntKind.i64 4 [5400, 30, 16200000, 90000]])]) := by kernel_rfl
--CFEND
def L68f : LF := fun vs h k => match vs, h with
  | [.pointer (some ⟨0, 0, none⟩), .pointer (some ⟨1, 0, none⟩), .slice (some ⟨0, 2, none⟩) 3 2, .int .i64 3, .int .i64 0], [some ⟨false, 18, [.ints .i64 18 xs]⟩, some ⟨true, 4, [.ints .i64 4 ys]⟩] =>
    bif eqLs xs b3 && eqLs ys [0, 0, 0, 0] then k (.exit 0) (st68 3) [bB false b3, sB 5400 30 16200000 90000] else none
  | _, _ => none
def L68 : LSpec := oneL 5 live68 L68f
--CF cf68n . :: fnK Try.prog S68 noL Try.f68 [.pointer none] []
theorem cf68n  : fnK Try.prog S68 noL Try.f68 [.pointer none] [] =
     (some (Res.ret (Value.int IntKind.i64 0) [])) := by kernel_rfl
--CFEND
--CF cf68z . :: fnK Try.prog S68 noL Try.f68 [pt 0] [bB false bz]
theorem cf68z  : fnK Try.prog S68 noL Try.f68 [pt 0] [bB false bz] =
     (some (Res.ret (Value.int IntKind.i64 0) [some (Blk.mk false 18 [Seg.ints IntKind.i64 18 [0, 0, 0, 0, 0, 0, 0, 0, 0, 0, 0, 0, 0, 0, 0, 0, 0, 0]])])) := by kernel_rfl
--CFEND
--CF cf68c . :: fnK Try.prog S68 noL Try.f68 [pt 0] [bB false b2]
theorem cf68c  : fnK Try.prog S68 noL Try.f68 [pt 0] [bB false b2] =
     (some (Res.ret (Value.int IntKind.i64 0) [some (Blk.mk false 18 [Seg.ints IntKind.i64 18 [2147484, 2, 0, 0, 1800000000000, 10, 0, 0, 0, 0, 0, 0, 0, 0, 0, 0, 0, 0]])])) := by kernel_rfl
--CFEND
--CF cf68d . :: fnK Try.prog S68 L68 Try.f68 [pt 0] [bB false b3]
theorem cf68d  : fnK Try.prog S68 L68 Try.f68 [pt 0] [bB false b3] =
     (some (Res.ret (Value.int IntKind.i64 20) [some (Blk.mk false 18 [Seg.ints IntKind.i64 18 [2147484, 3, 0, 0, 1800000000000, 10, 3600000000000, 20, 0, 0, 0, 0, 0, 0, 0, 0, 0, 0]])])) := by kernel_rfl
--CFEND
def S65 : Spec := mkS [(66, false, F66), (67, true, F67), (68, false, F68), (107, false, F107)]
--CF cf65 . :: fnK Try.prog S65 noL Try.f65 [] []
theorem cf65  : fnK Try.prog S65 noL Try.f65 [] [] =
     (some (Res.ret (Value.bool true) [])) := by kernel_rfl
--CFEND
def S16 : Spec := mkS [(65, false, F65), (67, true, F67), (68, false, F68), (69, true, F69), (70, false, F70), (71, false, F71)]
def live16 : List Nat := [0, 1, 4, 9, 10, 11]
abbrev st16 (c f q : Int) : List Value := [w63 c, w63 f, .bool false, .slice (some ⟨0, 0, none⟩) 2 0, w63 2, w63 q]
abbrev pB : Option Blk := some ⟨true, 1, [.vals [.pointer none, pt 1]]⟩
--CF cf16r0 (c f : Int) (on : List Value → Heap → Out) (out : Exit → List Value → Heap → Out) :: roundK Try.prog S16 noL Try.f16.ntmps 0 (loopOf Try.f16 0) live16 (st16 c f 0) [pB, bB true bz] on out
theorem cf16r0 (c f : Int) (on : List Value → Heap → Out) (out : Exit → List Value → Heap → Out) : roundK Try.prog S16 noL Try.f16.ntmps 0 (loopOf Try.f16 0) live16 (st16 c f 0) [pB, bB true bz] on out =
     (on [Value.int IntKind.i64 c, Value.int IntKind.i64 f, Value.bool false, Value.slice (some (Addr.mk 0 0 none)) 2 0, Value.int IntKind.i64 2, Value.int IntKind.i64 1] [some (Blk.mk true 1 [Seg.vals
     [Value.pointer none, Value.pointer (some (Addr.mk 1 0 none))]]), some (Blk.mk true 18 [Seg.ints IntKind.i64 18 bz])]) := by kernel_rfl
--CFEND
--CF cf16r1 (c f : Int) (on : List Value → Heap → Out) (out : Exit → List Value → Heap → Out) :: roundK Try.prog S16 noL Try.f16.ntmps 0 (loopOf Try.f16 0) live16 (st16 c f 1) [pB, bB true bz] on out
theorem cf16r1 (c f : Int) (on : List Value → Heap → Out) (out : Exit → List Value → Heap → Out) : roundK Try.prog S16 noL Try.f16.ntmps 0 (loopOf Try.f16 0) live16 (st16 c f 1) [pB, bB true bz] on out =
     (on [Value.int IntKind.i64 c, Value.int IntKind.i64 f, Value.bool false, Value.slice (some (Addr.mk 0 0 none)) 2 0, Value.int IntKind.i64 2, Value.int IntKind.i64 2] [some (Blk.mk true 1 [Seg.vals
     [Value.pointer none, Value.pointer (some (Addr.mk 1 0 none))]]), some (Blk.mk true 18 [Seg.ints IntKind.i64 18 bz])]) := by kernel_rfl
--CFEND
--CF cf16r2 (c f : Int) (on : List Value → Heap → Out) (out : Exit → List Value → Heap → Out) :: roundK Try.prog S16 noL Try.f16.ntmps 0 (loopOf Try.f16 0) live16 (st16 c f 2) [pB, bB true bz] on out
theorem cf16r2 (c f : Int) (on : List Value → Heap → Out) (out : Exit → List Value → Heap → Out) : roundK Try.prog S16 noL Try.f16.ntmps 0 (loopOf Try.f16 0) live16 (st16 c f 2) [pB, bB true bz] on out =
     (out (Exit.exit 0) [Value.int IntKind.i64 c, Value.int IntKind.i64 f, Value.bool false, Value.slice (some (Addr.mk 0 0 none)) 2 0, Value.int IntKind.i64 2, Value.int IntKind.i64 2] [some (Blk.mk true
     1 [Seg.vals [Value.pointer none, Value.pointer (some (Addr.mk 1 0 none))]]), some (Blk.mk true 18 [Seg.ints IntKind.i64 18 bz])]) := by kernel_rfl
--CFEND
def L16f : LF := fun vs h k => match vs, h with
  | [.int .i64 c, .int .i64 f, .bool false, .slice (some ⟨0, 0, none⟩) 2 0, .int .i64 2, .int .i64 0], [some ⟨true, 1, [.vals [.pointer none, .pointer (some ⟨1, 0, none⟩)]]⟩, some ⟨true, 18, [.ints .i64 18 xs]⟩] =>
    bif eqLs xs bz then k (.exit 0) (st16 c f 2) [pB, bB true bz] else none
  | _, _ => none
def L16 : LSpec := oneL 3 live16 L16f
--CF cf16 (c f : Int) :: fnK Try.prog S16 L16 Try.f16 [w63 c, w63 f] []
theorem cf16 (c f : Int) : fnK Try.prog S16 L16 Try.f16 [w63 c, w63 f] [] =
     (some (Res.ret (Value.bool true) [])) := by kernel_rfl
--CFEND


theorem eqI_iff {a b : Int} (h : eqI a b = true) : a = b := by
  cases a <;> cases b <;> simp only [eqI] at h
  · rw [beq_true h]
  · cases h
  · cases h
  · rw [beq_true h]
theorem eqLs_iff : ∀ {a b : List Int}, eqLs a b = true → a = b
  | [], [], _ => rfl
  | [], _ :: _, h => by cases h
  | _ :: _, [], h => by cases h
  | x :: r, y :: s, h => by
    simp only [eqLs, Bool.and_eq_true] at h
    rw [eqI_iff h.1, eqLs_iff h.2]
theorem eqI_beq (a b : Int) : (a == b) = eqI a b := by
  cases hb : eqI a b with
  | true => rw [eqI_iff hb]; simp
  | false =>
    have : a ≠ b := fun e => by
      subst e
      cases a <;> simp [eqI] at hb
    simpa using this

theorem ok108 : EntryOK Try.prog 108 F108 := by
  refine EntryOK.of_fn (mkS_nil _) follows_ok Try.func108 (by kernel_rfl) (by kernel_rfl) ?_
  intro args h k out hF
  unfold F108 at hF
  split at hF
  · exact ⟨_, _, hF, fun _ => ⟨noL, noL_ok, cf108n⟩⟩
  · exact ⟨_, _, hF, fun _ => ⟨noL, noL_ok, by rw [cf108, eqI_beq]⟩⟩
  · cases hF
theorem ok66 : EntryOK Try.prog 66 F66 := by
  refine EntryOK.of_fn (mkS_nil _) follows_ok Try.func66 (by kernel_rfl) (by kernel_rfl) ?_
  intro args h k out hF
  unfold F66 at hF
  split at hF
  · obtain ⟨h1, hF⟩ := bif_t hF
    cases eqI_iff h1
    exact ⟨_, _, hF, fun _ => ⟨noL, noL_ok, cf66⟩⟩
  · cases hF
theorem S67_ok : SpecOK Try.prog S67 := mkS_cons ok108 (mkS_nil _)
theorem ok67 : EntryOK Try.prog 67 F67 := by
  refine EntryOK.of_fn S67_ok follows_ok Try.func67 (by kernel_rfl) (by kernel_rfl) ?_
  intro args h k out hF
  unfold F67 at hF
  split at hF
  · exact ⟨_, _, hF, fun _ => ⟨noL, noL_ok, cf67n ..⟩⟩
  · rcases bif_some hF with ⟨h1, hF⟩ | ⟨_, hF⟩
    · cases eqLs_iff h1
      exact ⟨_, _, hF, fun _ => ⟨noL, noL_ok, cf67z ..⟩⟩
    rcases bif_some hF with ⟨h1, hF⟩ | ⟨_, hF⟩
    · simp only [Bool.and_eq_true] at h1
      cases eqLs_iff h1.1.1; cases eqI_iff h1.1.2; cases eqI_iff h1.2
      exact ⟨_, _, hF, fun _ => ⟨noL, noL_ok, cf67a⟩⟩
    rcases bif_some hF with ⟨h1, hF⟩ | ⟨_, hF⟩
    · simp only [Bool.and_eq_true] at h1
      cases eqLs_iff h1.1.1; cases eqI_iff h1.1.2; cases eqI_iff h1.2
      exact ⟨_, _, hF, fun _ => ⟨noL, noL_ok, cf67b⟩⟩
    rcases bif_some hF with ⟨h1, hF⟩ | ⟨_, hF⟩
    · simp only [Bool.and_eq_true] at h1
      cases eqLs_iff h1.1.1; cases eqI_iff h1.1.2; cases eqI_iff h1.2
      exact ⟨_, _, hF, fun _ => ⟨noL, noL_ok, cf67c⟩⟩
    obtain ⟨h1, hF⟩ := bif_t hF
    simp only [Bool.and_eq_true] at h1
    cases eqLs_iff h1.1.1; cases eqI_iff h1.1.2; cases eqI_iff h1.2
    exact ⟨_, _, hF, fun _ => ⟨noL, noL_ok, cf67d⟩⟩
  · cases hF
theorem ok69 : EntryOK Try.prog 69 F69 := by
  refine EntryOK.of_fn S67_ok follows_ok Try.func69 (by kernel_rfl) (by kernel_rfl) ?_
  intro args h k out hF
  unfold F69 at hF
  split at hF
  · exact ⟨_, _, hF, fun _ => ⟨noL, noL_ok, cf69n⟩⟩
  · obtain ⟨h1, hF⟩ := bif_t hF
    cases eqLs_iff h1
    exact ⟨_, _, hF, fun _ => ⟨noL, noL_ok, cf69z⟩⟩
  · cases hF
theorem ok70 : EntryOK Try.prog 70 F70 := by
  refine EntryOK.of_fn S67_ok follows_ok Try.func70 (by kernel_rfl) (by kernel_rfl) ?_
  intro args h k out hF
  unfold F70 at hF
  split at hF
  · exact ⟨_, _, hF, fun _ => ⟨noL, noL_ok, cf70n⟩⟩
  · obtain ⟨h1, hF⟩ := bif_t hF
    cases eqLs_iff h1
    exact ⟨_, _, hF, fun _ => ⟨noL, noL_ok, cf70z⟩⟩
  · cases hF
theorem ok71 : EntryOK Try.prog 71 F71 := by
  refine EntryOK.of_fn S67_ok follows_ok Try.func71 (by kernel_rfl) (by kernel_rfl) ?_
  intro args h k out hF
  unfold F71 at hF
  split at hF
  · exact ⟨_, _, hF, fun _ => ⟨noL, noL_ok, cf71n⟩⟩
  · obtain ⟨h1, hF⟩ := bif_t hF
    cases eqLs_iff h1
    exact ⟨_, _, hF, fun _ => ⟨noL, noL_ok, cf71z⟩⟩
  · cases hF
theorem S107_ok : SpecOK Try.prog S107 := mkS_cons ok19 (mkS_cons ok23 (mkS_cons ok34 (mkS_nil _)))
theorem ok107 : EntryOK Try.prog 107 F107 := by
  refine EntryOK.of_fn S107_ok follows_ok Try.func107 (by kernel_rfl) (by kernel_rfl) ?_
  intro args h k out hF
  unfold F107 at hF
  split at hF
  · obtain ⟨h1, hF⟩ := bif_t hF
    simp only [Bool.and_eq_true] at h1
    cases eqI_iff h1.1.1.1; cases eqI_iff h1.1.1.2; cases eqI_iff h1.1.2; cases eqI_iff h1.2
    exact ⟨_, _, hF, fun _ => ⟨noL, noL_ok, cf107⟩⟩
  · cases hF
theorem S109_ok : SpecOK Try.prog S109 := mkS_cons ok23 (mkS_cons ok24 (mkS_nil _))
theorem ok109 : EntryOK Try.prog 109 F109 := by
  refine EntryOK.of_fn S109_ok follows_ok Try.func109 (by kernel_rfl) (by kernel_rfl) ?_
  intro args h k out hF
  unfold F109 at hF
  split at hF
  · exact ⟨_, _, hF, fun _ => ⟨noL, noL_ok, cf109 ..⟩⟩
  · cases hF
theorem S68_ok : SpecOK Try.prog S68 := mkS_cons ok19 (mkS_cons ok24 (mkS_cons ok25 (mkS_cons ok34 (mkS_cons ok108 (mkS_cons ok109 (mkS_nil _))))))
theorem loopOK68 : LoopOK Try.prog Try.f68.ntmps 1 (loopOf Try.f68 0) live68 L68f := by
  refine LoopOK.of_rounds S68_ok follows_ok (L := noL) noL_ok ?_
  intro vs h k out hk
  unfold L68f at hk
  split at hk
  · obtain ⟨h1, hk⟩ := bif_t hk
    simp only [Bool.and_eq_true] at h1
    cases eqLs_iff h1.1; cases eqLs_iff h1.2
    refine ⟨_, _, _, hk, fun _ => ⟨4, ?_⟩⟩
    refine (loopN_succ ..).trans ((cf68r0 ..).trans ((loopN_succ ..).trans ((cf68r1 ..).trans ((loopN_succ ..).trans ((cf68r2 ..).trans ((loopN_succ ..).trans (cf68r3 ..)))))))
  · cases hk
theorem loops68 : LoopsOK Try.prog L68 Try.f68.ntmps 1 (bodyOf Try.f68) := loops_one rfl (by kernel_rfl) loopOK68
theorem ok68 : EntryOK Try.prog 68 F68 := by
  refine EntryOK.of_fn S68_ok follows_ok Try.func68 (by kernel_rfl) (by kernel_rfl) ?_
  intro args h k out hF
  unfold F68 at hF
  split at hF
  · exact ⟨_, _, hF, fun _ => ⟨noL, noL_ok, cf68n⟩⟩
  · rcases bif_some hF with ⟨h1, hF⟩ | ⟨_, hF⟩
    · cases eqLs_iff h1
      exact ⟨_, _, hF, fun _ => ⟨noL, noL_ok, cf68z⟩⟩
    rcases bif_some hF with ⟨h1, hF⟩ | ⟨_, hF⟩
    · cases eqLs_iff h1
      exact ⟨_, _, hF, fun _ => ⟨noL, noL_ok, cf68c⟩⟩
    obtain ⟨h1, hF⟩ := bif_t hF
    cases eqLs_iff h1
    exact ⟨_, _, hF, fun _ => ⟨L68, loops68, cf68d⟩⟩
  · cases hF
theorem S65_ok : SpecOK Try.prog S65 := mkS_cons ok66 (mkS_cons ok67 (mkS_cons ok68 (mkS_cons ok107 (mkS_nil _))))
theorem ok65 : EntryOK Try.prog 65 F65 := by
  refine EntryOK.of_fn S65_ok follows_ok Try.func65 (by kernel_rfl) (by kernel_rfl) ?_
  intro args h k out hF
  unfold F65 at hF
  split at hF
  · exact ⟨_, _, hF, fun _ => ⟨noL, noL_ok, cf65⟩⟩
  · cases hF
theorem S16_ok : SpecOK Try.prog S16 := mkS_cons ok65 (mkS_cons ok67 (mkS_cons ok68 (mkS_cons ok69 (mkS_cons ok70 (mkS_cons ok71 (mkS_nil _))))))
theorem loopOK16 : LoopOK Try.prog Try.f16.ntmps 0 (loopOf Try.f16 0) live16 L16f := by
  refine LoopOK.of_rounds S16_ok follows_ok (L := noL) noL_ok ?_
  intro vs h k out hk
  unfold L16f at hk
  split at hk
  · obtain ⟨h1, hk⟩ := bif_t hk
    cases eqLs_iff h1
    refine ⟨_, _, _, hk, fun _ => ⟨3, ?_⟩⟩
    refine (loopN_succ ..).trans ((cf16r0 ..).trans ((loopN_succ ..).trans ((cf16r1 ..).trans ((loopN_succ ..).trans (cf16r2 ..)))))
  · cases hk
theorem loops16 : LoopsOK Try.prog L16 Try.f16.ntmps 0 (bodyOf Try.f16) := loops_one rfl (by kernel_rfl) loopOK16
def F16 : FSpec := fun args h k => match args, h with
  | [.int .i64 _, .int .i64 _], [] => k (.bool true) []
  | _, _ => none
theorem ok16 : EntryOK Try.prog 16 F16 := by
  refine EntryOK.of_fn S16_ok follows_ok Try.func16 (by kernel_rfl) (by kernel_rfl) ?_
  intro args h k out hF
  unfold F16 at hF
  split at hF
  · exact ⟨_, _, hF, fun _ => ⟨L16, loops16, cf16 ..⟩⟩
  · cases hF
end Go.Proofs.Ytfgehfnlkakioaa.VC
