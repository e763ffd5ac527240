/- sample: the law's known; SampleTaken. -/
import Derived.Test.YtfgehfnlkakioaaW3
namespace Go.Proofs.Ytfgehfnlkakioaa.VC
open Go Go.Proofs

noncomputable def S59 : Spec := mkS [(60, false, F60)]
def live59 : List Nat := [0, 1, 3, 4, 5, 20]
abbrev cB (n c t : Int) : Option Blk := some ⟨true, 3, [.ints .i64 3 [n, c, t]]⟩
abbrev aB : Option Blk := some ⟨true, 4, [.ints .u8 4 [2, 2, 2, 3]]⟩
abbrev st59 (q : Int) : List Value := [.bool false, .int .u8 1, w63 0, pt 0, pt 1, w63 q]
--CF cf59r0 (on : List Value → Heap → Out) (out : Exit → List Value → Heap → Out) :: roundK Try.prog S59 noL Try.f59.ntmps 0 (loopOf Try.f59 0) live59 (st59 0) [cB 0 0 0, aB] on out
theorem cf59r0 (on : List Value → Heap → Out) (out : Exit → List Value → Heap → Out) : roundK Try.prog S59 noL Try.f59.ntmps 0 (loopOf Try.f59 0) live59 (st59 0) [cB 0 0 0, aB] on out =
     (bif mayO 100 0 1000000000000000000 500 0 0 1000000005000000000 100 4 then bif takenB 0 1000000000000000000 500 1000000005000000000 100 then out Exit.ret [Value.bool false, Value.int IntKind.u8 1,
     Value.int IntKind.i64 0, Value.pointer (some (Addr.mk 0 0 none)), Value.pointer (some (Addr.mk 1 0 none)), Value.int IntKind.i64 0] [some (Blk.mk true 3 [Seg.ints IntKind.i64 3 [0, 0, 0]]), some
     (Blk.mk true 4 [Seg.ints IntKind.u8 4 [2, 2, 2, 3]])] else bif followsB 100 0 0 0 0 1000000005000000000 100 then on [Value.bool false, Value.int IntKind.u8 1, Value.int IntKind.i64 0, Value.pointer
     (some (Addr.mk 0 0 none)), Value.pointer (some (Addr.mk 1 0 none)), Value.int IntKind.i64 1] [some (Blk.mk true 3 [Seg.ints IntKind.i64 3 ((([0, 0, 0].set 0 1).set 1 0).set 2 1000000005000000000)]),
     some (Blk.mk true 4 [Seg.ints IntKind.u8 4 [2, 2, 2, 3]])] else on [Value.bool false, Value.int IntKind.u8 1, Value.int IntKind.i64 0, Value.pointer (some (Addr.mk 0 0 none)), Value.pointer (some
     (Addr.mk 1 0 none)), Value.int IntKind.i64 1] [some (Blk.mk true 3 [Seg.ints IntKind.i64 3 ((([0, 0, 0].set 0 1).set 1 0).set 2 1000000005000000000)]), some (Blk.mk true 4 [Seg.ints IntKind.u8 4 [2,
     2, 2, 3]])] else out Exit.ret [Value.bool false, Value.int IntKind.u8 1, Value.int IntKind.i64 0, Value.pointer (some (Addr.mk 0 0 none)), Value.pointer (some (Addr.mk 1 0 none)), Value.int
     IntKind.i64 0] [some (Blk.mk true 3 [Seg.ints IntKind.i64 3 [0, 0, 0]]), some (Blk.mk true 4 [Seg.ints IntKind.u8 4 [2, 2, 2, 3]])]) := by kernel_rfl
--CFEND
--CF cf59r1 (on : List Value → Heap → Out) (out : Exit → List Value → Heap → Out) :: roundK Try.prog S59 noL Try.f59.ntmps 0 (loopOf Try.f59 0) live59 (st59 1) [cB 1 0 1000000005000000000, aB] on out
theorem cf59r1 (on : List Value → Heap → Out) (out : Exit → List Value → Heap → Out) : roundK Try.prog S59 noL Try.f59.ntmps 0 (loopOf Try.f59 0) live59 (st59 1) [cB 1 0 1000000005000000000, aB] on out =
     (bif mayO 100 0 1000000001000000000 500 1 1000000000 1000000006000000000 100 4 then bif takenB 0 1000000001000000000 500 1000000006000000000 100 then out Exit.ret [Value.bool false, Value.int
     IntKind.u8 1, Value.int IntKind.i64 0, Value.pointer (some (Addr.mk 0 0 none)), Value.pointer (some (Addr.mk 1 0 none)), Value.int IntKind.i64 1] [some (Blk.mk true 3 [Seg.ints IntKind.i64 3 [1, 0,
     1000000005000000000]]), some (Blk.mk true 4 [Seg.ints IntKind.u8 4 [2, 2, 2, 3]])] else bif followsB 100 1 0 1000000005000000000 1000000000 1000000006000000000 100 then on [Value.bool false, Value.int
     IntKind.u8 1, Value.int IntKind.i64 0, Value.pointer (some (Addr.mk 0 0 none)), Value.pointer (some (Addr.mk 1 0 none)), Value.int IntKind.i64 2] [some (Blk.mk true 3 [Seg.ints IntKind.i64 3 ((([1, 0,
     1000000005000000000].set 0 2).set 1 1000000000).set 2 1000000006000000000)]), some (Blk.mk true 4 [Seg.ints IntKind.u8 4 [2, 2, 2, 3]])] else out Exit.ret [Value.bool false, Value.int IntKind.u8 1,
     Value.int IntKind.i64 0, Value.pointer (some (Addr.mk 0 0 none)), Value.pointer (some (Addr.mk 1 0 none)), Value.int IntKind.i64 1] [some (Blk.mk true 3 [Seg.ints IntKind.i64 3 [1, 0,
     1000000005000000000]]), some (Blk.mk true 4 [Seg.ints IntKind.u8 4 [2, 2, 2, 3]])] else out Exit.ret [Value.bool false, Value.int IntKind.u8 1, Value.int IntKind.i64 0, Value.pointer (some (Addr.mk 0
     0 none)), Value.pointer (some (Addr.mk 1 0 none)), Value.int IntKind.i64 1] [some (Blk.mk true 3 [Seg.ints IntKind.i64 3 [1, 0, 1000000005000000000]]), some (Blk.mk true 4 [Seg.ints IntKind.u8 4 [2,
     2, 2, 3]])]) := by kernel_rfl
--CFEND
--CF cf59r2 (on : List Value → Heap → Out) (out : Exit → List Value → Heap → Out) :: roundK Try.prog S59 noL Try.f59.ntmps 0 (loopOf Try.f59 0) live59 (st59 2) [cB 2 1000000000 1000000006000000000, aB] on out
theorem cf59r2 (on : List Value → Heap → Out) (out : Exit → List Value → Heap → Out) : roundK Try.prog S59 noL Try.f59.ntmps 0 (loopOf Try.f59 0) live59 (st59 2) [cB 2 1000000000 1000000006000000000, aB] on out =
     (bif mayO 100 0 1000000002000000000 500 2 2000000000 1000000007000000000 100 4 then bif takenB 0 1000000002000000000 500 1000000007000000000 100 then out Exit.ret [Value.bool false, Value.int
     IntKind.u8 1, Value.int IntKind.i64 0, Value.pointer (some (Addr.mk 0 0 none)), Value.pointer (some (Addr.mk 1 0 none)), Value.int IntKind.i64 2] [some (Blk.mk true 3 [Seg.ints IntKind.i64 3 [2,
     1000000000, 1000000006000000000]]), some (Blk.mk true 4 [Seg.ints IntKind.u8 4 [2, 2, 2, 3]])] else bif followsB 100 2 1000000000 1000000006000000000 2000000000 1000000007000000000 100 then on
     [Value.bool false, Value.int IntKind.u8 1, Value.int IntKind.i64 0, Value.pointer (some (Addr.mk 0 0 none)), Value.pointer (some (Addr.mk 1 0 none)), Value.int IntKind.i64 3] [some (Blk.mk true 3
     [Seg.ints IntKind.i64 3 ((([2, 1000000000, 1000000006000000000].set 0 3).set 1 2000000000).set 2 1000000007000000000)]), some (Blk.mk true 4 [Seg.ints IntKind.u8 4 [2, 2, 2, 3]])] else out Exit.ret
     [Value.bool false, Value.int IntKind.u8 1, Value.int IntKind.i64 0, Value.pointer (some (Addr.mk 0 0 none)), Value.pointer (some (Addr.mk 1 0 none)), Value.int IntKind.i64 2] [some (Blk.mk true 3
     [Seg.ints IntKind.i64 3 [2, 1000000000, 1000000006000000000]]), some (Blk.mk true 4 [Seg.ints IntKind.u8 4 [2, 2, 2, 3]])] else out Exit.ret [Value.bool false, Value.int IntKind.u8 1, Value.int
     IntKind.i64 0, Value.pointer (some (Addr.mk 0 0 none)), Value.pointer (some (Addr.mk 1 0 none)), Value.int IntKind.i64 2] [some (Blk.mk true 3 [Seg.ints IntKind.i64 3 [2, 1000000000,
     1000000006000000000]]), some (Blk.mk true 4 [Seg.ints IntKind.u8 4 [2, 2, 2, 3]])]) := by kernel_rfl
--CFEND
--CF cf59r3 (on : List Value → Heap → Out) (out : Exit → List Value → Heap → Out) :: roundK Try.prog S59 noL Try.f59.ntmps 0 (loopOf Try.f59 0) live59 (st59 3) [cB 3 2000000000 1000000007000000000, aB] on out
theorem cf59r3 (on : List Value → Heap → Out) (out : Exit → List Value → Heap → Out) : roundK Try.prog S59 noL Try.f59.ntmps 0 (loopOf Try.f59 0) live59 (st59 3) [cB 3 2000000000 1000000007000000000, aB] on out =
     (bif mayO 100 0 1000000003000000000 500 3 3000000000 1000000008000000000 100 4 then bif takenB 0 1000000003000000000 500 1000000008000000000 100 then out Exit.ret [Value.bool false, Value.int
     IntKind.u8 1, Value.int IntKind.i64 0, Value.pointer (some (Addr.mk 0 0 none)), Value.pointer (some (Addr.mk 1 0 none)), Value.int IntKind.i64 3] [some (Blk.mk true 3 [Seg.ints IntKind.i64 3 [3,
     2000000000, 1000000007000000000]]), some (Blk.mk true 4 [Seg.ints IntKind.u8 4 [2, 2, 2, 3]])] else bif followsB 100 3 2000000000 1000000007000000000 3000000000 1000000008000000000 100 then on
     [Value.bool false, Value.int IntKind.u8 1, Value.int IntKind.i64 0, Value.pointer (some (Addr.mk 0 0 none)), Value.pointer (some (Addr.mk 1 0 none)), Value.int IntKind.i64 4] [some (Blk.mk true 3
     [Seg.ints IntKind.i64 3 ((([3, 2000000000, 1000000007000000000].set 0 0).set 1 0).set 2 0)]), some (Blk.mk true 4 [Seg.ints IntKind.u8 4 [2, 2, 2, 3]])] else out Exit.ret [Value.bool false, Value.int
     IntKind.u8 1, Value.int IntKind.i64 0, Value.pointer (some (Addr.mk 0 0 none)), Value.pointer (some (Addr.mk 1 0 none)), Value.int IntKind.i64 3] [some (Blk.mk true 3 [Seg.ints IntKind.i64 3 [3,
     2000000000, 1000000007000000000]]), some (Blk.mk true 4 [Seg.ints IntKind.u8 4 [2, 2, 2, 3]])] else out Exit.ret [Value.bool false, Value.int IntKind.u8 1, Value.int IntKind.i64 0, Value.pointer (some
     (Addr.mk 0 0 none)), Value.pointer (some (Addr.mk 1 0 none)), Value.int IntKind.i64 3] [some (Blk.mk true 3 [Seg.ints IntKind.i64 3 [3, 2000000000, 1000000007000000000]]), some (Blk.mk true 4
     [Seg.ints IntKind.u8 4 [2, 2, 2, 3]])]) := by kernel_rfl
--CFEND
--CF cf59r4 (on : List Value → Heap → Out) (out : Exit → List Value → Heap → Out) :: roundK Try.prog S59 noL Try.f59.ntmps 0 (loopOf Try.f59 0) live59 (st59 4) [cB 0 0 0, aB] on out
theorem cf59r4 (on : List Value → Heap → Out) (out : Exit → List Value → Heap → Out) : roundK Try.prog S59 noL Try.f59.ntmps 0 (loopOf Try.f59 0) live59 (st59 4) [cB 0 0 0, aB] on out =
     (out (Exit.exit 0) [Value.bool false, Value.int IntKind.u8 1, Value.int IntKind.i64 0, Value.pointer (some (Addr.mk 0 0 none)), Value.pointer (some (Addr.mk 1 0 none)), Value.int IntKind.i64 4] [some
     (Blk.mk true 3 [Seg.ints IntKind.i64 3 [0, 0, 0]]), some (Blk.mk true 4 [Seg.ints IntKind.u8 4 [2, 2, 2, 3]])]) := by kernel_rfl
--CFEND
noncomputable def L59f : LF := fun vs h k => bif chk (vs = st59 0 ∧ h = [cB 0 0 0, aB]) then k (.exit 0) (st59 4) [cB 0 0 0, aB] else none
noncomputable def L59 : LSpec := oneL 5 live59 L59f
--CF cf59 . :: fnK Try.prog S59 L59 Try.f59 [] []
theorem cf59  : fnK Try.prog S59 L59 Try.f59 [] [] =
     (bif mayO 100 7 0 0 0 5 7 9 4 then bif takenB 7 0 0 7 9 then bif chk ([Value.bool false, Value.int IntKind.u8 1, Value.int IntKind.i64 0, Value.pointer (some (Addr.mk 0 0 none)), Value.pointer (some
     (Addr.mk 1 0 none)), Value.int IntKind.i64 0] = st59 0 ∧ [some (Blk.mk true 3 [Seg.ints IntKind.i64 3 [0, 0, 0]]), some (Blk.mk true 4 [Seg.ints IntKind.u8 4 (((([0, 0, 0, 0].set 0 2).set 1 2).set 2
     2).set 3 3)])] = [cB 0 0 0, aB]) then some (Res.ret (Value.bool true) []) else none else bif followsB 100 0 0 0 5 7 9 then bif chk ([Value.bool false, Value.int IntKind.u8 2, Value.int IntKind.i64 0,
     Value.pointer (some (Addr.mk 0 0 none)), Value.pointer (some (Addr.mk 1 0 none)), Value.int IntKind.i64 0] = st59 0 ∧ [some (Blk.mk true 3 [Seg.ints IntKind.i64 3 [0, 0, 0]]), some (Blk.mk true 4
     [Seg.ints IntKind.u8 4 (((([0, 0, 0, 0].set 0 2).set 1 2).set 2 2).set 3 3)])] = [cB 0 0 0, aB]) then some (Res.ret (Value.bool true) []) else none else bif chk ([Value.bool false, Value.int
     IntKind.u8 2, Value.int IntKind.i64 0, Value.pointer (some (Addr.mk 0 0 none)), Value.pointer (some (Addr.mk 1 0 none)), Value.int IntKind.i64 0] = st59 0 ∧ [some (Blk.mk true 3 [Seg.ints IntKind.i64
     3 [0, 0, 0]]), some (Blk.mk true 4 [Seg.ints IntKind.u8 4 (((([0, 0, 0, 0].set 0 2).set 1 2).set 2 2).set 3 3)])] = [cB 0 0 0, aB]) then some (Res.ret (Value.bool true) []) else none else bif chk
     ([Value.bool false, Value.int IntKind.u8 0, Value.int IntKind.i64 2, Value.pointer (some (Addr.mk 0 0 none)), Value.pointer (some (Addr.mk 1 0 none)), Value.int IntKind.i64 0] = st59 0 ∧ [some (Blk.mk
     true 3 [Seg.ints IntKind.i64 3 [0, 0, 0]]), some (Blk.mk true 4 [Seg.ints IntKind.u8 4 (((([0, 0, 0, 0].set 0 2).set 1 2).set 2 2).set 3 3)])] = [cB 0 0 0, aB]) then some (Res.ret (Value.bool true)
     []) else none) := by kernel_rfl
--CFEND
end Go.Proofs.Ytfgehfnlkakioaa.VC
