/- Keys: whether they may be. -/
import Derived.Test.YtcjjngdkkihgjaaSHD
import Derived.Test.YtcjjngdkkihgjaaOL
namespace Go.Proofs.Ytcjjngdkkihgjaa.VC
open Go Go.Proofs

abbrev kB (n : Nat) (vs : List FV) : Option Blk := some ⟨false, 2, [.any (n * 2) vs]⟩
def liveGr : List Nat := [2, 0, 5, 6]
--CP pGr (n i : Nat) (vs : List FV) (on : List Value → Heap → Out) (out : Exit → List Value → Heap → Out) :: roundK Try.prog ((mkS []).on [(7, true)]) noL Try.f32.ntmps 1 (loopOf Try.f32 0) liveGr [.bool false, sl 0 n 2, w63 n, w63 i] [kB n vs] on out
theorem pGr (n i : Nat) (vs : List FV) (on : List Value → Heap → Out) (out : Exit → List Value → Heap → Out)
    (w1 : -9223372036854775808 ≤ (↑i : Int) + (1 : Int) ∧ (↑i : Int) + (1 : Int) ≤ 9223372036854775807 := by omega)
    (h1 : (↑i : Int) < (↑n : Int) := by first | omega | assumption | rfl)
    (h2 : (0 : Int) ≤ (↑i : Int) := by first | omega | assumption | rfl)
    (h3 : i * (2 : Nat) + (1 : Nat) < n * (2 : Nat) := by first | omega | assumption | rfl)
    (h4 : (vs.getD (i * (2 : Nat) + (1 : Nat)) (FV.b false)).isL = true := by first | omega | assumption | rfl) : roundK Try.prog ((mkS []).on [(7, true)]) noL Try.f32.ntmps 1 (loopOf Try.f32 0) liveGr [.bool false, sl 0 n 2, w63 n, w63 i] [kB n vs] on out =
     (bif decide ((↑(vs.getD (i * (2 : Nat) + (1 : Nat)) (FV.b false)).asL : Int) > (100 : Int)) then out Exit.ret [Value.bool true, Value.slice (some (Addr.mk (0 : Nat) (0 : Nat) none)) n (2 : Nat),
     Value.int IntKind.i64 (↑n : Int), Value.int IntKind.i64 (↑i : Int)] [some (Blk.mk false (2 : Nat) [Seg.any (n * (2 : Nat)) vs])] else on [Value.bool false, Value.slice (some (Addr.mk (0 : Nat) (0 :
     Nat) none)) n (2 : Nat), Value.int IntKind.i64 (↑n : Int), Value.int IntKind.i64 ((↑i : Int) + (1 : Int))] [some (Blk.mk false (2 : Nat) [Seg.any (n * (2 : Nat)) vs])]) :=
  Eq.trans (b :=
     bif decide ((↑i : Int) < (↑n : Int)) then bif decide ((0 : Int) ≤ (↑i : Int)) && decide ((↑i : Int) < (↑n : Int)) then bif ((0 : Nat) + (↑i : Int).toNat * (2 : Nat) + (1 : Nat)).blt (n * (2 : Nat))
     then bif (vs.getD ((0 : Nat) + (↑i : Int).toNat * (2 : Nat) + (1 : Nat)) (FV.b false)).isL then bif decide ((↑(vs.getD ((0 : Nat) + (↑i : Int).toNat * (2 : Nat) + (1 : Nat)) (FV.b false)).asL : Int) >
     (100 : Int)) then out Exit.ret [Value.bool true, Value.slice (some (Addr.mk (0 : Nat) (0 : Nat) none)) n (2 : Nat), Value.int IntKind.i64 (↑n : Int), Value.int IntKind.i64 (↑i : Int)] [some (Blk.mk
     false (2 : Nat) [Seg.any (n * (2 : Nat)) vs])] else on [Value.bool false, Value.slice (some (Addr.mk (0 : Nat) (0 : Nat) none)) n (2 : Nat), Value.int IntKind.i64 (↑n : Int), Value.int IntKind.i64
     (IntKind.i64.wrap ((↑i : Int) + (1 : Int)))] [some (Blk.mk false (2 : Nat) [Seg.any (n * (2 : Nat)) vs])] else none else none else none else none) (by kernel_rfl) (by simp only [-eq_self, Int.toNat_natCast, Nat.zero_add, swrap w1.1 w1.2]; exact (go_t (dec_t h1) (go_t (and_t (dec_t h2) (dec_t h1)) (go_t (blt_t h3) (go_t h4 rfl)))))
--CFEND
--CP pGrx (n : Nat) (vs : List FV) (on : List Value → Heap → Out) (out : Exit → List Value → Heap → Out) :: roundK Try.prog ((mkS []).on [(7, false)]) noL Try.f32.ntmps 1 (loopOf Try.f32 0) liveGr [.bool false, sl 0 n 2, w63 n, w63 n] [kB n vs] on out
theorem pGrx (n : Nat) (vs : List FV) (on : List Value → Heap → Out) (out : Exit → List Value → Heap → Out)
    (h1 : ¬(↑n : Int) < (↑n : Int) := by first | omega | assumption | rfl) : roundK Try.prog ((mkS []).on [(7, false)]) noL Try.f32.ntmps 1 (loopOf Try.f32 0) liveGr [.bool false, sl 0 n 2, w63 n, w63 n] [kB n vs] on out =
     (out (Exit.exit (0 : Nat)) [Value.bool false, Value.slice (some (Addr.mk (0 : Nat) (0 : Nat) none)) n (2 : Nat), Value.int IntKind.i64 (↑n : Int), Value.int IntKind.i64 (↑n : Int)] [some (Blk.mk false
     (2 : Nat) [Seg.any (n * (2 : Nat)) vs])]) :=
  Eq.trans (by kernel_rfl) (go_f (dec_f h1) rfl)
--CFEND
noncomputable abbrev bMi : Code := ((loops (loopOf Try.f36 0))[0]?).getD .skip
def liveMi : List Nat := [2, 3, 0, 11, 12, 13, 5, 35, 36, 37]
abbrev kyB (x : Int) (m : Nat) : Option Blk := some ⟨true, 2, [.ints .u32 1 [x], .vals [.slice (some ⟨0, 0, some 1⟩) m 2]]⟩
--CP pMi (n i j : Nat) (may : Bool) (x : Int) (m : Nat) (vs : List FV) (on : List Value → Heap → Out) (out : Exit → List Value → Heap → Out) :: roundK Try.prog ((mkS []).on [(38, true)]) noL Try.f36.ntmps 1 bMi liveMi [.bool false, .bool may, sl 0 n 2, sl 0 n 2, w63 n, w63 i, pt 1, sl 0 i 2, w63 i, w63 j] [kB n vs, kyB x m] on out
theorem pMi (n i j : Nat) (may : Bool) (x : Int) (m : Nat) (vs : List FV) (on : List Value → Heap → Out) (out : Exit → List Value → Heap → Out)
    (w1 : -9223372036854775808 ≤ (↑j : Int) + (1 : Int) ∧ (↑j : Int) + (1 : Int) ≤ 9223372036854775807 := by omega)
    (h1 : (↑j : Int) < (↑i : Int) := by first | omega | assumption | rfl)
    (h2 : (0 : Int) ≤ (↑j : Int) := by first | omega | assumption | rfl)
    (h3 : j * (2 : Nat) < n * (2 : Nat) := by first | omega | assumption | rfl)
    (h4 : FV.isI IntKind.u32 (vs.getD (j * (2 : Nat)) (FV.b false)) = true := by first | omega | assumption | rfl)
    (h5 : j * (2 : Nat) + (1 : Nat) < n * (2 : Nat) := by first | omega | assumption | rfl)
    (h6 : (vs.getD (j * (2 : Nat) + (1 : Nat)) (FV.b false)).isL = true := by first | omega | assumption | rfl) : roundK Try.prog ((mkS []).on [(38, true)]) noL Try.f36.ntmps 1 bMi liveMi [.bool false, .bool may, sl 0 n 2, sl 0 n 2, w63 n, w63 i, pt 1, sl 0 i 2, w63 i, w63 j] [kB n vs, kyB x m] on out =
     (bif (vs.getD (j * (2 : Nat)) (FV.b false)).asI == x then out (Exit.exit (0 : Nat)) [Value.bool false, Value.bool false, Value.slice (some (Addr.mk (0 : Nat) (0 : Nat) none)) n (2 : Nat), Value.slice
     (some (Addr.mk (0 : Nat) (0 : Nat) none)) n (2 : Nat), Value.int IntKind.i64 (↑n : Int), Value.int IntKind.i64 (↑i : Int), Value.pointer (some (Addr.mk (1 : Nat) (0 : Nat) none)), Value.slice (some
     (Addr.mk (0 : Nat) (0 : Nat) none)) i (2 : Nat), Value.int IntKind.i64 (↑i : Int), Value.int IntKind.i64 (↑j : Int)] [some (Blk.mk false (2 : Nat) [Seg.any (n * (2 : Nat)) vs]), some (Blk.mk true (2 :
     Nat) [Seg.ints IntKind.u32 (1 : Nat) [x], Seg.vals [Value.slice (some (Addr.mk (0 : Nat) (0 : Nat) (some (1 : Nat)))) m (2 : Nat)]])] else on [Value.bool false, Value.bool may, Value.slice (some
     (Addr.mk (0 : Nat) (0 : Nat) none)) n (2 : Nat), Value.slice (some (Addr.mk (0 : Nat) (0 : Nat) none)) n (2 : Nat), Value.int IntKind.i64 (↑n : Int), Value.int IntKind.i64 (↑i : Int), Value.pointer
     (some (Addr.mk (1 : Nat) (0 : Nat) none)), Value.slice (some (Addr.mk (0 : Nat) (0 : Nat) none)) i (2 : Nat), Value.int IntKind.i64 (↑i : Int), Value.int IntKind.i64 ((↑j : Int) + (1 : Int))] [some
     (Blk.mk false (2 : Nat) [Seg.any (n * (2 : Nat)) vs]), some (Blk.mk true (2 : Nat) [Seg.ints IntKind.u32 (1 : Nat) [x], Seg.vals [Value.slice (some (Addr.mk (0 : Nat) (0 : Nat) (some (1 : Nat)))) m (2
     : Nat)]])]) :=
  Eq.trans (b :=
     bif decide ((↑j : Int) < (↑i : Int)) then bif decide ((0 : Int) ≤ (↑j : Int)) && decide ((↑j : Int) < (↑i : Int)) then bif ((0 : Nat) + (↑j : Int).toNat * (2 : Nat)).blt (n * (2 : Nat)) then bif
     FV.isI IntKind.u32 (vs.getD ((0 : Nat) + (↑j : Int).toNat * (2 : Nat)) (FV.b false)) then bif ((0 : Nat) + (↑j : Int).toNat * (2 : Nat) + (1 : Nat)).blt (n * (2 : Nat)) then bif (vs.getD ((0 : Nat) +
     (↑j : Int).toNat * (2 : Nat) + (1 : Nat)) (FV.b false)).isL then bif (vs.getD ((0 : Nat) + (↑j : Int).toNat * (2 : Nat)) (FV.b false)).asI == x then out (Exit.exit (0 : Nat)) [Value.bool false,
     Value.bool false, Value.slice (some (Addr.mk (0 : Nat) (0 : Nat) none)) n (2 : Nat), Value.slice (some (Addr.mk (0 : Nat) (0 : Nat) none)) n (2 : Nat), Value.int IntKind.i64 (↑n : Int), Value.int
     IntKind.i64 (↑i : Int), Value.pointer (some (Addr.mk (1 : Nat) (0 : Nat) none)), Value.slice (some (Addr.mk (0 : Nat) (0 : Nat) none)) i (2 : Nat), Value.int IntKind.i64 (↑i : Int), Value.int
     IntKind.i64 (↑j : Int)] [some (Blk.mk false (2 : Nat) [Seg.any (n * (2 : Nat)) vs]), some (Blk.mk true (2 : Nat) [Seg.ints IntKind.u32 (1 : Nat) [x], Seg.vals [Value.slice (some (Addr.mk (0 : Nat) (0
     : Nat) (some (1 : Nat)))) m (2 : Nat)]])] else on [Value.bool false, Value.bool may, Value.slice (some (Addr.mk (0 : Nat) (0 : Nat) none)) n (2 : Nat), Value.slice (some (Addr.mk (0 : Nat) (0 : Nat)
     none)) n (2 : Nat), Value.int IntKind.i64 (↑n : Int), Value.int IntKind.i64 (↑i : Int), Value.pointer (some (Addr.mk (1 : Nat) (0 : Nat) none)), Value.slice (some (Addr.mk (0 : Nat) (0 : Nat) none)) i
     (2 : Nat), Value.int IntKind.i64 (↑i : Int), Value.int IntKind.i64 (IntKind.i64.wrap ((↑j : Int) + (1 : Int)))] [some (Blk.mk false (2 : Nat) [Seg.any (n * (2 : Nat)) vs]), some (Blk.mk true (2 : Nat)
     [Seg.ints IntKind.u32 (1 : Nat) [x], Seg.vals [Value.slice (some (Addr.mk (0 : Nat) (0 : Nat) (some (1 : Nat)))) m (2 : Nat)]])] else none else none else none else none else none else none) (by kernel_rfl) (by simp only [-eq_self, Int.toNat_natCast, Nat.zero_add, swrap w1.1 w1.2]; exact (go_t (dec_t h1) (go_t (and_t (dec_t h2) (dec_t h1)) (go_t (blt_t h3) (go_t h4 (go_t (blt_t h5) (go_t h6 rfl)))))))
--CFEND
--CP pMix (n i : Nat) (may : Bool) (x : Int) (m : Nat) (vs : List FV) (on : List Value → Heap → Out) (out : Exit → List Value → Heap → Out) :: roundK Try.prog ((mkS []).on [(38, false)]) noL Try.f36.ntmps 1 bMi liveMi [.bool false, .bool may, sl 0 n 2, sl 0 n 2, w63 n, w63 i, pt 1, sl 0 i 2, w63 i, w63 i] [kB n vs, kyB x m] on out
theorem pMix (n i : Nat) (may : Bool) (x : Int) (m : Nat) (vs : List FV) (on : List Value → Heap → Out) (out : Exit → List Value → Heap → Out)
    (h1 : ¬(↑i : Int) < (↑i : Int) := by first | omega | assumption | rfl) : roundK Try.prog ((mkS []).on [(38, false)]) noL Try.f36.ntmps 1 bMi liveMi [.bool false, .bool may, sl 0 n 2, sl 0 n 2, w63 n, w63 i, pt 1, sl 0 i 2, w63 i, w63 i] [kB n vs, kyB x m] on out =
     (out (Exit.exit (2 : Nat)) [Value.bool false, Value.bool may, Value.slice (some (Addr.mk (0 : Nat) (0 : Nat) none)) n (2 : Nat), Value.slice (some (Addr.mk (0 : Nat) (0 : Nat) none)) n (2 : Nat),
     Value.int IntKind.i64 (↑n : Int), Value.int IntKind.i64 (↑i : Int), Value.pointer (some (Addr.mk (1 : Nat) (0 : Nat) none)), Value.slice (some (Addr.mk (0 : Nat) (0 : Nat) none)) i (2 : Nat),
     Value.int IntKind.i64 (↑i : Int), Value.int IntKind.i64 (↑i : Int)] [some (Blk.mk false (2 : Nat) [Seg.any (n * (2 : Nat)) vs]), some (Blk.mk true (2 : Nat) [Seg.ints IntKind.u32 (1 : Nat) [x],
     Seg.vals [Value.slice (some (Addr.mk (0 : Nat) (0 : Nat) (some (1 : Nat)))) m (2 : Nat)]])]) :=
  Eq.trans (by kernel_rfl) (go_f (dec_f h1) rfl)
--CFEND
noncomputable abbrev bRi : Code := ((loops (loopOf Try.f37 0))[0]?).getD .skip
def liveRi : List Nat := [2, 0, 3, 4]
--CP pRi (n i j : Nat) (vs : List FV) (on : List Value → Heap → Out) (out : Exit → List Value → Heap → Out) :: roundK Try.prog ((mkS []).on [(37, true)]) noL Try.f37.ntmps 1 bRi liveRi [.bool false, sl 0 n 2, w63 i, w63 j] [kB n vs] on out
theorem pRi (n i j : Nat) (vs : List FV) (on : List Value → Heap → Out) (out : Exit → List Value → Heap → Out)
    (w1 : -9223372036854775808 ≤ (↑j : Int) + (1 : Int) ∧ (↑j : Int) + (1 : Int) ≤ 9223372036854775807 := by omega)
    (h1 : (↑j : Int) < (↑i : Int) := by first | omega | assumption | rfl)
    (h2 : (0 : Int) ≤ (↑j : Int) := by first | omega | assumption | rfl)
    (h3 : (↑j : Int) < (↑n : Int) := by first | omega | assumption | rfl)
    (h4 : j * (2 : Nat) < n * (2 : Nat) := by first | omega | assumption | rfl)
    (h5 : FV.isI IntKind.u32 (vs.getD (j * (2 : Nat)) (FV.b false)) = true := by first | omega | assumption | rfl)
    (h6 : (0 : Int) ≤ (↑i : Int) := by first | omega | assumption | rfl)
    (h7 : (↑i : Int) < (↑n : Int) := by first | omega | assumption | rfl)
    (h8 : i * (2 : Nat) < n * (2 : Nat) := by first | omega | assumption | rfl)
    (h9 : FV.isI IntKind.u32 (vs.getD (i * (2 : Nat)) (FV.b false)) = true := by first | omega | assumption | rfl) : roundK Try.prog ((mkS []).on [(37, true)]) noL Try.f37.ntmps 1 bRi liveRi [.bool false, sl 0 n 2, w63 i, w63 j] [kB n vs] on out =
     (bif (vs.getD (j * (2 : Nat)) (FV.b false)).asI == (vs.getD (i * (2 : Nat)) (FV.b false)).asI then out Exit.ret [Value.bool false, Value.slice (some (Addr.mk (0 : Nat) (0 : Nat) none)) n (2 : Nat),
     Value.int IntKind.i64 (↑i : Int), Value.int IntKind.i64 (↑j : Int)] [some (Blk.mk false (2 : Nat) [Seg.any (n * (2 : Nat)) vs])] else on [Value.bool false, Value.slice (some (Addr.mk (0 : Nat) (0 :
     Nat) none)) n (2 : Nat), Value.int IntKind.i64 (↑i : Int), Value.int IntKind.i64 ((↑j : Int) + (1 : Int))] [some (Blk.mk false (2 : Nat) [Seg.any (n * (2 : Nat)) vs])]) :=
  Eq.trans (b :=
     bif decide ((↑j : Int) < (↑i : Int)) then bif decide ((0 : Int) ≤ (↑j : Int)) && decide ((↑j : Int) < (↑n : Int)) then bif ((0 : Nat) + (↑j : Int).toNat * (2 : Nat)).blt (n * (2 : Nat)) then bif
     FV.isI IntKind.u32 (vs.getD ((0 : Nat) + (↑j : Int).toNat * (2 : Nat)) (FV.b false)) then bif decide ((0 : Int) ≤ (↑i : Int)) && decide ((↑i : Int) < (↑n : Int)) then bif ((0 : Nat) + (↑i : Int).toNat
     * (2 : Nat)).blt (n * (2 : Nat)) then bif FV.isI IntKind.u32 (vs.getD ((0 : Nat) + (↑i : Int).toNat * (2 : Nat)) (FV.b false)) then bif (vs.getD ((0 : Nat) + (↑j : Int).toNat * (2 : Nat)) (FV.b
     false)).asI == (vs.getD ((0 : Nat) + (↑i : Int).toNat * (2 : Nat)) (FV.b false)).asI then out Exit.ret [Value.bool false, Value.slice (some (Addr.mk (0 : Nat) (0 : Nat) none)) n (2 : Nat), Value.int
     IntKind.i64 (↑i : Int), Value.int IntKind.i64 (↑j : Int)] [some (Blk.mk false (2 : Nat) [Seg.any (n * (2 : Nat)) vs])] else on [Value.bool false, Value.slice (some (Addr.mk (0 : Nat) (0 : Nat) none))
     n (2 : Nat), Value.int IntKind.i64 (↑i : Int), Value.int IntKind.i64 (IntKind.i64.wrap ((↑j : Int) + (1 : Int)))] [some (Blk.mk false (2 : Nat) [Seg.any (n * (2 : Nat)) vs])] else none else none else
     none else none else none else none else none) (by kernel_rfl) (by simp only [-eq_self, Int.toNat_natCast, Nat.zero_add, swrap w1.1 w1.2]; exact (go_t (dec_t h1) (go_t (and_t (dec_t h2) (dec_t h3)) (go_t (blt_t h4) (go_t h5 (go_t (and_t (dec_t h6) (dec_t h7)) (go_t (blt_t h8) (go_t h9 rfl))))))))
--CFEND
--CP pRix (n i : Nat) (vs : List FV) (on : List Value → Heap → Out) (out : Exit → List Value → Heap → Out) :: roundK Try.prog ((mkS []).on [(37, false)]) noL Try.f37.ntmps 1 bRi liveRi [.bool false, sl 0 n 2, w63 i, w63 i] [kB n vs] on out
theorem pRix (n i : Nat) (vs : List FV) (on : List Value → Heap → Out) (out : Exit → List Value → Heap → Out)
    (h1 : ¬(↑i : Int) < (↑i : Int) := by first | omega | assumption | rfl) : roundK Try.prog ((mkS []).on [(37, false)]) noL Try.f37.ntmps 1 bRi liveRi [.bool false, sl 0 n 2, w63 i, w63 i] [kB n vs] on out =
     (out (Exit.exit (2 : Nat)) [Value.bool false, Value.slice (some (Addr.mk (0 : Nat) (0 : Nat) none)) n (2 : Nat), Value.int IntKind.i64 (↑i : Int), Value.int IntKind.i64 (↑i : Int)] [some (Blk.mk false
     (2 : Nat) [Seg.any (n * (2 : Nat)) vs])]) :=
  Eq.trans (by kernel_rfl) (go_f (dec_f h1) rfl)
--CFEND
end Go.Proofs.Ytcjjngdkkihgjaa.VC
