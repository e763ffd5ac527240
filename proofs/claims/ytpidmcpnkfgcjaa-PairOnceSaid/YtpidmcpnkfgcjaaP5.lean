/- PairOnce: rounds (printed by gen/p5.py). -/
import Derived.Test.YtpidmcpnkfgcjaaP4
import Derived.Test.YtpidmcpnkfgcjaaOY
namespace Go.Proofs.Ytpidmcpnkfgcjaa.VC
open Go Go.Proofs

abbrev opsB (n : Nat) (vs : List FV) : Option Blk := some ⟨false, 9, [.any (n * 9) vs]⟩
abbrev PBe (e : Nat) (w now : Int) (t : Bool) (nx : Value) : Option Blk := some ⟨true, 5, [.vals [pt e], .ints .i64 2 [w, now], .vals [.bool t, nx]]⟩
def live7 : List Nat := [4, 5, 0, 7, 8, 9, 10, 33, 34, 35]
noncomputable def S7eN : Spec := mkS [(28, true, FEdgN)]
noncomputable def S7eO : Spec := mkS [(28, true, FEdgO)]
noncomputable def S7eI : Spec := mkS [(28, true, FEdgI)]
noncomputable def S7mN : Spec := mkS [(29, true, FMsgN)]
noncomputable def S7mX : Spec := mkS [(29, true, FMsgX)]
noncomputable def S7mP : Spec := mkS [(29, true, FMsgP)]
--CP p7xN (w last edge now next : Int) (t : Bool) (n i : Nat) (xs : List Int) (vs : List FV) (on : List Value → Heap → Out) (out : Exit → List Value → Heap → Out) :: roundK Try.prog ((mkS []).on [(36, false)]) noL Try.f7.ntmps 1 (loopOf Try.f7 0) live7 [.bool false, pt 1, w63 w, w63 last, w63 edge, w63 now, w63 next, sl 0 n 2, w63 n, w63 i] [opsB n vs, PBe 2 w now t (.pointer none), eB true xs] on out
theorem p7xN (w last edge now next : Int) (t : Bool) (n i : Nat) (xs : List Int) (vs : List FV) (on : List Value → Heap → Out) (out : Exit → List Value → Heap → Out)
    (h1 : ¬(↑i : Int) < (↑n : Int) := by first | omega | assumption | rfl) : roundK Try.prog ((mkS []).on [(36, false)]) noL Try.f7.ntmps 1 (loopOf Try.f7 0) live7 [.bool false, pt 1, w63 w, w63 last, w63 edge, w63 now, w63 next, sl 0 n 2, w63 n, w63 i] [opsB n vs, PBe 2 w now t (.pointer none), eB true xs] on out =
     (out (Exit.exit (0 : Nat)) [Value.bool false, Value.pointer (some (Addr.mk (1 : Nat) (0 : Nat) none)), Value.int IntKind.i64 w, Value.int IntKind.i64 last, Value.int IntKind.i64 edge, Value.int
     IntKind.i64 now, Value.int IntKind.i64 next, Value.slice (some (Addr.mk (0 : Nat) (0 : Nat) none)) n (2 : Nat), Value.int IntKind.i64 (↑n : Int), Value.int IntKind.i64 (↑i : Int)] [some (Blk.mk false
     (9 : Nat) [Seg.any (n * (9 : Nat)) vs]), some (Blk.mk true (5 : Nat) [Seg.vals [Value.pointer (some (Addr.mk (2 : Nat) (0 : Nat) none))], Seg.ints IntKind.i64 (2 : Nat) [w, now], Seg.vals [Value.bool
     t, Value.pointer none]]), some (Blk.mk true (9 : Nat) [Seg.ints IntKind.i64 (9 : Nat) xs])]) :=
  Eq.trans (by kernel_rfl) (go_f (dec_f h1) rfl)
--CFEND
--CP p7c1N (w last edge now next : Int) (t : Bool) (n i : Nat) (xs : List Int) (vs : List FV) (on : List Value → Heap → Out) (out : Exit → List Value → Heap → Out) :: roundK Try.prog ((mkS []).on [(36, true), (41, true)]) noL Try.f7.ntmps 1 (loopOf Try.f7 0) live7 [.bool false, pt 1, w63 w, w63 last, w63 edge, w63 now, w63 next, sl 0 n 2, w63 n, w63 i] [opsB n vs, PBe 2 w now t (.pointer none), eB true xs] on out
theorem p7c1N (w last edge now next : Int) (t : Bool) (n i : Nat) (xs : List Int) (vs : List FV) (on : List Value → Heap → Out) (out : Exit → List Value → Heap → Out)
    (w1 : -9223372036854775808 ≤ (↑i : Int) + (1 : Int) ∧ (↑i : Int) + (1 : Int) ≤ 9223372036854775807 := by omega)
    (h1 : (↑i : Int) < (↑n : Int) := by first | omega | assumption | rfl)
    (h2 : (0 : Int) ≤ (↑i : Int) := by first | omega | assumption | rfl)
    (h3 : i * (9 : Nat) < n * (9 : Nat) := by first | omega | assumption | rfl)
    (h4 : (vs.getD (i * (9 : Nat)) (FV.b false)).isB = true := by first | omega | assumption | rfl)
    (h5 : i * (9 : Nat) + (1 : Nat) < n * (9 : Nat) := by first | omega | assumption | rfl)
    (h6 : (vs.getD (i * (9 : Nat) + (1 : Nat)) (FV.b false)).isB = true := by first | omega | assumption | rfl)
    (h7 : i * (9 : Nat) + (2 : Nat) < n * (9 : Nat) := by first | omega | assumption | rfl)
    (h8 : FV.isI IntKind.i64 (vs.getD (i * (9 : Nat) + (2 : Nat)) (FV.b false)) = true := by first | omega | assumption | rfl)
    (h9 : i * (9 : Nat) + (3 : Nat) < n * (9 : Nat) := by first | omega | assumption | rfl)
    (h10 : FV.isI IntKind.u8 (vs.getD (i * (9 : Nat) + (3 : Nat)) (FV.b false)) = true := by first | omega | assumption | rfl)
    (h11 : i * (9 : Nat) + (4 : Nat) < n * (9 : Nat) := by first | omega | assumption | rfl)
    (h12 : (vs.getD (i * (9 : Nat) + (4 : Nat)) (FV.b false)).isB = true := by first | omega | assumption | rfl)
    (h13 : i * (9 : Nat) + (5 : Nat) < n * (9 : Nat) := by first | omega | assumption | rfl)
    (h14 : FV.isI IntKind.i64 (vs.getD (i * (9 : Nat) + (5 : Nat)) (FV.b false)) = true := by first | omega | assumption | rfl)
    (h15 : i * (9 : Nat) + (6 : Nat) < n * (9 : Nat) := by first | omega | assumption | rfl)
    (h16 : (vs.getD (i * (9 : Nat) + (6 : Nat)) (FV.b false)).isB = true := by first | omega | assumption | rfl)
    (h17 : i * (9 : Nat) + (7 : Nat) < n * (9 : Nat) := by first | omega | assumption | rfl)
    (h18 : FV.isI IntKind.i64 (vs.getD (i * (9 : Nat) + (7 : Nat)) (FV.b false)) = true := by first | omega | assumption | rfl)
    (h19 : i * (9 : Nat) + (8 : Nat) < n * (9 : Nat) := by first | omega | assumption | rfl)
    (h20 : (vs.getD (i * (9 : Nat) + (8 : Nat)) (FV.b false)).isB = true := by first | omega | assumption | rfl)
    (h21 : (vs.getD (i * (9 : Nat) + (1 : Nat)) (FV.b false)).asB = true := by first | omega | assumption | rfl) : roundK Try.prog ((mkS []).on [(36, true), (41, true)]) noL Try.f7.ntmps 1 (loopOf Try.f7 0) live7 [.bool false, pt 1, w63 w, w63 last, w63 edge, w63 now, w63 next, sl 0 n 2, w63 n, w63 i] [opsB n vs, PBe 2 w now t (.pointer none), eB true xs] on out =
     (on [Value.bool false, Value.pointer (some (Addr.mk (1 : Nat) (0 : Nat) none)), Value.int IntKind.i64 w, Value.int IntKind.i64 last, Value.int IntKind.i64 edge, Value.int IntKind.i64 now, Value.int
     IntKind.i64 next, Value.slice (some (Addr.mk (0 : Nat) (0 : Nat) none)) n (2 : Nat), Value.int IntKind.i64 (↑n : Int), Value.int IntKind.i64 ((↑i : Int) + (1 : Int))] [some (Blk.mk false (9 : Nat)
     [Seg.any (n * (9 : Nat)) vs]), some (Blk.mk true (5 : Nat) [Seg.vals [Value.pointer (some (Addr.mk (2 : Nat) (0 : Nat) none))], Seg.ints IntKind.i64 (2 : Nat) [w, now], Seg.vals [Value.bool t,
     Value.pointer none]]), some (Blk.mk true (9 : Nat) [Seg.ints IntKind.i64 (9 : Nat) xs])]) :=
  Eq.trans (b :=
     bif decide ((↑i : Int) < (↑n : Int)) then bif decide ((0 : Int) ≤ (↑i : Int)) && decide ((↑i : Int) < (↑n : Int)) then bif ((0 : Nat) + (↑i : Int).toNat * (9 : Nat)).blt (n * (9 : Nat)) then bif
     (vs.getD ((0 : Nat) + (↑i : Int).toNat * (9 : Nat)) (FV.b false)).isB then bif ((0 : Nat) + (↑i : Int).toNat * (9 : Nat) + (1 : Nat)).blt (n * (9 : Nat)) then bif (vs.getD ((0 : Nat) + (↑i :
     Int).toNat * (9 : Nat) + (1 : Nat)) (FV.b false)).isB then bif ((0 : Nat) + (↑i : Int).toNat * (9 : Nat) + (1 : Nat) + (1 : Nat)).blt (n * (9 : Nat)) then bif FV.isI IntKind.i64 (vs.getD ((0 : Nat) +
     (↑i : Int).toNat * (9 : Nat) + (1 : Nat) + (1 : Nat)) (FV.b false)) then bif ((0 : Nat) + (↑i : Int).toNat * (9 : Nat) + (1 : Nat) + (1 : Nat) + (1 : Nat)).blt (n * (9 : Nat)) then bif FV.isI
     IntKind.u8 (vs.getD ((0 : Nat) + (↑i : Int).toNat * (9 : Nat) + (1 : Nat) + (1 : Nat) + (1 : Nat)) (FV.b false)) then bif ((0 : Nat) + (↑i : Int).toNat * (9 : Nat) + (1 : Nat) + (1 : Nat) + (1 : Nat)
     + (1 : Nat)).blt (n * (9 : Nat)) then bif (vs.getD ((0 : Nat) + (↑i : Int).toNat * (9 : Nat) + (1 : Nat) + (1 : Nat) + (1 : Nat) + (1 : Nat)) (FV.b false)).isB then bif ((0 : Nat) + (↑i : Int).toNat *
     (9 : Nat) + (1 : Nat) + (1 : Nat) + (1 : Nat) + (1 : Nat) + (1 : Nat)).blt (n * (9 : Nat)) then bif FV.isI IntKind.i64 (vs.getD ((0 : Nat) + (↑i : Int).toNat * (9 : Nat) + (1 : Nat) + (1 : Nat) + (1 :
     Nat) + (1 : Nat) + (1 : Nat)) (FV.b false)) then bif ((0 : Nat) + (↑i : Int).toNat * (9 : Nat) + (1 : Nat) + (1 : Nat) + (1 : Nat) + (1 : Nat) + (1 : Nat) + (1 : Nat)).blt (n * (9 : Nat)) then bif
     (vs.getD ((0 : Nat) + (↑i : Int).toNat * (9 : Nat) + (1 : Nat) + (1 : Nat) + (1 : Nat) + (1 : Nat) + (1 : Nat) + (1 : Nat)) (FV.b false)).isB then bif ((0 : Nat) + (↑i : Int).toNat * (9 : Nat) + (1 :
     Nat) + (1 : Nat) + (1 : Nat) + (1 : Nat) + (1 : Nat) + (1 : Nat) + (1 : Nat)).blt (n * (9 : Nat)) then bif FV.isI IntKind.i64 (vs.getD ((0 : Nat) + (↑i : Int).toNat * (9 : Nat) + (1 : Nat) + (1 : Nat)
     + (1 : Nat) + (1 : Nat) + (1 : Nat) + (1 : Nat) + (1 : Nat)) (FV.b false)) then bif ((0 : Nat) + (↑i : Int).toNat * (9 : Nat) + (1 : Nat) + (1 : Nat) + (1 : Nat) + (1 : Nat) + (1 : Nat) + (1 : Nat) +
     (1 : Nat) + (1 : Nat)).blt (n * (9 : Nat)) then bif (vs.getD ((0 : Nat) + (↑i : Int).toNat * (9 : Nat) + (1 : Nat) + (1 : Nat) + (1 : Nat) + (1 : Nat) + (1 : Nat) + (1 : Nat) + (1 : Nat) + (1 : Nat))
     (FV.b false)).isB then bif (vs.getD ((0 : Nat) + (↑i : Int).toNat * (9 : Nat) + (1 : Nat)) (FV.b false)).asB then on [Value.bool false, Value.pointer (some (Addr.mk (1 : Nat) (0 : Nat) none)),
     Value.int IntKind.i64 w, Value.int IntKind.i64 last, Value.int IntKind.i64 edge, Value.int IntKind.i64 now, Value.int IntKind.i64 next, Value.slice (some (Addr.mk (0 : Nat) (0 : Nat) none)) n (2 :
     Nat), Value.int IntKind.i64 (↑n : Int), Value.int IntKind.i64 (IntKind.i64.wrap ((↑i : Int) + (1 : Int)))] [some (Blk.mk false (9 : Nat) [Seg.any (n * (9 : Nat)) vs]), some (Blk.mk true (5 : Nat)
     [Seg.vals [Value.pointer (some (Addr.mk (2 : Nat) (0 : Nat) none))], Seg.ints IntKind.i64 (2 : Nat) [w, now], Seg.vals [Value.bool t, Value.pointer none]]), some (Blk.mk true (9 : Nat) [Seg.ints
     IntKind.i64 (9 : Nat) xs])] else none else none else none else none else none else none else none else none else none else none else none else none else none else none else none else none else none
     else none else none else none else none) (by kernel_rfl) (by simp only [-eq_self, Int.toNat_natCast, Nat.zero_add, swrap w1.1 w1.2]; exact (go_t (dec_t h1) (go_t (and_t (dec_t h2) (dec_t h1)) (go_t (blt_t h3) (go_t h4 (go_t (blt_t h5) (go_t h6 (go_t (blt_t h7) (go_t h8 (go_t (blt_t h9) (go_t h10 (go_t (blt_t h11) (go_t h12 (go_t (blt_t h13) (go_t h14 (go_t (blt_t h15) (go_t h16 (go_t (blt_t h17) (go_t h18 (go_t (blt_t h19) (go_t h20 (go_t h21 rfl))))))))))))))))))))))
--CFEND
--CP p7c2N (w last edge now next : Int) (t : Bool) (n i : Nat) (xs : List Int) (vs : List FV) (on : List Value → Heap → Out) (out : Exit → List Value → Heap → Out) :: roundK Try.prog ((mkS []).on [(36, true), (41, false), (47, true)]) noL Try.f7.ntmps 1 (loopOf Try.f7 0) live7 [.bool false, pt 1, w63 w, w63 last, w63 edge, w63 now, w63 next, sl 0 n 2, w63 n, w63 i] [opsB n vs, PBe 2 w now t (.pointer none), eB true xs] on out
theorem p7c2N (w last edge now next : Int) (t : Bool) (n i : Nat) (xs : List Int) (vs : List FV) (on : List Value → Heap → Out) (out : Exit → List Value → Heap → Out)
    (w1 : -9223372036854775808 ≤ (↑i : Int) + (1 : Int) ∧ (↑i : Int) + (1 : Int) ≤ 9223372036854775807 := by omega)
    (h1 : (↑i : Int) < (↑n : Int) := by first | omega | assumption | rfl)
    (h2 : (0 : Int) ≤ (↑i : Int) := by first | omega | assumption | rfl)
    (h3 : i * (9 : Nat) < n * (9 : Nat) := by first | omega | assumption | rfl)
    (h4 : (vs.getD (i * (9 : Nat)) (FV.b false)).isB = true := by first | omega | assumption | rfl)
    (h5 : i * (9 : Nat) + (1 : Nat) < n * (9 : Nat) := by first | omega | assumption | rfl)
    (h6 : (vs.getD (i * (9 : Nat) + (1 : Nat)) (FV.b false)).isB = true := by first | omega | assumption | rfl)
    (h7 : i * (9 : Nat) + (2 : Nat) < n * (9 : Nat) := by first | omega | assumption | rfl)
    (h8 : FV.isI IntKind.i64 (vs.getD (i * (9 : Nat) + (2 : Nat)) (FV.b false)) = true := by first | omega | assumption | rfl)
    (h9 : i * (9 : Nat) + (3 : Nat) < n * (9 : Nat) := by first | omega | assumption | rfl)
    (h10 : FV.isI IntKind.u8 (vs.getD (i * (9 : Nat) + (3 : Nat)) (FV.b false)) = true := by first | omega | assumption | rfl)
    (h11 : i * (9 : Nat) + (4 : Nat) < n * (9 : Nat) := by first | omega | assumption | rfl)
    (h12 : (vs.getD (i * (9 : Nat) + (4 : Nat)) (FV.b false)).isB = true := by first | omega | assumption | rfl)
    (h13 : i * (9 : Nat) + (5 : Nat) < n * (9 : Nat) := by first | omega | assumption | rfl)
    (h14 : FV.isI IntKind.i64 (vs.getD (i * (9 : Nat) + (5 : Nat)) (FV.b false)) = true := by first | omega | assumption | rfl)
    (h15 : i * (9 : Nat) + (6 : Nat) < n * (9 : Nat) := by first | omega | assumption | rfl)
    (h16 : (vs.getD (i * (9 : Nat) + (6 : Nat)) (FV.b false)).isB = true := by first | omega | assumption | rfl)
    (h17 : i * (9 : Nat) + (7 : Nat) < n * (9 : Nat) := by first | omega | assumption | rfl)
    (h18 : FV.isI IntKind.i64 (vs.getD (i * (9 : Nat) + (7 : Nat)) (FV.b false)) = true := by first | omega | assumption | rfl)
    (h19 : i * (9 : Nat) + (8 : Nat) < n * (9 : Nat) := by first | omega | assumption | rfl)
    (h20 : (vs.getD (i * (9 : Nat) + (8 : Nat)) (FV.b false)).isB = true := by first | omega | assumption | rfl)
    (h21 : (vs.getD (i * (9 : Nat) + (1 : Nat)) (FV.b false)).asB = false := by first | omega | assumption | rfl)
    (h22 : (vs.getD (i * (9 : Nat) + (2 : Nat)) (FV.b false)).asI < now := by first | omega | assumption | rfl) : roundK Try.prog ((mkS []).on [(36, true), (41, false), (47, true)]) noL Try.f7.ntmps 1 (loopOf Try.f7 0) live7 [.bool false, pt 1, w63 w, w63 last, w63 edge, w63 now, w63 next, sl 0 n 2, w63 n, w63 i] [opsB n vs, PBe 2 w now t (.pointer none), eB true xs] on out =
     (on [Value.bool false, Value.pointer (some (Addr.mk (1 : Nat) (0 : Nat) none)), Value.int IntKind.i64 w, Value.int IntKind.i64 last, Value.int IntKind.i64 edge, Value.int IntKind.i64 now, Value.int
     IntKind.i64 next, Value.slice (some (Addr.mk (0 : Nat) (0 : Nat) none)) n (2 : Nat), Value.int IntKind.i64 (↑n : Int), Value.int IntKind.i64 ((↑i : Int) + (1 : Int))] [some (Blk.mk false (9 : Nat)
     [Seg.any (n * (9 : Nat)) vs]), some (Blk.mk true (5 : Nat) [Seg.vals [Value.pointer (some (Addr.mk (2 : Nat) (0 : Nat) none))], Seg.ints IntKind.i64 (2 : Nat) [w, now], Seg.vals [Value.bool t,
     Value.pointer none]]), some (Blk.mk true (9 : Nat) [Seg.ints IntKind.i64 (9 : Nat) xs])]) :=
  Eq.trans (b :=
     bif decide ((↑i : Int) < (↑n : Int)) then bif decide ((0 : Int) ≤ (↑i : Int)) && decide ((↑i : Int) < (↑n : Int)) then bif ((0 : Nat) + (↑i : Int).toNat * (9 : Nat)).blt (n * (9 : Nat)) then bif
     (vs.getD ((0 : Nat) + (↑i : Int).toNat * (9 : Nat)) (FV.b false)).isB then bif ((0 : Nat) + (↑i : Int).toNat * (9 : Nat) + (1 : Nat)).blt (n * (9 : Nat)) then bif (vs.getD ((0 : Nat) + (↑i :
     Int).toNat * (9 : Nat) + (1 : Nat)) (FV.b false)).isB then bif ((0 : Nat) + (↑i : Int).toNat * (9 : Nat) + (1 : Nat) + (1 : Nat)).blt (n * (9 : Nat)) then bif FV.isI IntKind.i64 (vs.getD ((0 : Nat) +
     (↑i : Int).toNat * (9 : Nat) + (1 : Nat) + (1 : Nat)) (FV.b false)) then bif ((0 : Nat) + (↑i : Int).toNat * (9 : Nat) + (1 : Nat) + (1 : Nat) + (1 : Nat)).blt (n * (9 : Nat)) then bif FV.isI
     IntKind.u8 (vs.getD ((0 : Nat) + (↑i : Int).toNat * (9 : Nat) + (1 : Nat) + (1 : Nat) + (1 : Nat)) (FV.b false)) then bif ((0 : Nat) + (↑i : Int).toNat * (9 : Nat) + (1 : Nat) + (1 : Nat) + (1 : Nat)
     + (1 : Nat)).blt (n * (9 : Nat)) then bif (vs.getD ((0 : Nat) + (↑i : Int).toNat * (9 : Nat) + (1 : Nat) + (1 : Nat) + (1 : Nat) + (1 : Nat)) (FV.b false)).isB then bif ((0 : Nat) + (↑i : Int).toNat *
     (9 : Nat) + (1 : Nat) + (1 : Nat) + (1 : Nat) + (1 : Nat) + (1 : Nat)).blt (n * (9 : Nat)) then bif FV.isI IntKind.i64 (vs.getD ((0 : Nat) + (↑i : Int).toNat * (9 : Nat) + (1 : Nat) + (1 : Nat) + (1 :
     Nat) + (1 : Nat) + (1 : Nat)) (FV.b false)) then bif ((0 : Nat) + (↑i : Int).toNat * (9 : Nat) + (1 : Nat) + (1 : Nat) + (1 : Nat) + (1 : Nat) + (1 : Nat) + (1 : Nat)).blt (n * (9 : Nat)) then bif
     (vs.getD ((0 : Nat) + (↑i : Int).toNat * (9 : Nat) + (1 : Nat) + (1 : Nat) + (1 : Nat) + (1 : Nat) + (1 : Nat) + (1 : Nat)) (FV.b false)).isB then bif ((0 : Nat) + (↑i : Int).toNat * (9 : Nat) + (1 :
     Nat) + (1 : Nat) + (1 : Nat) + (1 : Nat) + (1 : Nat) + (1 : Nat) + (1 : Nat)).blt (n * (9 : Nat)) then bif FV.isI IntKind.i64 (vs.getD ((0 : Nat) + (↑i : Int).toNat * (9 : Nat) + (1 : Nat) + (1 : Nat)
     + (1 : Nat) + (1 : Nat) + (1 : Nat) + (1 : Nat) + (1 : Nat)) (FV.b false)) then bif ((0 : Nat) + (↑i : Int).toNat * (9 : Nat) + (1 : Nat) + (1 : Nat) + (1 : Nat) + (1 : Nat) + (1 : Nat) + (1 : Nat) +
     (1 : Nat) + (1 : Nat)).blt (n * (9 : Nat)) then bif (vs.getD ((0 : Nat) + (↑i : Int).toNat * (9 : Nat) + (1 : Nat) + (1 : Nat) + (1 : Nat) + (1 : Nat) + (1 : Nat) + (1 : Nat) + (1 : Nat) + (1 : Nat))
     (FV.b false)).isB then bif (vs.getD ((0 : Nat) + (↑i : Int).toNat * (9 : Nat) + (1 : Nat)) (FV.b false)).asB then none else bif decide ((vs.getD ((0 : Nat) + (↑i : Int).toNat * (9 : Nat) + (1 : Nat) +
     (1 : Nat)) (FV.b false)).asI < now) then on [Value.bool false, Value.pointer (some (Addr.mk (1 : Nat) (0 : Nat) none)), Value.int IntKind.i64 w, Value.int IntKind.i64 last, Value.int IntKind.i64 edge,
     Value.int IntKind.i64 now, Value.int IntKind.i64 next, Value.slice (some (Addr.mk (0 : Nat) (0 : Nat) none)) n (2 : Nat), Value.int IntKind.i64 (↑n : Int), Value.int IntKind.i64 (IntKind.i64.wrap ((↑i
     : Int) + (1 : Int)))] [some (Blk.mk false (9 : Nat) [Seg.any (n * (9 : Nat)) vs]), some (Blk.mk true (5 : Nat) [Seg.vals [Value.pointer (some (Addr.mk (2 : Nat) (0 : Nat) none))], Seg.ints IntKind.i64
     (2 : Nat) [w, now], Seg.vals [Value.bool t, Value.pointer none]]), some (Blk.mk true (9 : Nat) [Seg.ints IntKind.i64 (9 : Nat) xs])] else none else none else none else none else none else none else
     none else none else none else none else none else none else none else none else none else none else none else none else none else none else none) (by kernel_rfl) (by simp only [-eq_self, Int.toNat_natCast, Nat.zero_add, swrap w1.1 w1.2]; exact (go_t (dec_t h1) (go_t (and_t (dec_t h2) (dec_t h1)) (go_t (blt_t h3) (go_t h4 (go_t (blt_t h5) (go_t h6 (go_t (blt_t h7) (go_t h8 (go_t (blt_t h9) (go_t h10 (go_t (blt_t h11) (go_t h12 (go_t (blt_t h13) (go_t h14 (go_t (blt_t h15) (go_t h16 (go_t (blt_t h17) (go_t h18 (go_t (blt_t h19) (go_t h20 (go_f h21 (go_t (dec_t h22) rfl)))))))))))))))))))))))
--CFEND
--CP p7c3N (w last edge now next : Int) (t : Bool) (n i : Nat) (xs : List Int) (vs : List FV) (on : List Value → Heap → Out) (out : Exit → List Value → Heap → Out) :: roundK Try.prog ((mkS []).on [(36, true), (41, false), (47, false), (50, true), (56, true)]) noL Try.f7.ntmps 1 (loopOf Try.f7 0) live7 [.bool false, pt 1, w63 w, w63 last, w63 edge, w63 now, w63 next, sl 0 n 2, w63 n, w63 i] [opsB n vs, PBe 2 w now t (.pointer none), eB true xs] on out
theorem p7c3N (w last edge now next : Int) (t : Bool) (n i : Nat) (xs : List Int) (vs : List FV) (on : List Value → Heap → Out) (out : Exit → List Value → Heap → Out)
    (w1 : -9223372036854775808 ≤ (↑i : Int) + (1 : Int) ∧ (↑i : Int) + (1 : Int) ≤ 9223372036854775807 := by omega)
    (h1 : (↑i : Int) < (↑n : Int) := by first | omega | assumption | rfl)
    (h2 : (0 : Int) ≤ (↑i : Int) := by first | omega | assumption | rfl)
    (h3 : i * (9 : Nat) < n * (9 : Nat) := by first | omega | assumption | rfl)
    (h4 : (vs.getD (i * (9 : Nat)) (FV.b false)).isB = true := by first | omega | assumption | rfl)
    (h5 : i * (9 : Nat) + (1 : Nat) < n * (9 : Nat) := by first | omega | assumption | rfl)
    (h6 : (vs.getD (i * (9 : Nat) + (1 : Nat)) (FV.b false)).isB = true := by first | omega | assumption | rfl)
    (h7 : i * (9 : Nat) + (2 : Nat) < n * (9 : Nat) := by first | omega | assumption | rfl)
    (h8 : FV.isI IntKind.i64 (vs.getD (i * (9 : Nat) + (2 : Nat)) (FV.b false)) = true := by first | omega | assumption | rfl)
    (h9 : i * (9 : Nat) + (3 : Nat) < n * (9 : Nat) := by first | omega | assumption | rfl)
    (h10 : FV.isI IntKind.u8 (vs.getD (i * (9 : Nat) + (3 : Nat)) (FV.b false)) = true := by first | omega | assumption | rfl)
    (h11 : i * (9 : Nat) + (4 : Nat) < n * (9 : Nat) := by first | omega | assumption | rfl)
    (h12 : (vs.getD (i * (9 : Nat) + (4 : Nat)) (FV.b false)).isB = true := by first | omega | assumption | rfl)
    (h13 : i * (9 : Nat) + (5 : Nat) < n * (9 : Nat) := by first | omega | assumption | rfl)
    (h14 : FV.isI IntKind.i64 (vs.getD (i * (9 : Nat) + (5 : Nat)) (FV.b false)) = true := by first | omega | assumption | rfl)
    (h15 : i * (9 : Nat) + (6 : Nat) < n * (9 : Nat) := by first | omega | assumption | rfl)
    (h16 : (vs.getD (i * (9 : Nat) + (6 : Nat)) (FV.b false)).isB = true := by first | omega | assumption | rfl)
    (h17 : i * (9 : Nat) + (7 : Nat) < n * (9 : Nat) := by first | omega | assumption | rfl)
    (h18 : FV.isI IntKind.i64 (vs.getD (i * (9 : Nat) + (7 : Nat)) (FV.b false)) = true := by first | omega | assumption | rfl)
    (h19 : i * (9 : Nat) + (8 : Nat) < n * (9 : Nat) := by first | omega | assumption | rfl)
    (h20 : (vs.getD (i * (9 : Nat) + (8 : Nat)) (FV.b false)).isB = true := by first | omega | assumption | rfl)
    (h21 : (vs.getD (i * (9 : Nat) + (1 : Nat)) (FV.b false)).asB = false := by first | omega | assumption | rfl)
    (h22 : ¬(vs.getD (i * (9 : Nat) + (2 : Nat)) (FV.b false)).asI < now := by first | omega | assumption | rfl)
    (h23 : (vs.getD (i * (9 : Nat)) (FV.b false)).asB = true := by first | omega | assumption | rfl)
    (h24 : (vs.getD (i * (9 : Nat) + (2 : Nat)) (FV.b false)).asI ≤ edge := by first | omega | assumption | rfl) : roundK Try.prog ((mkS []).on [(36, true), (41, false), (47, false), (50, true), (56, true)]) noL Try.f7.ntmps 1 (loopOf Try.f7 0) live7 [.bool false, pt 1, w63 w, w63 last, w63 edge, w63 now, w63 next, sl 0 n 2, w63 n, w63 i] [opsB n vs, PBe 2 w now t (.pointer none), eB true xs] on out =
     (on [Value.bool false, Value.pointer (some (Addr.mk (1 : Nat) (0 : Nat) none)), Value.int IntKind.i64 w, Value.int IntKind.i64 last, Value.int IntKind.i64 edge, Value.int IntKind.i64 now, Value.int
     IntKind.i64 next, Value.slice (some (Addr.mk (0 : Nat) (0 : Nat) none)) n (2 : Nat), Value.int IntKind.i64 (↑n : Int), Value.int IntKind.i64 ((↑i : Int) + (1 : Int))] [some (Blk.mk false (9 : Nat)
     [Seg.any (n * (9 : Nat)) vs]), some (Blk.mk true (5 : Nat) [Seg.vals [Value.pointer (some (Addr.mk (2 : Nat) (0 : Nat) none))], Seg.ints IntKind.i64 (2 : Nat) [w, now], Seg.vals [Value.bool t,
     Value.pointer none]]), some (Blk.mk true (9 : Nat) [Seg.ints IntKind.i64 (9 : Nat) xs])]) :=
  Eq.trans (b :=
     bif decide ((↑i : Int) < (↑n : Int)) then bif decide ((0 : Int) ≤ (↑i : Int)) && decide ((↑i : Int) < (↑n : Int)) then bif ((0 : Nat) + (↑i : Int).toNat * (9 : Nat)).blt (n * (9 : Nat)) then bif
     (vs.getD ((0 : Nat) + (↑i : Int).toNat * (9 : Nat)) (FV.b false)).isB then bif ((0 : Nat) + (↑i : Int).toNat * (9 : Nat) + (1 : Nat)).blt (n * (9 : Nat)) then bif (vs.getD ((0 : Nat) + (↑i :
     Int).toNat * (9 : Nat) + (1 : Nat)) (FV.b false)).isB then bif ((0 : Nat) + (↑i : Int).toNat * (9 : Nat) + (1 : Nat) + (1 : Nat)).blt (n * (9 : Nat)) then bif FV.isI IntKind.i64 (vs.getD ((0 : Nat) +
     (↑i : Int).toNat * (9 : Nat) + (1 : Nat) + (1 : Nat)) (FV.b false)) then bif ((0 : Nat) + (↑i : Int).toNat * (9 : Nat) + (1 : Nat) + (1 : Nat) + (1 : Nat)).blt (n * (9 : Nat)) then bif FV.isI
     IntKind.u8 (vs.getD ((0 : Nat) + (↑i : Int).toNat * (9 : Nat) + (1 : Nat) + (1 : Nat) + (1 : Nat)) (FV.b false)) then bif ((0 : Nat) + (↑i : Int).toNat * (9 : Nat) + (1 : Nat) + (1 : Nat) + (1 : Nat)
     + (1 : Nat)).blt (n * (9 : Nat)) then bif (vs.getD ((0 : Nat) + (↑i : Int).toNat * (9 : Nat) + (1 : Nat) + (1 : Nat) + (1 : Nat) + (1 : Nat)) (FV.b false)).isB then bif ((0 : Nat) + (↑i : Int).toNat *
     (9 : Nat) + (1 : Nat) + (1 : Nat) + (1 : Nat) + (1 : Nat) + (1 : Nat)).blt (n * (9 : Nat)) then bif FV.isI IntKind.i64 (vs.getD ((0 : Nat) + (↑i : Int).toNat * (9 : Nat) + (1 : Nat) + (1 : Nat) + (1 :
     Nat) + (1 : Nat) + (1 : Nat)) (FV.b false)) then bif ((0 : Nat) + (↑i : Int).toNat * (9 : Nat) + (1 : Nat) + (1 : Nat) + (1 : Nat) + (1 : Nat) + (1 : Nat) + (1 : Nat)).blt (n * (9 : Nat)) then bif
     (vs.getD ((0 : Nat) + (↑i : Int).toNat * (9 : Nat) + (1 : Nat) + (1 : Nat) + (1 : Nat) + (1 : Nat) + (1 : Nat) + (1 : Nat)) (FV.b false)).isB then bif ((0 : Nat) + (↑i : Int).toNat * (9 : Nat) + (1 :
     Nat) + (1 : Nat) + (1 : Nat) + (1 : Nat) + (1 : Nat) + (1 : Nat) + (1 : Nat)).blt (n * (9 : Nat)) then bif FV.isI IntKind.i64 (vs.getD ((0 : Nat) + (↑i : Int).toNat * (9 : Nat) + (1 : Nat) + (1 : Nat)
     + (1 : Nat) + (1 : Nat) + (1 : Nat) + (1 : Nat) + (1 : Nat)) (FV.b false)) then bif ((0 : Nat) + (↑i : Int).toNat * (9 : Nat) + (1 : Nat) + (1 : Nat) + (1 : Nat) + (1 : Nat) + (1 : Nat) + (1 : Nat) +
     (1 : Nat) + (1 : Nat)).blt (n * (9 : Nat)) then bif (vs.getD ((0 : Nat) + (↑i : Int).toNat * (9 : Nat) + (1 : Nat) + (1 : Nat) + (1 : Nat) + (1 : Nat) + (1 : Nat) + (1 : Nat) + (1 : Nat) + (1 : Nat))
     (FV.b false)).isB then bif (vs.getD ((0 : Nat) + (↑i : Int).toNat * (9 : Nat) + (1 : Nat)) (FV.b false)).asB then none else bif decide ((vs.getD ((0 : Nat) + (↑i : Int).toNat * (9 : Nat) + (1 : Nat) +
     (1 : Nat)) (FV.b false)).asI < now) then none else bif (vs.getD ((0 : Nat) + (↑i : Int).toNat * (9 : Nat)) (FV.b false)).asB then bif decide ((vs.getD ((0 : Nat) + (↑i : Int).toNat * (9 : Nat) + (1 :
     Nat) + (1 : Nat)) (FV.b false)).asI ≤ edge) then on [Value.bool false, Value.pointer (some (Addr.mk (1 : Nat) (0 : Nat) none)), Value.int IntKind.i64 w, Value.int IntKind.i64 last, Value.int
     IntKind.i64 edge, Value.int IntKind.i64 now, Value.int IntKind.i64 next, Value.slice (some (Addr.mk (0 : Nat) (0 : Nat) none)) n (2 : Nat), Value.int IntKind.i64 (↑n : Int), Value.int IntKind.i64
     (IntKind.i64.wrap ((↑i : Int) + (1 : Int)))] [some (Blk.mk false (9 : Nat) [Seg.any (n * (9 : Nat)) vs]), some (Blk.mk true (5 : Nat) [Seg.vals [Value.pointer (some (Addr.mk (2 : Nat) (0 : Nat)
     none))], Seg.ints IntKind.i64 (2 : Nat) [w, now], Seg.vals [Value.bool t, Value.pointer none]]), some (Blk.mk true (9 : Nat) [Seg.ints IntKind.i64 (9 : Nat) xs])] else none else none else none else
     none else none else none else none else none else none else none else none else none else none else none else none else none else none else none else none else none else none else none) (by kernel_rfl) (by simp only [-eq_self, Int.toNat_natCast, Nat.zero_add, swrap w1.1 w1.2]; exact (go_t (dec_t h1) (go_t (and_t (dec_t h2) (dec_t h1)) (go_t (blt_t h3) (go_t h4 (go_t (blt_t h5) (go_t h6 (go_t (blt_t h7) (go_t h8 (go_t (blt_t h9) (go_t h10 (go_t (blt_t h11) (go_t h12 (go_t (blt_t h13) (go_t h14 (go_t (blt_t h15) (go_t h16 (go_t (blt_t h17) (go_t h18 (go_t (blt_t h19) (go_t h20 (go_f h21 (go_f (dec_f h22) (go_t h23 (go_t (dec_t h24) rfl)))))))))))))))))))))))))
--CFEND
--CP p7xS (w last edge now next a : Int) (t : Bool) (m : Ms) (n i : Nat) (xs : List Int) (vs : List FV) (on : List Value → Heap → Out) (out : Exit → List Value → Heap → Out) :: roundK Try.prog ((mkS []).on [(36, false)]) noL Try.f7.ntmps 1 (loopOf Try.f7 0) live7 [.bool false, pt 1, w63 w, w63 last, w63 edge, w63 now, w63 next, sl 0 n 2, w63 n, w63 i] [opsB n vs, PBe 2 w now t (pt 3), eB true xs, WB true a m] on out
theorem p7xS (w last edge now next a : Int) (t : Bool) (m : Ms) (n i : Nat) (xs : List Int) (vs : List FV) (on : List Value → Heap → Out) (out : Exit → List Value → Heap → Out)
    (h1 : ¬(↑i : Int) < (↑n : Int) := by first | omega | assumption | rfl) : roundK Try.prog ((mkS []).on [(36, false)]) noL Try.f7.ntmps 1 (loopOf Try.f7 0) live7 [.bool false, pt 1, w63 w, w63 last, w63 edge, w63 now, w63 next, sl 0 n 2, w63 n, w63 i] [opsB n vs, PBe 2 w now t (pt 3), eB true xs, WB true a m] on out =
     (out (Exit.exit (0 : Nat)) [Value.bool false, Value.pointer (some (Addr.mk (1 : Nat) (0 : Nat) none)), Value.int IntKind.i64 w, Value.int IntKind.i64 last, Value.int IntKind.i64 edge, Value.int
     IntKind.i64 now, Value.int IntKind.i64 next, Value.slice (some (Addr.mk (0 : Nat) (0 : Nat) none)) n (2 : Nat), Value.int IntKind.i64 (↑n : Int), Value.int IntKind.i64 (↑i : Int)] [some (Blk.mk false
     (9 : Nat) [Seg.any (n * (9 : Nat)) vs]), some (Blk.mk true (5 : Nat) [Seg.vals [Value.pointer (some (Addr.mk (2 : Nat) (0 : Nat) none))], Seg.ints IntKind.i64 (2 : Nat) [w, now], Seg.vals [Value.bool
     t, Value.pointer (some (Addr.mk (3 : Nat) (0 : Nat) none))]]), some (Blk.mk true (9 : Nat) [Seg.ints IntKind.i64 (9 : Nat) xs]), some (Blk.mk true (7 : Nat) [Seg.ints IntKind.i64 (1 : Nat) [a],
     Seg.ints IntKind.u8 (1 : Nat) [m.kd], Seg.vals [Value.bool m.u], Seg.ints IntKind.i64 (1 : Nat) [m.s], Seg.vals [Value.bool m.l], Seg.ints IntKind.i64 (1 : Nat) [m.c], Seg.vals [Value.bool m.n]])]) :=
  Eq.trans (by kernel_rfl) (go_f (dec_f h1) rfl)
--CFEND
--CP p7c1S (w last edge now next a : Int) (t : Bool) (m : Ms) (n i : Nat) (xs : List Int) (vs : List FV) (on : List Value → Heap → Out) (out : Exit → List Value → Heap → Out) :: roundK Try.prog ((mkS []).on [(36, true), (41, true)]) noL Try.f7.ntmps 1 (loopOf Try.f7 0) live7 [.bool false, pt 1, w63 w, w63 last, w63 edge, w63 now, w63 next, sl 0 n 2, w63 n, w63 i] [opsB n vs, PBe 2 w now t (pt 3), eB true xs, WB true a m] on out
theorem p7c1S (w last edge now next a : Int) (t : Bool) (m : Ms) (n i : Nat) (xs : List Int) (vs : List FV) (on : List Value → Heap → Out) (out : Exit → List Value → Heap → Out)
    (w1 : -9223372036854775808 ≤ (↑i : Int) + (1 : Int) ∧ (↑i : Int) + (1 : Int) ≤ 9223372036854775807 := by omega)
    (h1 : (↑i : Int) < (↑n : Int) := by first | omega | assumption | rfl)
    (h2 : (0 : Int) ≤ (↑i : Int) := by first | omega | assumption | rfl)
    (h3 : i * (9 : Nat) < n * (9 : Nat) := by first | omega | assumption | rfl)
    (h4 : (vs.getD (i * (9 : Nat)) (FV.b false)).isB = true := by first | omega | assumption | rfl)
    (h5 : i * (9 : Nat) + (1 : Nat) < n * (9 : Nat) := by first | omega | assumption | rfl)
    (h6 : (vs.getD (i * (9 : Nat) + (1 : Nat)) (FV.b false)).isB = true := by first | omega | assumption | rfl)
    (h7 : i * (9 : Nat) + (2 : Nat) < n * (9 : Nat) := by first | omega | assumption | rfl)
    (h8 : FV.isI IntKind.i64 (vs.getD (i * (9 : Nat) + (2 : Nat)) (FV.b false)) = true := by first | omega | assumption | rfl)
    (h9 : i * (9 : Nat) + (3 : Nat) < n * (9 : Nat) := by first | omega | assumption | rfl)
    (h10 : FV.isI IntKind.u8 (vs.getD (i * (9 : Nat) + (3 : Nat)) (FV.b false)) = true := by first | omega | assumption | rfl)
    (h11 : i * (9 : Nat) + (4 : Nat) < n * (9 : Nat) := by first | omega | assumption | rfl)
    (h12 : (vs.getD (i * (9 : Nat) + (4 : Nat)) (FV.b false)).isB = true := by first | omega | assumption | rfl)
    (h13 : i * (9 : Nat) + (5 : Nat) < n * (9 : Nat) := by first | omega | assumption | rfl)
    (h14 : FV.isI IntKind.i64 (vs.getD (i * (9 : Nat) + (5 : Nat)) (FV.b false)) = true := by first | omega | assumption | rfl)
    (h15 : i * (9 : Nat) + (6 : Nat) < n * (9 : Nat) := by first | omega | assumption | rfl)
    (h16 : (vs.getD (i * (9 : Nat) + (6 : Nat)) (FV.b false)).isB = true := by first | omega | assumption | rfl)
    (h17 : i * (9 : Nat) + (7 : Nat) < n * (9 : Nat) := by first | omega | assumption | rfl)
    (h18 : FV.isI IntKind.i64 (vs.getD (i * (9 : Nat) + (7 : Nat)) (FV.b false)) = true := by first | omega | assumption | rfl)
    (h19 : i * (9 : Nat) + (8 : Nat) < n * (9 : Nat) := by first | omega | assumption | rfl)
    (h20 : (vs.getD (i * (9 : Nat) + (8 : Nat)) (FV.b false)).isB = true := by first | omega | assumption | rfl)
    (h21 : (vs.getD (i * (9 : Nat) + (1 : Nat)) (FV.b false)).asB = true := by first | omega | assumption | rfl) : roundK Try.prog ((mkS []).on [(36, true), (41, true)]) noL Try.f7.ntmps 1 (loopOf Try.f7 0) live7 [.bool false, pt 1, w63 w, w63 last, w63 edge, w63 now, w63 next, sl 0 n 2, w63 n, w63 i] [opsB n vs, PBe 2 w now t (pt 3), eB true xs, WB true a m] on out =
     (on [Value.bool false, Value.pointer (some (Addr.mk (1 : Nat) (0 : Nat) none)), Value.int IntKind.i64 w, Value.int IntKind.i64 last, Value.int IntKind.i64 edge, Value.int IntKind.i64 now, Value.int
     IntKind.i64 next, Value.slice (some (Addr.mk (0 : Nat) (0 : Nat) none)) n (2 : Nat), Value.int IntKind.i64 (↑n : Int), Value.int IntKind.i64 ((↑i : Int) + (1 : Int))] [some (Blk.mk false (9 : Nat)
     [Seg.any (n * (9 : Nat)) vs]), some (Blk.mk true (5 : Nat) [Seg.vals [Value.pointer (some (Addr.mk (2 : Nat) (0 : Nat) none))], Seg.ints IntKind.i64 (2 : Nat) [w, now], Seg.vals [Value.bool t,
     Value.pointer (some (Addr.mk (3 : Nat) (0 : Nat) none))]]), some (Blk.mk true (9 : Nat) [Seg.ints IntKind.i64 (9 : Nat) xs]), some (Blk.mk true (7 : Nat) [Seg.ints IntKind.i64 (1 : Nat) [a], Seg.ints
     IntKind.u8 (1 : Nat) [m.kd], Seg.vals [Value.bool m.u], Seg.ints IntKind.i64 (1 : Nat) [m.s], Seg.vals [Value.bool m.l], Seg.ints IntKind.i64 (1 : Nat) [m.c], Seg.vals [Value.bool m.n]])]) :=
  Eq.trans (b :=
     bif decide ((↑i : Int) < (↑n : Int)) then bif decide ((0 : Int) ≤ (↑i : Int)) && decide ((↑i : Int) < (↑n : Int)) then bif ((0 : Nat) + (↑i : Int).toNat * (9 : Nat)).blt (n * (9 : Nat)) then bif
     (vs.getD ((0 : Nat) + (↑i : Int).toNat * (9 : Nat)) (FV.b false)).isB then bif ((0 : Nat) + (↑i : Int).toNat * (9 : Nat) + (1 : Nat)).blt (n * (9 : Nat)) then bif (vs.getD ((0 : Nat) + (↑i :
     Int).toNat * (9 : Nat) + (1 : Nat)) (FV.b false)).isB then bif ((0 : Nat) + (↑i : Int).toNat * (9 : Nat) + (1 : Nat) + (1 : Nat)).blt (n * (9 : Nat)) then bif FV.isI IntKind.i64 (vs.getD ((0 : Nat) +
     (↑i : Int).toNat * (9 : Nat) + (1 : Nat) + (1 : Nat)) (FV.b false)) then bif ((0 : Nat) + (↑i : Int).toNat * (9 : Nat) + (1 : Nat) + (1 : Nat) + (1 : Nat)).blt (n * (9 : Nat)) then bif FV.isI
     IntKind.u8 (vs.getD ((0 : Nat) + (↑i : Int).toNat * (9 : Nat) + (1 : Nat) + (1 : Nat) + (1 : Nat)) (FV.b false)) then bif ((0 : Nat) + (↑i : Int).toNat * (9 : Nat) + (1 : Nat) + (1 : Nat) + (1 : Nat)
     + (1 : Nat)).blt (n * (9 : Nat)) then bif (vs.getD ((0 : Nat) + (↑i : Int).toNat * (9 : Nat) + (1 : Nat) + (1 : Nat) + (1 : Nat) + (1 : Nat)) (FV.b false)).isB then bif ((0 : Nat) + (↑i : Int).toNat *
     (9 : Nat) + (1 : Nat) + (1 : Nat) + (1 : Nat) + (1 : Nat) + (1 : Nat)).blt (n * (9 : Nat)) then bif FV.isI IntKind.i64 (vs.getD ((0 : Nat) + (↑i : Int).toNat * (9 : Nat) + (1 : Nat) + (1 : Nat) + (1 :
     Nat) + (1 : Nat) + (1 : Nat)) (FV.b false)) then bif ((0 : Nat) + (↑i : Int).toNat * (9 : Nat) + (1 : Nat) + (1 : Nat) + (1 : Nat) + (1 : Nat) + (1 : Nat) + (1 : Nat)).blt (n * (9 : Nat)) then bif
     (vs.getD ((0 : Nat) + (↑i : Int).toNat * (9 : Nat) + (1 : Nat) + (1 : Nat) + (1 : Nat) + (1 : Nat) + (1 : Nat) + (1 : Nat)) (FV.b false)).isB then bif ((0 : Nat) + (↑i : Int).toNat * (9 : Nat) + (1 :
     Nat) + (1 : Nat) + (1 : Nat) + (1 : Nat) + (1 : Nat) + (1 : Nat) + (1 : Nat)).blt (n * (9 : Nat)) then bif FV.isI IntKind.i64 (vs.getD ((0 : Nat) + (↑i : Int).toNat * (9 : Nat) + (1 : Nat) + (1 : Nat)
     + (1 : Nat) + (1 : Nat) + (1 : Nat) + (1 : Nat) + (1 : Nat)) (FV.b false)) then bif ((0 : Nat) + (↑i : Int).toNat * (9 : Nat) + (1 : Nat) + (1 : Nat) + (1 : Nat) + (1 : Nat) + (1 : Nat) + (1 : Nat) +
     (1 : Nat) + (1 : Nat)).blt (n * (9 : Nat)) then bif (vs.getD ((0 : Nat) + (↑i : Int).toNat * (9 : Nat) + (1 : Nat) + (1 : Nat) + (1 : Nat) + (1 : Nat) + (1 : Nat) + (1 : Nat) + (1 : Nat) + (1 : Nat))
     (FV.b false)).isB then bif (vs.getD ((0 : Nat) + (↑i : Int).toNat * (9 : Nat) + (1 : Nat)) (FV.b false)).asB then on [Value.bool false, Value.pointer (some (Addr.mk (1 : Nat) (0 : Nat) none)),
     Value.int IntKind.i64 w, Value.int IntKind.i64 last, Value.int IntKind.i64 edge, Value.int IntKind.i64 now, Value.int IntKind.i64 next, Value.slice (some (Addr.mk (0 : Nat) (0 : Nat) none)) n (2 :
     Nat), Value.int IntKind.i64 (↑n : Int), Value.int IntKind.i64 (IntKind.i64.wrap ((↑i : Int) + (1 : Int)))] [some (Blk.mk false (9 : Nat) [Seg.any (n * (9 : Nat)) vs]), some (Blk.mk true (5 : Nat)
     [Seg.vals [Value.pointer (some (Addr.mk (2 : Nat) (0 : Nat) none))], Seg.ints IntKind.i64 (2 : Nat) [w, now], Seg.vals [Value.bool t, Value.pointer (some (Addr.mk (3 : Nat) (0 : Nat) none))]]), some
     (Blk.mk true (9 : Nat) [Seg.ints IntKind.i64 (9 : Nat) xs]), some (Blk.mk true (7 : Nat) [Seg.ints IntKind.i64 (1 : Nat) [a], Seg.ints IntKind.u8 (1 : Nat) [m.kd], Seg.vals [Value.bool m.u], Seg.ints
     IntKind.i64 (1 : Nat) [m.s], Seg.vals [Value.bool m.l], Seg.ints IntKind.i64 (1 : Nat) [m.c], Seg.vals [Value.bool m.n]])] else none else none else none else none else none else none else none else
     none else none else none else none else none else none else none else none else none else none else none else none else none else none) (by kernel_rfl) (by simp only [-eq_self, Int.toNat_natCast, Nat.zero_add, swrap w1.1 w1.2]; exact (go_t (dec_t h1) (go_t (and_t (dec_t h2) (dec_t h1)) (go_t (blt_t h3) (go_t h4 (go_t (blt_t h5) (go_t h6 (go_t (blt_t h7) (go_t h8 (go_t (blt_t h9) (go_t h10 (go_t (blt_t h11) (go_t h12 (go_t (blt_t h13) (go_t h14 (go_t (blt_t h15) (go_t h16 (go_t (blt_t h17) (go_t h18 (go_t (blt_t h19) (go_t h20 (go_t h21 rfl))))))))))))))))))))))
--CFEND
--CP p7c2S (w last edge now next a : Int) (t : Bool) (m : Ms) (n i : Nat) (xs : List Int) (vs : List FV) (on : List Value → Heap → Out) (out : Exit → List Value → Heap → Out) :: roundK Try.prog ((mkS []).on [(36, true), (41, false), (47, true)]) noL Try.f7.ntmps 1 (loopOf Try.f7 0) live7 [.bool false, pt 1, w63 w, w63 last, w63 edge, w63 now, w63 next, sl 0 n 2, w63 n, w63 i] [opsB n vs, PBe 2 w now t (pt 3), eB true xs, WB true a m] on out
theorem p7c2S (w last edge now next a : Int) (t : Bool) (m : Ms) (n i : Nat) (xs : List Int) (vs : List FV) (on : List Value → Heap → Out) (out : Exit → List Value → Heap → Out)
    (w1 : -9223372036854775808 ≤ (↑i : Int) + (1 : Int) ∧ (↑i : Int) + (1 : Int) ≤ 9223372036854775807 := by omega)
    (h1 : (↑i : Int) < (↑n : Int) := by first | omega | assumption | rfl)
    (h2 : (0 : Int) ≤ (↑i : Int) := by first | omega | assumption | rfl)
    (h3 : i * (9 : Nat) < n * (9 : Nat) := by first | omega | assumption | rfl)
    (h4 : (vs.getD (i * (9 : Nat)) (FV.b false)).isB = true := by first | omega | assumption | rfl)
    (h5 : i * (9 : Nat) + (1 : Nat) < n * (9 : Nat) := by first | omega | assumption | rfl)
    (h6 : (vs.getD (i * (9 : Nat) + (1 : Nat)) (FV.b false)).isB = true := by first | omega | assumption | rfl)
    (h7 : i * (9 : Nat) + (2 : Nat) < n * (9 : Nat) := by first | omega | assumption | rfl)
    (h8 : FV.isI IntKind.i64 (vs.getD (i * (9 : Nat) + (2 : Nat)) (FV.b false)) = true := by first | omega | assumption | rfl)
    (h9 : i * (9 : Nat) + (3 : Nat) < n * (9 : Nat) := by first | omega | assumption | rfl)
    (h10 : FV.isI IntKind.u8 (vs.getD (i * (9 : Nat) + (3 : Nat)) (FV.b false)) = true := by first | omega | assumption | rfl)
    (h11 : i * (9 : Nat) + (4 : Nat) < n * (9 : Nat) := by first | omega | assumption | rfl)
    (h12 : (vs.getD (i * (9 : Nat) + (4 : Nat)) (FV.b false)).isB = true := by first | omega | assumption | rfl)
    (h13 : i * (9 : Nat) + (5 : Nat) < n * (9 : Nat) := by first | omega | assumption | rfl)
    (h14 : FV.isI IntKind.i64 (vs.getD (i * (9 : Nat) + (5 : Nat)) (FV.b false)) = true := by first | omega | assumption | rfl)
    (h15 : i * (9 : Nat) + (6 : Nat) < n * (9 : Nat) := by first | omega | assumption | rfl)
    (h16 : (vs.getD (i * (9 : Nat) + (6 : Nat)) (FV.b false)).isB = true := by first | omega | assumption | rfl)
    (h17 : i * (9 : Nat) + (7 : Nat) < n * (9 : Nat) := by first | omega | assumption | rfl)
    (h18 : FV.isI IntKind.i64 (vs.getD (i * (9 : Nat) + (7 : Nat)) (FV.b false)) = true := by first | omega | assumption | rfl)
    (h19 : i * (9 : Nat) + (8 : Nat) < n * (9 : Nat) := by first | omega | assumption | rfl)
    (h20 : (vs.getD (i * (9 : Nat) + (8 : Nat)) (FV.b false)).isB = true := by first | omega | assumption | rfl)
    (h21 : (vs.getD (i * (9 : Nat) + (1 : Nat)) (FV.b false)).asB = false := by first | omega | assumption | rfl)
    (h22 : (vs.getD (i * (9 : Nat) + (2 : Nat)) (FV.b false)).asI < now := by first | omega | assumption | rfl) : roundK Try.prog ((mkS []).on [(36, true), (41, false), (47, true)]) noL Try.f7.ntmps 1 (loopOf Try.f7 0) live7 [.bool false, pt 1, w63 w, w63 last, w63 edge, w63 now, w63 next, sl 0 n 2, w63 n, w63 i] [opsB n vs, PBe 2 w now t (pt 3), eB true xs, WB true a m] on out =
     (on [Value.bool false, Value.pointer (some (Addr.mk (1 : Nat) (0 : Nat) none)), Value.int IntKind.i64 w, Value.int IntKind.i64 last, Value.int IntKind.i64 edge, Value.int IntKind.i64 now, Value.int
     IntKind.i64 next, Value.slice (some (Addr.mk (0 : Nat) (0 : Nat) none)) n (2 : Nat), Value.int IntKind.i64 (↑n : Int), Value.int IntKind.i64 ((↑i : Int) + (1 : Int))] [some (Blk.mk false (9 : Nat)
     [Seg.any (n * (9 : Nat)) vs]), some (Blk.mk true (5 : Nat) [Seg.vals [Value.pointer (some (Addr.mk (2 : Nat) (0 : Nat) none))], Seg.ints IntKind.i64 (2 : Nat) [w, now], Seg.vals [Value.bool t,
     Value.pointer (some (Addr.mk (3 : Nat) (0 : Nat) none))]]), some (Blk.mk true (9 : Nat) [Seg.ints IntKind.i64 (9 : Nat) xs]), some (Blk.mk true (7 : Nat) [Seg.ints IntKind.i64 (1 : Nat) [a], Seg.ints
     IntKind.u8 (1 : Nat) [m.kd], Seg.vals [Value.bool m.u], Seg.ints IntKind.i64 (1 : Nat) [m.s], Seg.vals [Value.bool m.l], Seg.ints IntKind.i64 (1 : Nat) [m.c], Seg.vals [Value.bool m.n]])]) :=
  Eq.trans (b :=
     bif decide ((↑i : Int) < (↑n : Int)) then bif decide ((0 : Int) ≤ (↑i : Int)) && decide ((↑i : Int) < (↑n : Int)) then bif ((0 : Nat) + (↑i : Int).toNat * (9 : Nat)).blt (n * (9 : Nat)) then bif
     (vs.getD ((0 : Nat) + (↑i : Int).toNat * (9 : Nat)) (FV.b false)).isB then bif ((0 : Nat) + (↑i : Int).toNat * (9 : Nat) + (1 : Nat)).blt (n * (9 : Nat)) then bif (vs.getD ((0 : Nat) + (↑i :
     Int).toNat * (9 : Nat) + (1 : Nat)) (FV.b false)).isB then bif ((0 : Nat) + (↑i : Int).toNat * (9 : Nat) + (1 : Nat) + (1 : Nat)).blt (n * (9 : Nat)) then bif FV.isI IntKind.i64 (vs.getD ((0 : Nat) +
     (↑i : Int).toNat * (9 : Nat) + (1 : Nat) + (1 : Nat)) (FV.b false)) then bif ((0 : Nat) + (↑i : Int).toNat * (9 : Nat) + (1 : Nat) + (1 : Nat) + (1 : Nat)).blt (n * (9 : Nat)) then bif FV.isI
     IntKind.u8 (vs.getD ((0 : Nat) + (↑i : Int).toNat * (9 : Nat) + (1 : Nat) + (1 : Nat) + (1 : Nat)) (FV.b false)) then bif ((0 : Nat) + (↑i : Int).toNat * (9 : Nat) + (1 : Nat) + (1 : Nat) + (1 : Nat)
     + (1 : Nat)).blt (n * (9 : Nat)) then bif (vs.getD ((0 : Nat) + (↑i : Int).toNat * (9 : Nat) + (1 : Nat) + (1 : Nat) + (1 : Nat) + (1 : Nat)) (FV.b false)).isB then bif ((0 : Nat) + (↑i : Int).toNat *
     (9 : Nat) + (1 : Nat) + (1 : Nat) + (1 : Nat) + (1 : Nat) + (1 : Nat)).blt (n * (9 : Nat)) then bif FV.isI IntKind.i64 (vs.getD ((0 : Nat) + (↑i : Int).toNat * (9 : Nat) + (1 : Nat) + (1 : Nat) + (1 :
     Nat) + (1 : Nat) + (1 : Nat)) (FV.b false)) then bif ((0 : Nat) + (↑i : Int).toNat * (9 : Nat) + (1 : Nat) + (1 : Nat) + (1 : Nat) + (1 : Nat) + (1 : Nat) + (1 : Nat)).blt (n * (9 : Nat)) then bif
     (vs.getD ((0 : Nat) + (↑i : Int).toNat * (9 : Nat) + (1 : Nat) + (1 : Nat) + (1 : Nat) + (1 : Nat) + (1 : Nat) + (1 : Nat)) (FV.b false)).isB then bif ((0 : Nat) + (↑i : Int).toNat * (9 : Nat) + (1 :
     Nat) + (1 : Nat) + (1 : Nat) + (1 : Nat) + (1 : Nat) + (1 : Nat) + (1 : Nat)).blt (n * (9 : Nat)) then bif FV.isI IntKind.i64 (vs.getD ((0 : Nat) + (↑i : Int).toNat * (9 : Nat) + (1 : Nat) + (1 : Nat)
     + (1 : Nat) + (1 : Nat) + (1 : Nat) + (1 : Nat) + (1 : Nat)) (FV.b false)) then bif ((0 : Nat) + (↑i : Int).toNat * (9 : Nat) + (1 : Nat) + (1 : Nat) + (1 : Nat) + (1 : Nat) + (1 : Nat) + (1 : Nat) +
     (1 : Nat) + (1 : Nat)).blt (n * (9 : Nat)) then bif (vs.getD ((0 : Nat) + (↑i : Int).toNat * (9 : Nat) + (1 : Nat) + (1 : Nat) + (1 : Nat) + (1 : Nat) + (1 : Nat) + (1 : Nat) + (1 : Nat) + (1 : Nat))
     (FV.b false)).isB then bif (vs.getD ((0 : Nat) + (↑i : Int).toNat * (9 : Nat) + (1 : Nat)) (FV.b false)).asB then none else bif decide ((vs.getD ((0 : Nat) + (↑i : Int).toNat * (9 : Nat) + (1 : Nat) +
     (1 : Nat)) (FV.b false)).asI < now) then on [Value.bool false, Value.pointer (some (Addr.mk (1 : Nat) (0 : Nat) none)), Value.int IntKind.i64 w, Value.int IntKind.i64 last, Value.int IntKind.i64 edge,
     Value.int IntKind.i64 now, Value.int IntKind.i64 next, Value.slice (some (Addr.mk (0 : Nat) (0 : Nat) none)) n (2 : Nat), Value.int IntKind.i64 (↑n : Int), Value.int IntKind.i64 (IntKind.i64.wrap ((↑i
     : Int) + (1 : Int)))] [some (Blk.mk false (9 : Nat) [Seg.any (n * (9 : Nat)) vs]), some (Blk.mk true (5 : Nat) [Seg.vals [Value.pointer (some (Addr.mk (2 : Nat) (0 : Nat) none))], Seg.ints IntKind.i64
     (2 : Nat) [w, now], Seg.vals [Value.bool t, Value.pointer (some (Addr.mk (3 : Nat) (0 : Nat) none))]]), some (Blk.mk true (9 : Nat) [Seg.ints IntKind.i64 (9 : Nat) xs]), some (Blk.mk true (7 : Nat)
     [Seg.ints IntKind.i64 (1 : Nat) [a], Seg.ints IntKind.u8 (1 : Nat) [m.kd], Seg.vals [Value.bool m.u], Seg.ints IntKind.i64 (1 : Nat) [m.s], Seg.vals [Value.bool m.l], Seg.ints IntKind.i64 (1 : Nat)
     [m.c], Seg.vals [Value.bool m.n]])] else none else none else none else none else none else none else none else none else none else none else none else none else none else none else none else none else
     none else none else none else none else none) (by kernel_rfl) (by simp only [-eq_self, Int.toNat_natCast, Nat.zero_add, swrap w1.1 w1.2]; exact (go_t (dec_t h1) (go_t (and_t (dec_t h2) (dec_t h1)) (go_t (blt_t h3) (go_t h4 (go_t (blt_t h5) (go_t h6 (go_t (blt_t h7) (go_t h8 (go_t (blt_t h9) (go_t h10 (go_t (blt_t h11) (go_t h12 (go_t (blt_t h13) (go_t h14 (go_t (blt_t h15) (go_t h16 (go_t (blt_t h17) (go_t h18 (go_t (blt_t h19) (go_t h20 (go_f h21 (go_t (dec_t h22) rfl)))))))))))))))))))))))
--CFEND
--CP p7c3S (w last edge now next a : Int) (t : Bool) (m : Ms) (n i : Nat) (xs : List Int) (vs : List FV) (on : List Value → Heap → Out) (out : Exit → List Value → Heap → Out) :: roundK Try.prog ((mkS []).on [(36, true), (41, false), (47, false), (50, true), (56, true)]) noL Try.f7.ntmps 1 (loopOf Try.f7 0) live7 [.bool false, pt 1, w63 w, w63 last, w63 edge, w63 now, w63 next, sl 0 n 2, w63 n, w63 i] [opsB n vs, PBe 2 w now t (pt 3), eB true xs, WB true a m] on out
theorem p7c3S (w last edge now next a : Int) (t : Bool) (m : Ms) (n i : Nat) (xs : List Int) (vs : List FV) (on : List Value → Heap → Out) (out : Exit → List Value → Heap → Out)
    (w1 : -9223372036854775808 ≤ (↑i : Int) + (1 : Int) ∧ (↑i : Int) + (1 : Int) ≤ 9223372036854775807 := by omega)
    (h1 : (↑i : Int) < (↑n : Int) := by first | omega | assumption | rfl)
    (h2 : (0 : Int) ≤ (↑i : Int) := by first | omega | assumption | rfl)
    (h3 : i * (9 : Nat) < n * (9 : Nat) := by first | omega | assumption | rfl)
    (h4 : (vs.getD (i * (9 : Nat)) (FV.b false)).isB = true := by first | omega | assumption | rfl)
    (h5 : i * (9 : Nat) + (1 : Nat) < n * (9 : Nat) := by first | omega | assumption | rfl)
    (h6 : (vs.getD (i * (9 : Nat) + (1 : Nat)) (FV.b false)).isB = true := by first | omega | assumption | rfl)
    (h7 : i * (9 : Nat) + (2 : Nat) < n * (9 : Nat) := by first | omega | assumption | rfl)
    (h8 : FV.isI IntKind.i64 (vs.getD (i * (9 : Nat) + (2 : Nat)) (FV.b false)) = true := by first | omega | assumption | rfl)
    (h9 : i * (9 : Nat) + (3 : Nat) < n * (9 : Nat) := by first | omega | assumption | rfl)
    (h10 : FV.isI IntKind.u8 (vs.getD (i * (9 : Nat) + (3 : Nat)) (FV.b false)) = true := by first | omega | assumption | rfl)
    (h11 : i * (9 : Nat) + (4 : Nat) < n * (9 : Nat) := by first | omega | assumption | rfl)
    (h12 : (vs.getD (i * (9 : Nat) + (4 : Nat)) (FV.b false)).isB = true := by first | omega | assumption | rfl)
    (h13 : i * (9 : Nat) + (5 : Nat) < n * (9 : Nat) := by first | omega | assumption | rfl)
    (h14 : FV.isI IntKind.i64 (vs.getD (i * (9 : Nat) + (5 : Nat)) (FV.b false)) = true := by first | omega | assumption | rfl)
    (h15 : i * (9 : Nat) + (6 : Nat) < n * (9 : Nat) := by first | omega | assumption | rfl)
    (h16 : (vs.getD (i * (9 : Nat) + (6 : Nat)) (FV.b false)).isB = true := by first | omega | assumption | rfl)
    (h17 : i * (9 : Nat) + (7 : Nat) < n * (9 : Nat) := by first | omega | assumption | rfl)
    (h18 : FV.isI IntKind.i64 (vs.getD (i * (9 : Nat) + (7 : Nat)) (FV.b false)) = true := by first | omega | assumption | rfl)
    (h19 : i * (9 : Nat) + (8 : Nat) < n * (9 : Nat) := by first | omega | assumption | rfl)
    (h20 : (vs.getD (i * (9 : Nat) + (8 : Nat)) (FV.b false)).isB = true := by first | omega | assumption | rfl)
    (h21 : (vs.getD (i * (9 : Nat) + (1 : Nat)) (FV.b false)).asB = false := by first | omega | assumption | rfl)
    (h22 : ¬(vs.getD (i * (9 : Nat) + (2 : Nat)) (FV.b false)).asI < now := by first | omega | assumption | rfl)
    (h23 : (vs.getD (i * (9 : Nat)) (FV.b false)).asB = true := by first | omega | assumption | rfl)
    (h24 : (vs.getD (i * (9 : Nat) + (2 : Nat)) (FV.b false)).asI ≤ edge := by first | omega | assumption | rfl) : roundK Try.prog ((mkS []).on [(36, true), (41, false), (47, false), (50, true), (56, true)]) noL Try.f7.ntmps 1 (loopOf Try.f7 0) live7 [.bool false, pt 1, w63 w, w63 last, w63 edge, w63 now, w63 next, sl 0 n 2, w63 n, w63 i] [opsB n vs, PBe 2 w now t (pt 3), eB true xs, WB true a m] on out =
     (on [Value.bool false, Value.pointer (some (Addr.mk (1 : Nat) (0 : Nat) none)), Value.int IntKind.i64 w, Value.int IntKind.i64 last, Value.int IntKind.i64 edge, Value.int IntKind.i64 now, Value.int
     IntKind.i64 next, Value.slice (some (Addr.mk (0 : Nat) (0 : Nat) none)) n (2 : Nat), Value.int IntKind.i64 (↑n : Int), Value.int IntKind.i64 ((↑i : Int) + (1 : Int))] [some (Blk.mk false (9 : Nat)
     [Seg.any (n * (9 : Nat)) vs]), some (Blk.mk true (5 : Nat) [Seg.vals [Value.pointer (some (Addr.mk (2 : Nat) (0 : Nat) none))], Seg.ints IntKind.i64 (2 : Nat) [w, now], Seg.vals [Value.bool t,
     Value.pointer (some (Addr.mk (3 : Nat) (0 : Nat) none))]]), some (Blk.mk true (9 : Nat) [Seg.ints IntKind.i64 (9 : Nat) xs]), some (Blk.mk true (7 : Nat) [Seg.ints IntKind.i64 (1 : Nat) [a], Seg.ints
     IntKind.u8 (1 : Nat) [m.kd], Seg.vals [Value.bool m.u], Seg.ints IntKind.i64 (1 : Nat) [m.s], Seg.vals [Value.bool m.l], Seg.ints IntKind.i64 (1 : Nat) [m.c], Seg.vals [Value.bool m.n]])]) :=
  Eq.trans (b :=
     bif decide ((↑i : Int) < (↑n : Int)) then bif decide ((0 : Int) ≤ (↑i : Int)) && decide ((↑i : Int) < (↑n : Int)) then bif ((0 : Nat) + (↑i : Int).toNat * (9 : Nat)).blt (n * (9 : Nat)) then bif
     (vs.getD ((0 : Nat) + (↑i : Int).toNat * (9 : Nat)) (FV.b false)).isB then bif ((0 : Nat) + (↑i : Int).toNat * (9 : Nat) + (1 : Nat)).blt (n * (9 : Nat)) then bif (vs.getD ((0 : Nat) + (↑i :
     Int).toNat * (9 : Nat) + (1 : Nat)) (FV.b false)).isB then bif ((0 : Nat) + (↑i : Int).toNat * (9 : Nat) + (1 : Nat) + (1 : Nat)).blt (n * (9 : Nat)) then bif FV.isI IntKind.i64 (vs.getD ((0 : Nat) +
     (↑i : Int).toNat * (9 : Nat) + (1 : Nat) + (1 : Nat)) (FV.b false)) then bif ((0 : Nat) + (↑i : Int).toNat * (9 : Nat) + (1 : Nat) + (1 : Nat) + (1 : Nat)).blt (n * (9 : Nat)) then bif FV.isI
     IntKind.u8 (vs.getD ((0 : Nat) + (↑i : Int).toNat * (9 : Nat) + (1 : Nat) + (1 : Nat) + (1 : Nat)) (FV.b false)) then bif ((0 : Nat) + (↑i : Int).toNat * (9 : Nat) + (1 : Nat) + (1 : Nat) + (1 : Nat)
     + (1 : Nat)).blt (n * (9 : Nat)) then bif (vs.getD ((0 : Nat) + (↑i : Int).toNat * (9 : Nat) + (1 : Nat) + (1 : Nat) + (1 : Nat) + (1 : Nat)) (FV.b false)).isB then bif ((0 : Nat) + (↑i : Int).toNat *
     (9 : Nat) + (1 : Nat) + (1 : Nat) + (1 : Nat) + (1 : Nat) + (1 : Nat)).blt (n * (9 : Nat)) then bif FV.isI IntKind.i64 (vs.getD ((0 : Nat) + (↑i : Int).toNat * (9 : Nat) + (1 : Nat) + (1 : Nat) + (1 :
     Nat) + (1 : Nat) + (1 : Nat)) (FV.b false)) then bif ((0 : Nat) + (↑i : Int).toNat * (9 : Nat) + (1 : Nat) + (1 : Nat) + (1 : Nat) + (1 : Nat) + (1 : Nat) + (1 : Nat)).blt (n * (9 : Nat)) then bif
     (vs.getD ((0 : Nat) + (↑i : Int).toNat * (9 : Nat) + (1 : Nat) + (1 : Nat) + (1 : Nat) + (1 : Nat) + (1 : Nat) + (1 : Nat)) (FV.b false)).isB then bif ((0 : Nat) + (↑i : Int).toNat * (9 : Nat) + (1 :
     Nat) + (1 : Nat) + (1 : Nat) + (1 : Nat) + (1 : Nat) + (1 : Nat) + (1 : Nat)).blt (n * (9 : Nat)) then bif FV.isI IntKind.i64 (vs.getD ((0 : Nat) + (↑i : Int).toNat * (9 : Nat) + (1 : Nat) + (1 : Nat)
     + (1 : Nat) + (1 : Nat) + (1 : Nat) + (1 : Nat) + (1 : Nat)) (FV.b false)) then bif ((0 : Nat) + (↑i : Int).toNat * (9 : Nat) + (1 : Nat) + (1 : Nat) + (1 : Nat) + (1 : Nat) + (1 : Nat) + (1 : Nat) +
     (1 : Nat) + (1 : Nat)).blt (n * (9 : Nat)) then bif (vs.getD ((0 : Nat) + (↑i : Int).toNat * (9 : Nat) + (1 : Nat) + (1 : Nat) + (1 : Nat) + (1 : Nat) + (1 : Nat) + (1 : Nat) + (1 : Nat) + (1 : Nat))
     (FV.b false)).isB then bif (vs.getD ((0 : Nat) + (↑i : Int).toNat * (9 : Nat) + (1 : Nat)) (FV.b false)).asB then none else bif decide ((vs.getD ((0 : Nat) + (↑i : Int).toNat * (9 : Nat) + (1 : Nat) +
     (1 : Nat)) (FV.b false)).asI < now) then none else bif (vs.getD ((0 : Nat) + (↑i : Int).toNat * (9 : Nat)) (FV.b false)).asB then bif decide ((vs.getD ((0 : Nat) + (↑i : Int).toNat * (9 : Nat) + (1 :
     Nat) + (1 : Nat)) (FV.b false)).asI ≤ edge) then on [Value.bool false, Value.pointer (some (Addr.mk (1 : Nat) (0 : Nat) none)), Value.int IntKind.i64 w, Value.int IntKind.i64 last, Value.int
     IntKind.i64 edge, Value.int IntKind.i64 now, Value.int IntKind.i64 next, Value.slice (some (Addr.mk (0 : Nat) (0 : Nat) none)) n (2 : Nat), Value.int IntKind.i64 (↑n : Int), Value.int IntKind.i64
     (IntKind.i64.wrap ((↑i : Int) + (1 : Int)))] [some (Blk.mk false (9 : Nat) [Seg.any (n * (9 : Nat)) vs]), some (Blk.mk true (5 : Nat) [Seg.vals [Value.pointer (some (Addr.mk (2 : Nat) (0 : Nat)
     none))], Seg.ints IntKind.i64 (2 : Nat) [w, now], Seg.vals [Value.bool t, Value.pointer (some (Addr.mk (3 : Nat) (0 : Nat) none))]]), some (Blk.mk true (9 : Nat) [Seg.ints IntKind.i64 (9 : Nat) xs]),
     some (Blk.mk true (7 : Nat) [Seg.ints IntKind.i64 (1 : Nat) [a], Seg.ints IntKind.u8 (1 : Nat) [m.kd], Seg.vals [Value.bool m.u], Seg.ints IntKind.i64 (1 : Nat) [m.s], Seg.vals [Value.bool m.l],
     Seg.ints IntKind.i64 (1 : Nat) [m.c], Seg.vals [Value.bool m.n]])] else none else none else none else none else none else none else none else none else none else none else none else none else none
     else none else none else none else none else none else none else none else none else none) (by kernel_rfl) (by simp only [-eq_self, Int.toNat_natCast, Nat.zero_add, swrap w1.1 w1.2]; exact (go_t (dec_t h1) (go_t (and_t (dec_t h2) (dec_t h1)) (go_t (blt_t h3) (go_t h4 (go_t (blt_t h5) (go_t h6 (go_t (blt_t h7) (go_t h8 (go_t (blt_t h9) (go_t h10 (go_t (blt_t h11) (go_t h12 (go_t (blt_t h13) (go_t h14 (go_t (blt_t h15) (go_t h16 (go_t (blt_t h17) (go_t h18 (go_t (blt_t h19) (go_t h20 (go_f h21 (go_f (dec_f h22) (go_t h23 (go_t (dec_t h24) rfl)))))))))))))))))))))))))
--CFEND
--CP p7eN (w last edge now next : Int) (t : Bool) (n i : Nat) (xs : List Int) (vs : List FV) (on : List Value → Heap → Out) (out : Exit → List Value → Heap → Out) :: roundK Try.prog (S7eN.on [(36, true), (41, false), (47, false), (50, true), (56, false), (60, true)]) noL Try.f7.ntmps 1 (loopOf Try.f7 0) live7 [.bool false, pt 1, w63 w, w63 last, w63 edge, w63 now, w63 next, sl 0 n 2, w63 n, w63 i] [opsB n vs, PBe 2 w now t (.pointer none), eB true xs] on out
theorem p7eN (w last edge now next : Int) (t : Bool) (n i : Nat) (xs : List Int) (vs : List FV) (on : List Value → Heap → Out) (out : Exit → List Value → Heap → Out)
    (w1 : -9223372036854775808 ≤ (↑i : Int) + (1 : Int) ∧ (↑i : Int) + (1 : Int) ≤ 9223372036854775807 := by omega)
    (h1 : (↑i : Int) < (↑n : Int) := by first | omega | assumption | rfl)
    (h2 : (0 : Int) ≤ (↑i : Int) := by first | omega | assumption | rfl)
    (h3 : i * (9 : Nat) < n * (9 : Nat) := by first | omega | assumption | rfl)
    (h4 : (vs.getD (i * (9 : Nat)) (FV.b false)).isB = true := by first | omega | assumption | rfl)
    (h5 : i * (9 : Nat) + (1 : Nat) < n * (9 : Nat) := by first | omega | assumption | rfl)
    (h6 : (vs.getD (i * (9 : Nat) + (1 : Nat)) (FV.b false)).isB = true := by first | omega | assumption | rfl)
    (h7 : i * (9 : Nat) + (2 : Nat) < n * (9 : Nat) := by first | omega | assumption | rfl)
    (h8 : FV.isI IntKind.i64 (vs.getD (i * (9 : Nat) + (2 : Nat)) (FV.b false)) = true := by first | omega | assumption | rfl)
    (h9 : i * (9 : Nat) + (3 : Nat) < n * (9 : Nat) := by first | omega | assumption | rfl)
    (h10 : FV.isI IntKind.u8 (vs.getD (i * (9 : Nat) + (3 : Nat)) (FV.b false)) = true := by first | omega | assumption | rfl)
    (h11 : i * (9 : Nat) + (4 : Nat) < n * (9 : Nat) := by first | omega | assumption | rfl)
    (h12 : (vs.getD (i * (9 : Nat) + (4 : Nat)) (FV.b false)).isB = true := by first | omega | assumption | rfl)
    (h13 : i * (9 : Nat) + (5 : Nat) < n * (9 : Nat) := by first | omega | assumption | rfl)
    (h14 : FV.isI IntKind.i64 (vs.getD (i * (9 : Nat) + (5 : Nat)) (FV.b false)) = true := by first | omega | assumption | rfl)
    (h15 : i * (9 : Nat) + (6 : Nat) < n * (9 : Nat) := by first | omega | assumption | rfl)
    (h16 : (vs.getD (i * (9 : Nat) + (6 : Nat)) (FV.b false)).isB = true := by first | omega | assumption | rfl)
    (h17 : i * (9 : Nat) + (7 : Nat) < n * (9 : Nat) := by first | omega | assumption | rfl)
    (h18 : FV.isI IntKind.i64 (vs.getD (i * (9 : Nat) + (7 : Nat)) (FV.b false)) = true := by first | omega | assumption | rfl)
    (h19 : i * (9 : Nat) + (8 : Nat) < n * (9 : Nat) := by first | omega | assumption | rfl)
    (h20 : (vs.getD (i * (9 : Nat) + (8 : Nat)) (FV.b false)).isB = true := by first | omega | assumption | rfl)
    (h21 : (vs.getD (i * (9 : Nat) + (1 : Nat)) (FV.b false)).asB = false := by first | omega | assumption | rfl)
    (h22 : ¬(vs.getD (i * (9 : Nat) + (2 : Nat)) (FV.b false)).asI < now := by first | omega | assumption | rfl)
    (h23 : (vs.getD (i * (9 : Nat)) (FV.b false)).asB = true := by first | omega | assumption | rfl)
    (h24 : ¬(vs.getD (i * (9 : Nat) + (2 : Nat)) (FV.b false)).asI ≤ edge := by first | omega | assumption | rfl)
    (h25 : now ≤ (vs.getD (i * (9 : Nat) + (2 : Nat)) (FV.b false)).asI ∧ (0 : Int) ≤ xs.getD (8 : Nat) (0 : Int) ∧ xs.getD (8 : Nat) (0 : Int) ≤ (1000 : Int) ∧ lowB xs (vs.getD (i * (9 : Nat) + (2 : Nat)) (FV.b false)).asI = false := by first | omega | assumption | rfl) : roundK Try.prog (S7eN.on [(36, true), (41, false), (47, false), (50, true), (56, false), (60, true)]) noL Try.f7.ntmps 1 (loopOf Try.f7 0) live7 [.bool false, pt 1, w63 w, w63 last, w63 edge, w63 now, w63 next, sl 0 n 2, w63 n, w63 i] [opsB n vs, PBe 2 w now t (.pointer none), eB true xs] on out =
     (on [Value.bool false, Value.pointer (some (Addr.mk (1 : Nat) (0 : Nat) none)), Value.int IntKind.i64 w, Value.int IntKind.i64 last, Value.int IntKind.i64 (vs.getD (i * (9 : Nat) + (2 : Nat)) (FV.b
     false)).asI, Value.int IntKind.i64 (vs.getD (i * (9 : Nat) + (2 : Nat)) (FV.b false)).asI, Value.int IntKind.i64 next, Value.slice (some (Addr.mk (0 : Nat) (0 : Nat) none)) n (2 : Nat), Value.int
     IntKind.i64 (↑n : Int), Value.int IntKind.i64 ((↑i : Int) + (1 : Int))] [some (Blk.mk false (9 : Nat) [Seg.any (n * (9 : Nat)) vs]), some (Blk.mk true (5 : Nat) [Seg.vals [Value.pointer (some (Addr.mk
     (2 : Nat) (0 : Nat) none))], Seg.ints IntKind.i64 (2 : Nat) [w, (vs.getD (i * (9 : Nat) + (2 : Nat)) (FV.b false)).asI], Seg.vals [Value.bool false, Value.pointer none]]), some (Blk.mk true (9 : Nat)
     [Seg.ints IntKind.i64 (9 : Nat) (pushR xs (vs.getD (i * (9 : Nat) + (2 : Nat)) (FV.b false)).asI)])]) :=
  Eq.trans (b :=
     bif decide ((↑i : Int) < (↑n : Int)) then bif decide ((0 : Int) ≤ (↑i : Int)) && decide ((↑i : Int) < (↑n : Int)) then bif ((0 : Nat) + (↑i : Int).toNat * (9 : Nat)).blt (n * (9 : Nat)) then bif
     (vs.getD ((0 : Nat) + (↑i : Int).toNat * (9 : Nat)) (FV.b false)).isB then bif ((0 : Nat) + (↑i : Int).toNat * (9 : Nat) + (1 : Nat)).blt (n * (9 : Nat)) then bif (vs.getD ((0 : Nat) + (↑i :
     Int).toNat * (9 : Nat) + (1 : Nat)) (FV.b false)).isB then bif ((0 : Nat) + (↑i : Int).toNat * (9 : Nat) + (1 : Nat) + (1 : Nat)).blt (n * (9 : Nat)) then bif FV.isI IntKind.i64 (vs.getD ((0 : Nat) +
     (↑i : Int).toNat * (9 : Nat) + (1 : Nat) + (1 : Nat)) (FV.b false)) then bif ((0 : Nat) + (↑i : Int).toNat * (9 : Nat) + (1 : Nat) + (1 : Nat) + (1 : Nat)).blt (n * (9 : Nat)) then bif FV.isI
     IntKind.u8 (vs.getD ((0 : Nat) + (↑i : Int).toNat * (9 : Nat) + (1 : Nat) + (1 : Nat) + (1 : Nat)) (FV.b false)) then bif ((0 : Nat) + (↑i : Int).toNat * (9 : Nat) + (1 : Nat) + (1 : Nat) + (1 : Nat)
     + (1 : Nat)).blt (n * (9 : Nat)) then bif (vs.getD ((0 : Nat) + (↑i : Int).toNat * (9 : Nat) + (1 : Nat) + (1 : Nat) + (1 : Nat) + (1 : Nat)) (FV.b false)).isB then bif ((0 : Nat) + (↑i : Int).toNat *
     (9 : Nat) + (1 : Nat) + (1 : Nat) + (1 : Nat) + (1 : Nat) + (1 : Nat)).blt (n * (9 : Nat)) then bif FV.isI IntKind.i64 (vs.getD ((0 : Nat) + (↑i : Int).toNat * (9 : Nat) + (1 : Nat) + (1 : Nat) + (1 :
     Nat) + (1 : Nat) + (1 : Nat)) (FV.b false)) then bif ((0 : Nat) + (↑i : Int).toNat * (9 : Nat) + (1 : Nat) + (1 : Nat) + (1 : Nat) + (1 : Nat) + (1 : Nat) + (1 : Nat)).blt (n * (9 : Nat)) then bif
     (vs.getD ((0 : Nat) + (↑i : Int).toNat * (9 : Nat) + (1 : Nat) + (1 : Nat) + (1 : Nat) + (1 : Nat) + (1 : Nat) + (1 : Nat)) (FV.b false)).isB then bif ((0 : Nat) + (↑i : Int).toNat * (9 : Nat) + (1 :
     Nat) + (1 : Nat) + (1 : Nat) + (1 : Nat) + (1 : Nat) + (1 : Nat) + (1 : Nat)).blt (n * (9 : Nat)) then bif FV.isI IntKind.i64 (vs.getD ((0 : Nat) + (↑i : Int).toNat * (9 : Nat) + (1 : Nat) + (1 : Nat)
     + (1 : Nat) + (1 : Nat) + (1 : Nat) + (1 : Nat) + (1 : Nat)) (FV.b false)) then bif ((0 : Nat) + (↑i : Int).toNat * (9 : Nat) + (1 : Nat) + (1 : Nat) + (1 : Nat) + (1 : Nat) + (1 : Nat) + (1 : Nat) +
     (1 : Nat) + (1 : Nat)).blt (n * (9 : Nat)) then bif (vs.getD ((0 : Nat) + (↑i : Int).toNat * (9 : Nat) + (1 : Nat) + (1 : Nat) + (1 : Nat) + (1 : Nat) + (1 : Nat) + (1 : Nat) + (1 : Nat) + (1 : Nat))
     (FV.b false)).isB then bif (vs.getD ((0 : Nat) + (↑i : Int).toNat * (9 : Nat) + (1 : Nat)) (FV.b false)).asB then none else bif decide ((vs.getD ((0 : Nat) + (↑i : Int).toNat * (9 : Nat) + (1 : Nat) +
     (1 : Nat)) (FV.b false)).asI < now) then none else bif (vs.getD ((0 : Nat) + (↑i : Int).toNat * (9 : Nat)) (FV.b false)).asB then bif decide ((vs.getD ((0 : Nat) + (↑i : Int).toNat * (9 : Nat) + (1 :
     Nat) + (1 : Nat)) (FV.b false)).asI ≤ edge) then none else bif (vs.getD ((0 : Nat) + (↑i : Int).toNat * (9 : Nat)) (FV.b false)).asB then bif chk (now ≤ (vs.getD ((0 : Nat) + (↑i : Int).toNat * (9 :
     Nat) + (1 : Nat) + (1 : Nat)) (FV.b false)).asI ∧ (0 : Int) ≤ xs.getD (8 : Nat) (0 : Int) ∧ xs.getD (8 : Nat) (0 : Int) ≤ (1000 : Int) ∧ lowB xs (vs.getD ((0 : Nat) + (↑i : Int).toNat * (9 : Nat) + (1
     : Nat) + (1 : Nat)) (FV.b false)).asI = false) then on [Value.bool false, Value.pointer (some (Addr.mk (1 : Nat) (0 : Nat) none)), Value.int IntKind.i64 w, Value.int IntKind.i64 last, Value.int
     IntKind.i64 (vs.getD ((0 : Nat) + (↑i : Int).toNat * (9 : Nat) + (1 : Nat) + (1 : Nat)) (FV.b false)).asI, Value.int IntKind.i64 (vs.getD ((0 : Nat) + (↑i : Int).toNat * (9 : Nat) + (1 : Nat) + (1 :
     Nat)) (FV.b false)).asI, Value.int IntKind.i64 next, Value.slice (some (Addr.mk (0 : Nat) (0 : Nat) none)) n (2 : Nat), Value.int IntKind.i64 (↑n : Int), Value.int IntKind.i64 (IntKind.i64.wrap ((↑i :
     Int) + (1 : Int)))] [some (Blk.mk false (9 : Nat) [Seg.any (n * (9 : Nat)) vs]), some (Blk.mk true (5 : Nat) [Seg.vals [Value.pointer (some (Addr.mk (2 : Nat) (0 : Nat) none))], Seg.ints IntKind.i64
     (2 : Nat) [w, (vs.getD ((0 : Nat) + (↑i : Int).toNat * (9 : Nat) + (1 : Nat) + (1 : Nat)) (FV.b false)).asI], Seg.vals [Value.bool false, Value.pointer none]]), some (Blk.mk true (9 : Nat) [Seg.ints
     IntKind.i64 (9 : Nat) (pushR xs (vs.getD ((0 : Nat) + (↑i : Int).toNat * (9 : Nat) + (1 : Nat) + (1 : Nat)) (FV.b false)).asI)])] else none else none else none else none else none else none else none
     else none else none else none else none else none else none else none else none else none else none else none else none else none else none else none else none) (by kernel_rfl) (by simp only [-eq_self, Int.toNat_natCast, Nat.zero_add, swrap w1.1 w1.2]; exact (go_t (dec_t h1) (go_t (and_t (dec_t h2) (dec_t h1)) (go_t (blt_t h3) (go_t h4 (go_t (blt_t h5) (go_t h6 (go_t (blt_t h7) (go_t h8 (go_t (blt_t h9) (go_t h10 (go_t (blt_t h11) (go_t h12 (go_t (blt_t h13) (go_t h14 (go_t (blt_t h15) (go_t h16 (go_t (blt_t h17) (go_t h18 (go_t (blt_t h19) (go_t h20 (go_f h21 (go_f (dec_f h22) (go_t h23 (go_f (dec_f h24) (go_t h23 (go_t (chk_t h25) rfl)))))))))))))))))))))))))))
--CFEND
--CP p7eO (w last edge now next a : Int) (t : Bool) (m : Ms) (n i : Nat) (xs : List Int) (vs : List FV) (on : List Value → Heap → Out) (out : Exit → List Value → Heap → Out) :: roundK Try.prog (S7eO.on [(36, true), (41, false), (47, false), (50, true), (56, false), (60, true)]) noL Try.f7.ntmps 1 (loopOf Try.f7 0) live7 [.bool false, pt 1, w63 w, w63 last, w63 edge, w63 now, w63 next, sl 0 n 2, w63 n, w63 i] [opsB n vs, PBe 2 w now t (pt 3), eB true xs, WB true a m] on out
theorem p7eO (w last edge now next a : Int) (t : Bool) (m : Ms) (n i : Nat) (xs : List Int) (vs : List FV) (on : List Value → Heap → Out) (out : Exit → List Value → Heap → Out)
    (w1 : -9223372036854775808 ≤ (↑i : Int) + (1 : Int) ∧ (↑i : Int) + (1 : Int) ≤ 9223372036854775807 := by omega)
    (h1 : (↑i : Int) < (↑n : Int) := by first | omega | assumption | rfl)
    (h2 : (0 : Int) ≤ (↑i : Int) := by first | omega | assumption | rfl)
    (h3 : i * (9 : Nat) < n * (9 : Nat) := by first | omega | assumption | rfl)
    (h4 : (vs.getD (i * (9 : Nat)) (FV.b false)).isB = true := by first | omega | assumption | rfl)
    (h5 : i * (9 : Nat) + (1 : Nat) < n * (9 : Nat) := by first | omega | assumption | rfl)
    (h6 : (vs.getD (i * (9 : Nat) + (1 : Nat)) (FV.b false)).isB = true := by first | omega | assumption | rfl)
    (h7 : i * (9 : Nat) + (2 : Nat) < n * (9 : Nat) := by first | omega | assumption | rfl)
    (h8 : FV.isI IntKind.i64 (vs.getD (i * (9 : Nat) + (2 : Nat)) (FV.b false)) = true := by first | omega | assumption | rfl)
    (h9 : i * (9 : Nat) + (3 : Nat) < n * (9 : Nat) := by first | omega | assumption | rfl)
    (h10 : FV.isI IntKind.u8 (vs.getD (i * (9 : Nat) + (3 : Nat)) (FV.b false)) = true := by first | omega | assumption | rfl)
    (h11 : i * (9 : Nat) + (4 : Nat) < n * (9 : Nat) := by first | omega | assumption | rfl)
    (h12 : (vs.getD (i * (9 : Nat) + (4 : Nat)) (FV.b false)).isB = true := by first | omega | assumption | rfl)
    (h13 : i * (9 : Nat) + (5 : Nat) < n * (9 : Nat) := by first | omega | assumption | rfl)
    (h14 : FV.isI IntKind.i64 (vs.getD (i * (9 : Nat) + (5 : Nat)) (FV.b false)) = true := by first | omega | assumption | rfl)
    (h15 : i * (9 : Nat) + (6 : Nat) < n * (9 : Nat) := by first | omega | assumption | rfl)
    (h16 : (vs.getD (i * (9 : Nat) + (6 : Nat)) (FV.b false)).isB = true := by first | omega | assumption | rfl)
    (h17 : i * (9 : Nat) + (7 : Nat) < n * (9 : Nat) := by first | omega | assumption | rfl)
    (h18 : FV.isI IntKind.i64 (vs.getD (i * (9 : Nat) + (7 : Nat)) (FV.b false)) = true := by first | omega | assumption | rfl)
    (h19 : i * (9 : Nat) + (8 : Nat) < n * (9 : Nat) := by first | omega | assumption | rfl)
    (h20 : (vs.getD (i * (9 : Nat) + (8 : Nat)) (FV.b false)).isB = true := by first | omega | assumption | rfl)
    (h21 : (vs.getD (i * (9 : Nat) + (1 : Nat)) (FV.b false)).asB = false := by first | omega | assumption | rfl)
    (h22 : ¬(vs.getD (i * (9 : Nat) + (2 : Nat)) (FV.b false)).asI < now := by first | omega | assumption | rfl)
    (h23 : (vs.getD (i * (9 : Nat)) (FV.b false)).asB = true := by first | omega | assumption | rfl)
    (h24 : ¬(vs.getD (i * (9 : Nat) + (2 : Nat)) (FV.b false)).asI ≤ edge := by first | omega | assumption | rfl)
    (h25 : now ≤ (vs.getD (i * (9 : Nat) + (2 : Nat)) (FV.b false)).asI ∧ (0 : Int) ≤ xs.getD (8 : Nat) (0 : Int) ∧ xs.getD (8 : Nat) (0 : Int) ≤ (1000 : Int) ∧ lowB xs (vs.getD (i * (9 : Nat) + (2 : Nat)) (FV.b false)).asI = false ∧ (0 : Int) ≤ a ∧ a ≤ (vs.getD (i * (9 : Nat) + (2 : Nat)) (FV.b false)).asI ∧ w < (vs.getD (i * (9 : Nat) + (2 : Nat)) (FV.b false)).asI - a := by first | omega | assumption | rfl) : roundK Try.prog (S7eO.on [(36, true), (41, false), (47, false), (50, true), (56, false), (60, true)]) noL Try.f7.ntmps 1 (loopOf Try.f7 0) live7 [.bool false, pt 1, w63 w, w63 last, w63 edge, w63 now, w63 next, sl 0 n 2, w63 n, w63 i] [opsB n vs, PBe 2 w now t (pt 3), eB true xs, WB true a m] on out =
     (on [Value.bool false, Value.pointer (some (Addr.mk (1 : Nat) (0 : Nat) none)), Value.int IntKind.i64 w, Value.int IntKind.i64 last, Value.int IntKind.i64 (vs.getD (i * (9 : Nat) + (2 : Nat)) (FV.b
     false)).asI, Value.int IntKind.i64 (vs.getD (i * (9 : Nat) + (2 : Nat)) (FV.b false)).asI, Value.int IntKind.i64 next, Value.slice (some (Addr.mk (0 : Nat) (0 : Nat) none)) n (2 : Nat), Value.int
     IntKind.i64 (↑n : Int), Value.int IntKind.i64 ((↑i : Int) + (1 : Int))] [some (Blk.mk false (9 : Nat) [Seg.any (n * (9 : Nat)) vs]), some (Blk.mk true (5 : Nat) [Seg.vals [Value.pointer (some (Addr.mk
     (2 : Nat) (0 : Nat) none))], Seg.ints IntKind.i64 (2 : Nat) [w, (vs.getD (i * (9 : Nat) + (2 : Nat)) (FV.b false)).asI], Seg.vals [Value.bool false, Value.pointer none]]), some (Blk.mk true (9 : Nat)
     [Seg.ints IntKind.i64 (9 : Nat) (pushR xs (vs.getD (i * (9 : Nat) + (2 : Nat)) (FV.b false)).asI)])]) :=
  Eq.trans (b :=
     bif decide ((↑i : Int) < (↑n : Int)) then bif decide ((0 : Int) ≤ (↑i : Int)) && decide ((↑i : Int) < (↑n : Int)) then bif ((0 : Nat) + (↑i : Int).toNat * (9 : Nat)).blt (n * (9 : Nat)) then bif
     (vs.getD ((0 : Nat) + (↑i : Int).toNat * (9 : Nat)) (FV.b false)).isB then bif ((0 : Nat) + (↑i : Int).toNat * (9 : Nat) + (1 : Nat)).blt (n * (9 : Nat)) then bif (vs.getD ((0 : Nat) + (↑i :
     Int).toNat * (9 : Nat) + (1 : Nat)) (FV.b false)).isB then bif ((0 : Nat) + (↑i : Int).toNat * (9 : Nat) + (1 : Nat) + (1 : Nat)).blt (n * (9 : Nat)) then bif FV.isI IntKind.i64 (vs.getD ((0 : Nat) +
     (↑i : Int).toNat * (9 : Nat) + (1 : Nat) + (1 : Nat)) (FV.b false)) then bif ((0 : Nat) + (↑i : Int).toNat * (9 : Nat) + (1 : Nat) + (1 : Nat) + (1 : Nat)).blt (n * (9 : Nat)) then bif FV.isI
     IntKind.u8 (vs.getD ((0 : Nat) + (↑i : Int).toNat * (9 : Nat) + (1 : Nat) + (1 : Nat) + (1 : Nat)) (FV.b false)) then bif ((0 : Nat) + (↑i : Int).toNat * (9 : Nat) + (1 : Nat) + (1 : Nat) + (1 : Nat)
     + (1 : Nat)).blt (n * (9 : Nat)) then bif (vs.getD ((0 : Nat) + (↑i : Int).toNat * (9 : Nat) + (1 : Nat) + (1 : Nat) + (1 : Nat) + (1 : Nat)) (FV.b false)).isB then bif ((0 : Nat) + (↑i : Int).toNat *
     (9 : Nat) + (1 : Nat) + (1 : Nat) + (1 : Nat) + (1 : Nat) + (1 : Nat)).blt (n * (9 : Nat)) then bif FV.isI IntKind.i64 (vs.getD ((0 : Nat) + (↑i : Int).toNat * (9 : Nat) + (1 : Nat) + (1 : Nat) + (1 :
     Nat) + (1 : Nat) + (1 : Nat)) (FV.b false)) then bif ((0 : Nat) + (↑i : Int).toNat * (9 : Nat) + (1 : Nat) + (1 : Nat) + (1 : Nat) + (1 : Nat) + (1 : Nat) + (1 : Nat)).blt (n * (9 : Nat)) then bif
     (vs.getD ((0 : Nat) + (↑i : Int).toNat * (9 : Nat) + (1 : Nat) + (1 : Nat) + (1 : Nat) + (1 : Nat) + (1 : Nat) + (1 : Nat)) (FV.b false)).isB then bif ((0 : Nat) + (↑i : Int).toNat * (9 : Nat) + (1 :
     Nat) + (1 : Nat) + (1 : Nat) + (1 : Nat) + (1 : Nat) + (1 : Nat) + (1 : Nat)).blt (n * (9 : Nat)) then bif FV.isI IntKind.i64 (vs.getD ((0 : Nat) + (↑i : Int).toNat * (9 : Nat) + (1 : Nat) + (1 : Nat)
     + (1 : Nat) + (1 : Nat) + (1 : Nat) + (1 : Nat) + (1 : Nat)) (FV.b false)) then bif ((0 : Nat) + (↑i : Int).toNat * (9 : Nat) + (1 : Nat) + (1 : Nat) + (1 : Nat) + (1 : Nat) + (1 : Nat) + (1 : Nat) +
     (1 : Nat) + (1 : Nat)).blt (n * (9 : Nat)) then bif (vs.getD ((0 : Nat) + (↑i : Int).toNat * (9 : Nat) + (1 : Nat) + (1 : Nat) + (1 : Nat) + (1 : Nat) + (1 : Nat) + (1 : Nat) + (1 : Nat) + (1 : Nat))
     (FV.b false)).isB then bif (vs.getD ((0 : Nat) + (↑i : Int).toNat * (9 : Nat) + (1 : Nat)) (FV.b false)).asB then none else bif decide ((vs.getD ((0 : Nat) + (↑i : Int).toNat * (9 : Nat) + (1 : Nat) +
     (1 : Nat)) (FV.b false)).asI < now) then none else bif (vs.getD ((0 : Nat) + (↑i : Int).toNat * (9 : Nat)) (FV.b false)).asB then bif decide ((vs.getD ((0 : Nat) + (↑i : Int).toNat * (9 : Nat) + (1 :
     Nat) + (1 : Nat)) (FV.b false)).asI ≤ edge) then none else bif (vs.getD ((0 : Nat) + (↑i : Int).toNat * (9 : Nat)) (FV.b false)).asB then bif chk (now ≤ (vs.getD ((0 : Nat) + (↑i : Int).toNat * (9 :
     Nat) + (1 : Nat) + (1 : Nat)) (FV.b false)).asI ∧ (0 : Int) ≤ xs.getD (8 : Nat) (0 : Int) ∧ xs.getD (8 : Nat) (0 : Int) ≤ (1000 : Int) ∧ lowB xs (vs.getD ((0 : Nat) + (↑i : Int).toNat * (9 : Nat) + (1
     : Nat) + (1 : Nat)) (FV.b false)).asI = false ∧ (0 : Int) ≤ a ∧ a ≤ (vs.getD ((0 : Nat) + (↑i : Int).toNat * (9 : Nat) + (1 : Nat) + (1 : Nat)) (FV.b false)).asI ∧ w < (vs.getD ((0 : Nat) + (↑i :
     Int).toNat * (9 : Nat) + (1 : Nat) + (1 : Nat)) (FV.b false)).asI - a) then on [Value.bool false, Value.pointer (some (Addr.mk (1 : Nat) (0 : Nat) none)), Value.int IntKind.i64 w, Value.int
     IntKind.i64 last, Value.int IntKind.i64 (vs.getD ((0 : Nat) + (↑i : Int).toNat * (9 : Nat) + (1 : Nat) + (1 : Nat)) (FV.b false)).asI, Value.int IntKind.i64 (vs.getD ((0 : Nat) + (↑i : Int).toNat * (9
     : Nat) + (1 : Nat) + (1 : Nat)) (FV.b false)).asI, Value.int IntKind.i64 next, Value.slice (some (Addr.mk (0 : Nat) (0 : Nat) none)) n (2 : Nat), Value.int IntKind.i64 (↑n : Int), Value.int
     IntKind.i64 (IntKind.i64.wrap ((↑i : Int) + (1 : Int)))] [some (Blk.mk false (9 : Nat) [Seg.any (n * (9 : Nat)) vs]), some (Blk.mk true (5 : Nat) [Seg.vals [Value.pointer (some (Addr.mk (2 : Nat) (0 :
     Nat) none))], Seg.ints IntKind.i64 (2 : Nat) [w, (vs.getD ((0 : Nat) + (↑i : Int).toNat * (9 : Nat) + (1 : Nat) + (1 : Nat)) (FV.b false)).asI], Seg.vals [Value.bool false, Value.pointer none]]), some
     (Blk.mk true (9 : Nat) [Seg.ints IntKind.i64 (9 : Nat) (pushR xs (vs.getD ((0 : Nat) + (↑i : Int).toNat * (9 : Nat) + (1 : Nat) + (1 : Nat)) (FV.b false)).asI)])] else none else none else none else
     none else none else none else none else none else none else none else none else none else none else none else none else none else none else none else none else none else none else none else none) (by kernel_rfl) (by simp only [-eq_self, Int.toNat_natCast, Nat.zero_add, swrap w1.1 w1.2]; exact (go_t (dec_t h1) (go_t (and_t (dec_t h2) (dec_t h1)) (go_t (blt_t h3) (go_t h4 (go_t (blt_t h5) (go_t h6 (go_t (blt_t h7) (go_t h8 (go_t (blt_t h9) (go_t h10 (go_t (blt_t h11) (go_t h12 (go_t (blt_t h13) (go_t h14 (go_t (blt_t h15) (go_t h16 (go_t (blt_t h17) (go_t h18 (go_t (blt_t h19) (go_t h20 (go_f h21 (go_f (dec_f h22) (go_t h23 (go_f (dec_f h24) (go_t h23 (go_t (chk_t h25) rfl)))))))))))))))))))))))))))
--CFEND
--CP p7eI (w last edge now next a : Int) (t : Bool) (m : Ms) (n i : Nat) (xs : List Int) (vs : List FV) (on : List Value → Heap → Out) (out : Exit → List Value → Heap → Out) :: roundK Try.prog (S7eI.on [(36, true), (41, false), (47, false), (50, true), (56, false), (60, true), (76, false), (83, false), (91, false), (139, false)]) noL Try.f7.ntmps 1 (loopOf Try.f7 0) live7 [.bool false, pt 1, w63 w, w63 last, w63 edge, w63 now, w63 next, sl 0 n 2, w63 n, w63 i] [opsB n vs, PBe 2 w now t (pt 3), eB true xs, WB true a m] on out
theorem p7eI (w last edge now next a : Int) (t : Bool) (m : Ms) (n i : Nat) (xs : List Int) (vs : List FV) (on : List Value → Heap → Out) (out : Exit → List Value → Heap → Out)
    (w1 : -9223372036854775808 ≤ (vs.getD (i * (9 : Nat) + (2 : Nat)) (FV.b false)).asI - next ∧ (vs.getD (i * (9 : Nat) + (2 : Nat)) (FV.b false)).asI - next ≤ 9223372036854775807 := by omega)
    (w2 : -9223372036854775808 ≤ (↑i : Int) + (1 : Int) ∧ (↑i : Int) + (1 : Int) ≤ 9223372036854775807 := by omega)
    (h1 : (↑i : Int) < (↑n : Int) := by first | omega | assumption | rfl)
    (h2 : (0 : Int) ≤ (↑i : Int) := by first | omega | assumption | rfl)
    (h3 : i * (9 : Nat) < n * (9 : Nat) := by first | omega | assumption | rfl)
    (h4 : (vs.getD (i * (9 : Nat)) (FV.b false)).isB = true := by first | omega | assumption | rfl)
    (h5 : i * (9 : Nat) + (1 : Nat) < n * (9 : Nat) := by first | omega | assumption | rfl)
    (h6 : (vs.getD (i * (9 : Nat) + (1 : Nat)) (FV.b false)).isB = true := by first | omega | assumption | rfl)
    (h7 : i * (9 : Nat) + (2 : Nat) < n * (9 : Nat) := by first | omega | assumption | rfl)
    (h8 : FV.isI IntKind.i64 (vs.getD (i * (9 : Nat) + (2 : Nat)) (FV.b false)) = true := by first | omega | assumption | rfl)
    (h9 : i * (9 : Nat) + (3 : Nat) < n * (9 : Nat) := by first | omega | assumption | rfl)
    (h10 : FV.isI IntKind.u8 (vs.getD (i * (9 : Nat) + (3 : Nat)) (FV.b false)) = true := by first | omega | assumption | rfl)
    (h11 : i * (9 : Nat) + (4 : Nat) < n * (9 : Nat) := by first | omega | assumption | rfl)
    (h12 : (vs.getD (i * (9 : Nat) + (4 : Nat)) (FV.b false)).isB = true := by first | omega | assumption | rfl)
    (h13 : i * (9 : Nat) + (5 : Nat) < n * (9 : Nat) := by first | omega | assumption | rfl)
    (h14 : FV.isI IntKind.i64 (vs.getD (i * (9 : Nat) + (5 : Nat)) (FV.b false)) = true := by first | omega | assumption | rfl)
    (h15 : i * (9 : Nat) + (6 : Nat) < n * (9 : Nat) := by first | omega | assumption | rfl)
    (h16 : (vs.getD (i * (9 : Nat) + (6 : Nat)) (FV.b false)).isB = true := by first | omega | assumption | rfl)
    (h17 : i * (9 : Nat) + (7 : Nat) < n * (9 : Nat) := by first | omega | assumption | rfl)
    (h18 : FV.isI IntKind.i64 (vs.getD (i * (9 : Nat) + (7 : Nat)) (FV.b false)) = true := by first | omega | assumption | rfl)
    (h19 : i * (9 : Nat) + (8 : Nat) < n * (9 : Nat) := by first | omega | assumption | rfl)
    (h20 : (vs.getD (i * (9 : Nat) + (8 : Nat)) (FV.b false)).isB = true := by first | omega | assumption | rfl)
    (h21 : (vs.getD (i * (9 : Nat) + (1 : Nat)) (FV.b false)).asB = false := by first | omega | assumption | rfl)
    (h22 : ¬(vs.getD (i * (9 : Nat) + (2 : Nat)) (FV.b false)).asI < now := by first | omega | assumption | rfl)
    (h23 : (vs.getD (i * (9 : Nat)) (FV.b false)).asB = true := by first | omega | assumption | rfl)
    (h24 : ¬(vs.getD (i * (9 : Nat) + (2 : Nat)) (FV.b false)).asI ≤ edge := by first | omega | assumption | rfl)
    (h25 : now ≤ (vs.getD (i * (9 : Nat) + (2 : Nat)) (FV.b false)).asI ∧ (0 : Int) ≤ xs.getD (8 : Nat) (0 : Int) ∧ xs.getD (8 : Nat) (0 : Int) ≤ (1000 : Int) ∧ lowB xs (vs.getD (i * (9 : Nat) + (2 : Nat)) (FV.b false)).asI = false ∧ (0 : Int) ≤ a ∧ a ≤ (vs.getD (i * (9 : Nat) + (2 : Nat)) (FV.b false)).asI ∧ (vs.getD (i * (9 : Nat) + (2 : Nat)) (FV.b false)).asI - a ≤ w := by first | omega | assumption | rfl)
    (h26 : m.n = true := by first | omega | assumption | rfl)
    (h27 : (vs.getD (i * (9 : Nat) + (2 : Nat)) (FV.b false)).asI = (vs.getD (i * (9 : Nat) + (2 : Nat)) (FV.b false)).asI := by first | omega | assumption | rfl)
    (h28 : ¬(vs.getD (i * (9 : Nat) + (2 : Nat)) (FV.b false)).asI - next > w := by first | omega | assumption | rfl)
    (h29 : ¬(vs.getD (i * (9 : Nat) + (2 : Nat)) (FV.b false)).asI ≤ last := by first | omega | assumption | rfl) : roundK Try.prog (S7eI.on [(36, true), (41, false), (47, false), (50, true), (56, false), (60, true), (76, false), (83, false), (91, false), (139, false)]) noL Try.f7.ntmps 1 (loopOf Try.f7 0) live7 [.bool false, pt 1, w63 w, w63 last, w63 edge, w63 now, w63 next, sl 0 n 2, w63 n, w63 i] [opsB n vs, PBe 2 w now t (pt 3), eB true xs, WB true a m] on out =
     (on [Value.bool false, Value.pointer (some (Addr.mk (1 : Nat) (0 : Nat) none)), Value.int IntKind.i64 w, Value.int IntKind.i64 (vs.getD (i * (9 : Nat) + (2 : Nat)) (FV.b false)).asI, Value.int
     IntKind.i64 (vs.getD (i * (9 : Nat) + (2 : Nat)) (FV.b false)).asI, Value.int IntKind.i64 (vs.getD (i * (9 : Nat) + (2 : Nat)) (FV.b false)).asI, Value.int IntKind.i64 next, Value.slice (some (Addr.mk
     (0 : Nat) (0 : Nat) none)) n (2 : Nat), Value.int IntKind.i64 (↑n : Int), Value.int IntKind.i64 ((↑i : Int) + (1 : Int))] [some (Blk.mk false (9 : Nat) [Seg.any (n * (9 : Nat)) vs]), some (Blk.mk true
     (5 : Nat) [Seg.vals [Value.pointer (some (Addr.mk (2 : Nat) (0 : Nat) none))], Seg.ints IntKind.i64 (2 : Nat) [w, (vs.getD (i * (9 : Nat) + (2 : Nat)) (FV.b false)).asI], Seg.vals [Value.bool true,
     Value.pointer none]]), some (Blk.mk true (9 : Nat) [Seg.ints IntKind.i64 (9 : Nat) (pushR xs (vs.getD (i * (9 : Nat) + (2 : Nat)) (FV.b false)).asI)])]) :=
  Eq.trans (b :=
     bif decide ((↑i : Int) < (↑n : Int)) then bif decide ((0 : Int) ≤ (↑i : Int)) && decide ((↑i : Int) < (↑n : Int)) then bif ((0 : Nat) + (↑i : Int).toNat * (9 : Nat)).blt (n * (9 : Nat)) then bif
     (vs.getD ((0 : Nat) + (↑i : Int).toNat * (9 : Nat)) (FV.b false)).isB then bif ((0 : Nat) + (↑i : Int).toNat * (9 : Nat) + (1 : Nat)).blt (n * (9 : Nat)) then bif (vs.getD ((0 : Nat) + (↑i :
     Int).toNat * (9 : Nat) + (1 : Nat)) (FV.b false)).isB then bif ((0 : Nat) + (↑i : Int).toNat * (9 : Nat) + (1 : Nat) + (1 : Nat)).blt (n * (9 : Nat)) then bif FV.isI IntKind.i64 (vs.getD ((0 : Nat) +
     (↑i : Int).toNat * (9 : Nat) + (1 : Nat) + (1 : Nat)) (FV.b false)) then bif ((0 : Nat) + (↑i : Int).toNat * (9 : Nat) + (1 : Nat) + (1 : Nat) + (1 : Nat)).blt (n * (9 : Nat)) then bif FV.isI
     IntKind.u8 (vs.getD ((0 : Nat) + (↑i : Int).toNat * (9 : Nat) + (1 : Nat) + (1 : Nat) + (1 : Nat)) (FV.b false)) then bif ((0 : Nat) + (↑i : Int).toNat * (9 : Nat) + (1 : Nat) + (1 : Nat) + (1 : Nat)
     + (1 : Nat)).blt (n * (9 : Nat)) then bif (vs.getD ((0 : Nat) + (↑i : Int).toNat * (9 : Nat) + (1 : Nat) + (1 : Nat) + (1 : Nat) + (1 : Nat)) (FV.b false)).isB then bif ((0 : Nat) + (↑i : Int).toNat *
     (9 : Nat) + (1 : Nat) + (1 : Nat) + (1 : Nat) + (1 : Nat) + (1 : Nat)).blt (n * (9 : Nat)) then bif FV.isI IntKind.i64 (vs.getD ((0 : Nat) + (↑i : Int).toNat * (9 : Nat) + (1 : Nat) + (1 : Nat) + (1 :
     Nat) + (1 : Nat) + (1 : Nat)) (FV.b false)) then bif ((0 : Nat) + (↑i : Int).toNat * (9 : Nat) + (1 : Nat) + (1 : Nat) + (1 : Nat) + (1 : Nat) + (1 : Nat) + (1 : Nat)).blt (n * (9 : Nat)) then bif
     (vs.getD ((0 : Nat) + (↑i : Int).toNat * (9 : Nat) + (1 : Nat) + (1 : Nat) + (1 : Nat) + (1 : Nat) + (1 : Nat) + (1 : Nat)) (FV.b false)).isB then bif ((0 : Nat) + (↑i : Int).toNat * (9 : Nat) + (1 :
     Nat) + (1 : Nat) + (1 : Nat) + (1 : Nat) + (1 : Nat) + (1 : Nat) + (1 : Nat)).blt (n * (9 : Nat)) then bif FV.isI IntKind.i64 (vs.getD ((0 : Nat) + (↑i : Int).toNat * (9 : Nat) + (1 : Nat) + (1 : Nat)
     + (1 : Nat) + (1 : Nat) + (1 : Nat) + (1 : Nat) + (1 : Nat)) (FV.b false)) then bif ((0 : Nat) + (↑i : Int).toNat * (9 : Nat) + (1 : Nat) + (1 : Nat) + (1 : Nat) + (1 : Nat) + (1 : Nat) + (1 : Nat) +
     (1 : Nat) + (1 : Nat)).blt (n * (9 : Nat)) then bif (vs.getD ((0 : Nat) + (↑i : Int).toNat * (9 : Nat) + (1 : Nat) + (1 : Nat) + (1 : Nat) + (1 : Nat) + (1 : Nat) + (1 : Nat) + (1 : Nat) + (1 : Nat))
     (FV.b false)).isB then bif (vs.getD ((0 : Nat) + (↑i : Int).toNat * (9 : Nat) + (1 : Nat)) (FV.b false)).asB then none else bif decide ((vs.getD ((0 : Nat) + (↑i : Int).toNat * (9 : Nat) + (1 : Nat) +
     (1 : Nat)) (FV.b false)).asI < now) then none else bif (vs.getD ((0 : Nat) + (↑i : Int).toNat * (9 : Nat)) (FV.b false)).asB then bif decide ((vs.getD ((0 : Nat) + (↑i : Int).toNat * (9 : Nat) + (1 :
     Nat) + (1 : Nat)) (FV.b false)).asI ≤ edge) then none else bif (vs.getD ((0 : Nat) + (↑i : Int).toNat * (9 : Nat)) (FV.b false)).asB then bif chk (now ≤ (vs.getD ((0 : Nat) + (↑i : Int).toNat * (9 :
     Nat) + (1 : Nat) + (1 : Nat)) (FV.b false)).asI ∧ (0 : Int) ≤ xs.getD (8 : Nat) (0 : Int) ∧ xs.getD (8 : Nat) (0 : Int) ≤ (1000 : Int) ∧ lowB xs (vs.getD ((0 : Nat) + (↑i : Int).toNat * (9 : Nat) + (1
     : Nat) + (1 : Nat)) (FV.b false)).asI = false ∧ (0 : Int) ≤ a ∧ a ≤ (vs.getD ((0 : Nat) + (↑i : Int).toNat * (9 : Nat) + (1 : Nat) + (1 : Nat)) (FV.b false)).asI ∧ (vs.getD ((0 : Nat) + (↑i :
     Int).toNat * (9 : Nat) + (1 : Nat) + (1 : Nat)) (FV.b false)).asI - a ≤ w) then bif !m.n then none else bif (vs.getD ((0 : Nat) + (↑i : Int).toNat * (9 : Nat) + (1 : Nat) + (1 : Nat)) (FV.b
     false)).asI != (vs.getD ((0 : Nat) + (↑i : Int).toNat * (9 : Nat) + (1 : Nat) + (1 : Nat)) (FV.b false)).asI then none else bif decide (IntKind.i64.wrap ((vs.getD ((0 : Nat) + (↑i : Int).toNat * (9 :
     Nat) + (1 : Nat) + (1 : Nat)) (FV.b false)).asI - next) > w) then none else bif decide ((vs.getD ((0 : Nat) + (↑i : Int).toNat * (9 : Nat) + (1 : Nat) + (1 : Nat)) (FV.b false)).asI ≤ last) then none
     else on [Value.bool false, Value.pointer (some (Addr.mk (1 : Nat) (0 : Nat) none)), Value.int IntKind.i64 w, Value.int IntKind.i64 (vs.getD ((0 : Nat) + (↑i : Int).toNat * (9 : Nat) + (1 : Nat) + (1 :
     Nat)) (FV.b false)).asI, Value.int IntKind.i64 (vs.getD ((0 : Nat) + (↑i : Int).toNat * (9 : Nat) + (1 : Nat) + (1 : Nat)) (FV.b false)).asI, Value.int IntKind.i64 (vs.getD ((0 : Nat) + (↑i :
     Int).toNat * (9 : Nat) + (1 : Nat) + (1 : Nat)) (FV.b false)).asI, Value.int IntKind.i64 next, Value.slice (some (Addr.mk (0 : Nat) (0 : Nat) none)) n (2 : Nat), Value.int IntKind.i64 (↑n : Int),
     Value.int IntKind.i64 (IntKind.i64.wrap ((↑i : Int) + (1 : Int)))] [some (Blk.mk false (9 : Nat) [Seg.any (n * (9 : Nat)) vs]), some (Blk.mk true (5 : Nat) [Seg.vals [Value.pointer (some (Addr.mk (2 :
     Nat) (0 : Nat) none))], Seg.ints IntKind.i64 (2 : Nat) [w, (vs.getD ((0 : Nat) + (↑i : Int).toNat * (9 : Nat) + (1 : Nat) + (1 : Nat)) (FV.b false)).asI], Seg.vals [Value.bool true, Value.pointer
     none]]), some (Blk.mk true (9 : Nat) [Seg.ints IntKind.i64 (9 : Nat) (pushR xs (vs.getD ((0 : Nat) + (↑i : Int).toNat * (9 : Nat) + (1 : Nat) + (1 : Nat)) (FV.b false)).asI)])] else none else none
     else none else none else none else none else none else none else none else none else none else none else none else none else none else none else none else none else none else none else none else none
     else none) (by kernel_rfl) (by simp only [-eq_self, Int.toNat_natCast, Nat.zero_add, swrap w1.1 w1.2, swrap w2.1 w2.2]; exact (go_t (dec_t h1) (go_t (and_t (dec_t h2) (dec_t h1)) (go_t (blt_t h3) (go_t h4 (go_t (blt_t h5) (go_t h6 (go_t (blt_t h7) (go_t h8 (go_t (blt_t h9) (go_t h10 (go_t (blt_t h11) (go_t h12 (go_t (blt_t h13) (go_t h14 (go_t (blt_t h15) (go_t h16 (go_t (blt_t h17) (go_t h18 (go_t (blt_t h19) (go_t h20 (go_f h21 (go_f (dec_f h22) (go_t h23 (go_f (dec_f h24) (go_t h23 (go_t (chk_t h25) (go_f (not_f h26) (go_f (bne_f h27) (go_f (dec_f h28) (go_f (dec_f h29) rfl)))))))))))))))))))))))))))))))
--CFEND
--CP p7mNN (w last edge now next : Int) (t : Bool) (n i : Nat) (xs : List Int) (vs : List FV) (on : List Value → Heap → Out) (out : Exit → List Value → Heap → Out) :: roundK Try.prog (S7mN.on [(36, true), (41, false), (47, false), (50, false), (60, false), (103, true)]) noL Try.f7.ntmps 1 (loopOf Try.f7 0) live7 [.bool false, pt 1, w63 w, w63 last, w63 edge, w63 now, w63 next, sl 0 n 2, w63 n, w63 i] [opsB n vs, PBe 2 w now t (.pointer none), eB true xs] on out
theorem p7mNN (w last edge now next : Int) (t : Bool) (n i : Nat) (xs : List Int) (vs : List FV) (on : List Value → Heap → Out) (out : Exit → List Value → Heap → Out)
    (w1 : -9223372036854775808 ≤ (↑i : Int) + (1 : Int) ∧ (↑i : Int) + (1 : Int) ≤ 9223372036854775807 := by omega)
    (h1 : (↑i : Int) < (↑n : Int) := by first | omega | assumption | rfl)
    (h2 : (0 : Int) ≤ (↑i : Int) := by first | omega | assumption | rfl)
    (h3 : i * (9 : Nat) < n * (9 : Nat) := by first | omega | assumption | rfl)
    (h4 : (vs.getD (i * (9 : Nat)) (FV.b false)).isB = true := by first | omega | assumption | rfl)
    (h5 : i * (9 : Nat) + (1 : Nat) < n * (9 : Nat) := by first | omega | assumption | rfl)
    (h6 : (vs.getD (i * (9 : Nat) + (1 : Nat)) (FV.b false)).isB = true := by first | omega | assumption | rfl)
    (h7 : i * (9 : Nat) + (2 : Nat) < n * (9 : Nat) := by first | omega | assumption | rfl)
    (h8 : FV.isI IntKind.i64 (vs.getD (i * (9 : Nat) + (2 : Nat)) (FV.b false)) = true := by first | omega | assumption | rfl)
    (h9 : i * (9 : Nat) + (3 : Nat) < n * (9 : Nat) := by first | omega | assumption | rfl)
    (h10 : FV.isI IntKind.u8 (vs.getD (i * (9 : Nat) + (3 : Nat)) (FV.b false)) = true := by first | omega | assumption | rfl)
    (h11 : i * (9 : Nat) + (4 : Nat) < n * (9 : Nat) := by first | omega | assumption | rfl)
    (h12 : (vs.getD (i * (9 : Nat) + (4 : Nat)) (FV.b false)).isB = true := by first | omega | assumption | rfl)
    (h13 : i * (9 : Nat) + (5 : Nat) < n * (9 : Nat) := by first | omega | assumption | rfl)
    (h14 : FV.isI IntKind.i64 (vs.getD (i * (9 : Nat) + (5 : Nat)) (FV.b false)) = true := by first | omega | assumption | rfl)
    (h15 : i * (9 : Nat) + (6 : Nat) < n * (9 : Nat) := by first | omega | assumption | rfl)
    (h16 : (vs.getD (i * (9 : Nat) + (6 : Nat)) (FV.b false)).isB = true := by first | omega | assumption | rfl)
    (h17 : i * (9 : Nat) + (7 : Nat) < n * (9 : Nat) := by first | omega | assumption | rfl)
    (h18 : FV.isI IntKind.i64 (vs.getD (i * (9 : Nat) + (7 : Nat)) (FV.b false)) = true := by first | omega | assumption | rfl)
    (h19 : i * (9 : Nat) + (8 : Nat) < n * (9 : Nat) := by first | omega | assumption | rfl)
    (h20 : (vs.getD (i * (9 : Nat) + (8 : Nat)) (FV.b false)).isB = true := by first | omega | assumption | rfl)
    (h21 : (vs.getD (i * (9 : Nat) + (1 : Nat)) (FV.b false)).asB = false := by first | omega | assumption | rfl)
    (h22 : ¬(vs.getD (i * (9 : Nat) + (2 : Nat)) (FV.b false)).asI < now := by first | omega | assumption | rfl)
    (h23 : (vs.getD (i * (9 : Nat)) (FV.b false)).asB = false := by first | omega | assumption | rfl)
    (h24 : now ≤ (vs.getD (i * (9 : Nat) + (2 : Nat)) (FV.b false)).asI ∧ (vs.getD (i * (9 : Nat) + (8 : Nat)) (FV.b false)).asB = true := by first | omega | assumption | rfl)
    (h25 : (vs.getD (i * (9 : Nat) + (8 : Nat)) (FV.b false)).asB = true := by first | omega | assumption | rfl) : roundK Try.prog (S7mN.on [(36, true), (41, false), (47, false), (50, false), (60, false), (103, true)]) noL Try.f7.ntmps 1 (loopOf Try.f7 0) live7 [.bool false, pt 1, w63 w, w63 last, w63 edge, w63 now, w63 next, sl 0 n 2, w63 n, w63 i] [opsB n vs, PBe 2 w now t (.pointer none), eB true xs] on out =
     (on [Value.bool false, Value.pointer (some (Addr.mk (1 : Nat) (0 : Nat) none)), Value.int IntKind.i64 w, Value.int IntKind.i64 last, Value.int IntKind.i64 edge, Value.int IntKind.i64 (vs.getD (i * (9
     : Nat) + (2 : Nat)) (FV.b false)).asI, Value.int IntKind.i64 (vs.getD (i * (9 : Nat) + (2 : Nat)) (FV.b false)).asI, Value.slice (some (Addr.mk (0 : Nat) (0 : Nat) none)) n (2 : Nat), Value.int
     IntKind.i64 (↑n : Int), Value.int IntKind.i64 ((↑i : Int) + (1 : Int))] [some (Blk.mk false (9 : Nat) [Seg.any (n * (9 : Nat)) vs]), some (Blk.mk true (5 : Nat) [Seg.vals [Value.pointer (some (Addr.mk
     (2 : Nat) (0 : Nat) none))], Seg.ints IntKind.i64 (2 : Nat) [w, (vs.getD (i * (9 : Nat) + (2 : Nat)) (FV.b false)).asI], Seg.vals [Value.bool t, Value.pointer (some (Addr.mk (3 : Nat) (0 : Nat)
     none))]]), some (Blk.mk true (9 : Nat) [Seg.ints IntKind.i64 (9 : Nat) xs]), some (Blk.mk true (7 : Nat) [Seg.ints IntKind.i64 (1 : Nat) [(vs.getD (i * (9 : Nat) + (2 : Nat)) (FV.b false)).asI],
     Seg.ints IntKind.u8 (1 : Nat) [(vs.getD (i * (9 : Nat) + (3 : Nat)) (FV.b false)).asI], Seg.vals [Value.bool (vs.getD (i * (9 : Nat) + (4 : Nat)) (FV.b false)).asB], Seg.ints IntKind.i64 (1 : Nat)
     [(vs.getD (i * (9 : Nat) + (5 : Nat)) (FV.b false)).asI], Seg.vals [Value.bool (vs.getD (i * (9 : Nat) + (6 : Nat)) (FV.b false)).asB], Seg.ints IntKind.i64 (1 : Nat) [(vs.getD (i * (9 : Nat) + (7 :
     Nat)) (FV.b false)).asI], Seg.vals [Value.bool (vs.getD (i * (9 : Nat) + (8 : Nat)) (FV.b false)).asB]])]) :=
  Eq.trans (b :=
     bif decide ((↑i : Int) < (↑n : Int)) then bif decide ((0 : Int) ≤ (↑i : Int)) && decide ((↑i : Int) < (↑n : Int)) then bif ((0 : Nat) + (↑i : Int).toNat * (9 : Nat)).blt (n * (9 : Nat)) then bif
     (vs.getD ((0 : Nat) + (↑i : Int).toNat * (9 : Nat)) (FV.b false)).isB then bif ((0 : Nat) + (↑i : Int).toNat * (9 : Nat) + (1 : Nat)).blt (n * (9 : Nat)) then bif (vs.getD ((0 : Nat) + (↑i :
     Int).toNat * (9 : Nat) + (1 : Nat)) (FV.b false)).isB then bif ((0 : Nat) + (↑i : Int).toNat * (9 : Nat) + (1 : Nat) + (1 : Nat)).blt (n * (9 : Nat)) then bif FV.isI IntKind.i64 (vs.getD ((0 : Nat) +
     (↑i : Int).toNat * (9 : Nat) + (1 : Nat) + (1 : Nat)) (FV.b false)) then bif ((0 : Nat) + (↑i : Int).toNat * (9 : Nat) + (1 : Nat) + (1 : Nat) + (1 : Nat)).blt (n * (9 : Nat)) then bif FV.isI
     IntKind.u8 (vs.getD ((0 : Nat) + (↑i : Int).toNat * (9 : Nat) + (1 : Nat) + (1 : Nat) + (1 : Nat)) (FV.b false)) then bif ((0 : Nat) + (↑i : Int).toNat * (9 : Nat) + (1 : Nat) + (1 : Nat) + (1 : Nat)
     + (1 : Nat)).blt (n * (9 : Nat)) then bif (vs.getD ((0 : Nat) + (↑i : Int).toNat * (9 : Nat) + (1 : Nat) + (1 : Nat) + (1 : Nat) + (1 : Nat)) (FV.b false)).isB then bif ((0 : Nat) + (↑i : Int).toNat *
     (9 : Nat) + (1 : Nat) + (1 : Nat) + (1 : Nat) + (1 : Nat) + (1 : Nat)).blt (n * (9 : Nat)) then bif FV.isI IntKind.i64 (vs.getD ((0 : Nat) + (↑i : Int).toNat * (9 : Nat) + (1 : Nat) + (1 : Nat) + (1 :
     Nat) + (1 : Nat) + (1 : Nat)) (FV.b false)) then bif ((0 : Nat) + (↑i : Int).toNat * (9 : Nat) + (1 : Nat) + (1 : Nat) + (1 : Nat) + (1 : Nat) + (1 : Nat) + (1 : Nat)).blt (n * (9 : Nat)) then bif
     (vs.getD ((0 : Nat) + (↑i : Int).toNat * (9 : Nat) + (1 : Nat) + (1 : Nat) + (1 : Nat) + (1 : Nat) + (1 : Nat) + (1 : Nat)) (FV.b false)).isB then bif ((0 : Nat) + (↑i : Int).toNat * (9 : Nat) + (1 :
     Nat) + (1 : Nat) + (1 : Nat) + (1 : Nat) + (1 : Nat) + (1 : Nat) + (1 : Nat)).blt (n * (9 : Nat)) then bif FV.isI IntKind.i64 (vs.getD ((0 : Nat) + (↑i : Int).toNat * (9 : Nat) + (1 : Nat) + (1 : Nat)
     + (1 : Nat) + (1 : Nat) + (1 : Nat) + (1 : Nat) + (1 : Nat)) (FV.b false)) then bif ((0 : Nat) + (↑i : Int).toNat * (9 : Nat) + (1 : Nat) + (1 : Nat) + (1 : Nat) + (1 : Nat) + (1 : Nat) + (1 : Nat) +
     (1 : Nat) + (1 : Nat)).blt (n * (9 : Nat)) then bif (vs.getD ((0 : Nat) + (↑i : Int).toNat * (9 : Nat) + (1 : Nat) + (1 : Nat) + (1 : Nat) + (1 : Nat) + (1 : Nat) + (1 : Nat) + (1 : Nat) + (1 : Nat))
     (FV.b false)).isB then bif (vs.getD ((0 : Nat) + (↑i : Int).toNat * (9 : Nat) + (1 : Nat)) (FV.b false)).asB then none else bif decide ((vs.getD ((0 : Nat) + (↑i : Int).toNat * (9 : Nat) + (1 : Nat) +
     (1 : Nat)) (FV.b false)).asI < now) then none else bif (vs.getD ((0 : Nat) + (↑i : Int).toNat * (9 : Nat)) (FV.b false)).asB then none else bif (vs.getD ((0 : Nat) + (↑i : Int).toNat * (9 : Nat))
     (FV.b false)).asB then none else bif chk (now ≤ (vs.getD ((0 : Nat) + (↑i : Int).toNat * (9 : Nat) + (1 : Nat) + (1 : Nat)) (FV.b false)).asI ∧ (vs.getD ((0 : Nat) + (↑i : Int).toNat * (9 : Nat) + (1
     : Nat) + (1 : Nat) + (1 : Nat) + (1 : Nat) + (1 : Nat) + (1 : Nat) + (1 : Nat) + (1 : Nat)) (FV.b false)).asB = true) then bif (vs.getD ((0 : Nat) + (↑i : Int).toNat * (9 : Nat) + (1 : Nat) + (1 :
     Nat) + (1 : Nat) + (1 : Nat) + (1 : Nat) + (1 : Nat) + (1 : Nat) + (1 : Nat)) (FV.b false)).asB then on [Value.bool false, Value.pointer (some (Addr.mk (1 : Nat) (0 : Nat) none)), Value.int
     IntKind.i64 w, Value.int IntKind.i64 last, Value.int IntKind.i64 edge, Value.int IntKind.i64 (vs.getD ((0 : Nat) + (↑i : Int).toNat * (9 : Nat) + (1 : Nat) + (1 : Nat)) (FV.b false)).asI, Value.int
     IntKind.i64 (vs.getD ((0 : Nat) + (↑i : Int).toNat * (9 : Nat) + (1 : Nat) + (1 : Nat)) (FV.b false)).asI, Value.slice (some (Addr.mk (0 : Nat) (0 : Nat) none)) n (2 : Nat), Value.int IntKind.i64 (↑n
     : Int), Value.int IntKind.i64 (IntKind.i64.wrap ((↑i : Int) + (1 : Int)))] [some (Blk.mk false (9 : Nat) [Seg.any (n * (9 : Nat)) vs]), some (Blk.mk true (5 : Nat) [Seg.vals [Value.pointer (some
     (Addr.mk (2 : Nat) (0 : Nat) none))], Seg.ints IntKind.i64 (2 : Nat) [w, (vs.getD ((0 : Nat) + (↑i : Int).toNat * (9 : Nat) + (1 : Nat) + (1 : Nat)) (FV.b false)).asI], Seg.vals [Value.bool t,
     Value.pointer (some (Addr.mk (3 : Nat) (0 : Nat) none))]]), some (Blk.mk true (9 : Nat) [Seg.ints IntKind.i64 (9 : Nat) xs]), some (Blk.mk true (7 : Nat) [Seg.ints IntKind.i64 (1 : Nat) [(vs.getD ((0
     : Nat) + (↑i : Int).toNat * (9 : Nat) + (1 : Nat) + (1 : Nat)) (FV.b false)).asI], Seg.ints IntKind.u8 (1 : Nat) [(vs.getD ((0 : Nat) + (↑i : Int).toNat * (9 : Nat) + (1 : Nat) + (1 : Nat) + (1 :
     Nat)) (FV.b false)).asI], Seg.vals [Value.bool (vs.getD ((0 : Nat) + (↑i : Int).toNat * (9 : Nat) + (1 : Nat) + (1 : Nat) + (1 : Nat) + (1 : Nat)) (FV.b false)).asB], Seg.ints IntKind.i64 (1 : Nat)
     [(vs.getD ((0 : Nat) + (↑i : Int).toNat * (9 : Nat) + (1 : Nat) + (1 : Nat) + (1 : Nat) + (1 : Nat) + (1 : Nat)) (FV.b false)).asI], Seg.vals [Value.bool (vs.getD ((0 : Nat) + (↑i : Int).toNat * (9 :
     Nat) + (1 : Nat) + (1 : Nat) + (1 : Nat) + (1 : Nat) + (1 : Nat) + (1 : Nat)) (FV.b false)).asB], Seg.ints IntKind.i64 (1 : Nat) [(vs.getD ((0 : Nat) + (↑i : Int).toNat * (9 : Nat) + (1 : Nat) + (1 :
     Nat) + (1 : Nat) + (1 : Nat) + (1 : Nat) + (1 : Nat) + (1 : Nat)) (FV.b false)).asI], Seg.vals [Value.bool (vs.getD ((0 : Nat) + (↑i : Int).toNat * (9 : Nat) + (1 : Nat) + (1 : Nat) + (1 : Nat) + (1 :
     Nat) + (1 : Nat) + (1 : Nat) + (1 : Nat) + (1 : Nat)) (FV.b false)).asB]])] else none else none else none else none else none else none else none else none else none else none else none else none else
     none else none else none else none else none else none else none else none else none else none) (by kernel_rfl) (by simp only [-eq_self, Int.toNat_natCast, Nat.zero_add, swrap w1.1 w1.2]; exact (go_t (dec_t h1) (go_t (and_t (dec_t h2) (dec_t h1)) (go_t (blt_t h3) (go_t h4 (go_t (blt_t h5) (go_t h6 (go_t (blt_t h7) (go_t h8 (go_t (blt_t h9) (go_t h10 (go_t (blt_t h11) (go_t h12 (go_t (blt_t h13) (go_t h14 (go_t (blt_t h15) (go_t h16 (go_t (blt_t h17) (go_t h18 (go_t (blt_t h19) (go_t h20 (go_f h21 (go_f (dec_f h22) (go_f h23 (go_f h23 (go_t (chk_t h24) (go_t h25 rfl)))))))))))))))))))))))))))
--CFEND
--CP p7mXN (w last edge now next : Int) (t : Bool) (n i : Nat) (xs : List Int) (vs : List FV) (on : List Value → Heap → Out) (out : Exit → List Value → Heap → Out) :: roundK Try.prog (S7mX.on [(36, true), (41, false), (47, false), (50, false), (60, false), (103, false)]) noL Try.f7.ntmps 1 (loopOf Try.f7 0) live7 [.bool false, pt 1, w63 w, w63 last, w63 edge, w63 now, w63 next, sl 0 n 2, w63 n, w63 i] [opsB n vs, PBe 2 w now t (.pointer none), eB true xs] on out
theorem p7mXN (w last edge now next : Int) (t : Bool) (n i : Nat) (xs : List Int) (vs : List FV) (on : List Value → Heap → Out) (out : Exit → List Value → Heap → Out)
    (w1 : -9223372036854775808 ≤ (↑i : Int) + (1 : Int) ∧ (↑i : Int) + (1 : Int) ≤ 9223372036854775807 := by omega)
    (h1 : (↑i : Int) < (↑n : Int) := by first | omega | assumption | rfl)
    (h2 : (0 : Int) ≤ (↑i : Int) := by first | omega | assumption | rfl)
    (h3 : i * (9 : Nat) < n * (9 : Nat) := by first | omega | assumption | rfl)
    (h4 : (vs.getD (i * (9 : Nat)) (FV.b false)).isB = true := by first | omega | assumption | rfl)
    (h5 : i * (9 : Nat) + (1 : Nat) < n * (9 : Nat) := by first | omega | assumption | rfl)
    (h6 : (vs.getD (i * (9 : Nat) + (1 : Nat)) (FV.b false)).isB = true := by first | omega | assumption | rfl)
    (h7 : i * (9 : Nat) + (2 : Nat) < n * (9 : Nat) := by first | omega | assumption | rfl)
    (h8 : FV.isI IntKind.i64 (vs.getD (i * (9 : Nat) + (2 : Nat)) (FV.b false)) = true := by first | omega | assumption | rfl)
    (h9 : i * (9 : Nat) + (3 : Nat) < n * (9 : Nat) := by first | omega | assumption | rfl)
    (h10 : FV.isI IntKind.u8 (vs.getD (i * (9 : Nat) + (3 : Nat)) (FV.b false)) = true := by first | omega | assumption | rfl)
    (h11 : i * (9 : Nat) + (4 : Nat) < n * (9 : Nat) := by first | omega | assumption | rfl)
    (h12 : (vs.getD (i * (9 : Nat) + (4 : Nat)) (FV.b false)).isB = true := by first | omega | assumption | rfl)
    (h13 : i * (9 : Nat) + (5 : Nat) < n * (9 : Nat) := by first | omega | assumption | rfl)
    (h14 : FV.isI IntKind.i64 (vs.getD (i * (9 : Nat) + (5 : Nat)) (FV.b false)) = true := by first | omega | assumption | rfl)
    (h15 : i * (9 : Nat) + (6 : Nat) < n * (9 : Nat) := by first | omega | assumption | rfl)
    (h16 : (vs.getD (i * (9 : Nat) + (6 : Nat)) (FV.b false)).isB = true := by first | omega | assumption | rfl)
    (h17 : i * (9 : Nat) + (7 : Nat) < n * (9 : Nat) := by first | omega | assumption | rfl)
    (h18 : FV.isI IntKind.i64 (vs.getD (i * (9 : Nat) + (7 : Nat)) (FV.b false)) = true := by first | omega | assumption | rfl)
    (h19 : i * (9 : Nat) + (8 : Nat) < n * (9 : Nat) := by first | omega | assumption | rfl)
    (h20 : (vs.getD (i * (9 : Nat) + (8 : Nat)) (FV.b false)).isB = true := by first | omega | assumption | rfl)
    (h21 : (vs.getD (i * (9 : Nat) + (1 : Nat)) (FV.b false)).asB = false := by first | omega | assumption | rfl)
    (h22 : ¬(vs.getD (i * (9 : Nat) + (2 : Nat)) (FV.b false)).asI < now := by first | omega | assumption | rfl)
    (h23 : (vs.getD (i * (9 : Nat)) (FV.b false)).asB = false := by first | omega | assumption | rfl)
    (h24 : now ≤ (vs.getD (i * (9 : Nat) + (2 : Nat)) (FV.b false)).asI ∧ (vs.getD (i * (9 : Nat) + (8 : Nat)) (FV.b false)).asB = false ∧ (0 : Int) ≤ now ∧ (0 : Int) ≤ w ∧ w ≤ (1000000000 : Int) ∧ (0 : Int) ≤ xs.getD (8 : Nat) (0 : Int) ∧ xs.getD (8 : Nat) (0 : Int) ≤ (1000 : Int) ∧ (xs.getD (8 : Nat) (0 : Int) = (0 : Int) ∨ (0 : Int) ≤ lastR xs ∧ lastR xs ≤ (vs.getD (i * (9 : Nat) + (2 : Nat)) (FV.b false)).asI) ∧ (xs.getD (8 : Nat) (0 : Int) = (0 : Int) ∨ t = true ∨ w < (vs.getD (i * (9 : Nat) + (2 : Nat)) (FV.b false)).asI - lastR xs ∨ cnt (allX xs) ((vs.getD (i * (9 : Nat) + (2 : Nat)) (FV.b false)).asI - w) (vs.getD (i * (9 : Nat) + (2 : Nat)) (FV.b false)).asI ≠ (1 : Nat)) := by first | omega | assumption | rfl)
    (h25 : (vs.getD (i * (9 : Nat) + (8 : Nat)) (FV.b false)).asB = false := by first | omega | assumption | rfl) : roundK Try.prog (S7mX.on [(36, true), (41, false), (47, false), (50, false), (60, false), (103, false)]) noL Try.f7.ntmps 1 (loopOf Try.f7 0) live7 [.bool false, pt 1, w63 w, w63 last, w63 edge, w63 now, w63 next, sl 0 n 2, w63 n, w63 i] [opsB n vs, PBe 2 w now t (.pointer none), eB true xs] on out =
     (on [Value.bool false, Value.pointer (some (Addr.mk (1 : Nat) (0 : Nat) none)), Value.int IntKind.i64 w, Value.int IntKind.i64 last, Value.int IntKind.i64 edge, Value.int IntKind.i64 (vs.getD (i * (9
     : Nat) + (2 : Nat)) (FV.b false)).asI, Value.int IntKind.i64 next, Value.slice (some (Addr.mk (0 : Nat) (0 : Nat) none)) n (2 : Nat), Value.int IntKind.i64 (↑n : Int), Value.int IntKind.i64 ((↑i :
     Int) + (1 : Int))] [some (Blk.mk false (9 : Nat) [Seg.any (n * (9 : Nat)) vs]), some (Blk.mk true (5 : Nat) [Seg.vals [Value.pointer (some (Addr.mk (2 : Nat) (0 : Nat) none))], Seg.ints IntKind.i64 (2
     : Nat) [w, (vs.getD (i * (9 : Nat) + (2 : Nat)) (FV.b false)).asI], Seg.vals [Value.bool t, Value.pointer none]]), some (Blk.mk true (9 : Nat) [Seg.ints IntKind.i64 (9 : Nat) xs])]) :=
  Eq.trans (b :=
     bif decide ((↑i : Int) < (↑n : Int)) then bif decide ((0 : Int) ≤ (↑i : Int)) && decide ((↑i : Int) < (↑n : Int)) then bif ((0 : Nat) + (↑i : Int).toNat * (9 : Nat)).blt (n * (9 : Nat)) then bif
     (vs.getD ((0 : Nat) + (↑i : Int).toNat * (9 : Nat)) (FV.b false)).isB then bif ((0 : Nat) + (↑i : Int).toNat * (9 : Nat) + (1 : Nat)).blt (n * (9 : Nat)) then bif (vs.getD ((0 : Nat) + (↑i :
     Int).toNat * (9 : Nat) + (1 : Nat)) (FV.b false)).isB then bif ((0 : Nat) + (↑i : Int).toNat * (9 : Nat) + (1 : Nat) + (1 : Nat)).blt (n * (9 : Nat)) then bif FV.isI IntKind.i64 (vs.getD ((0 : Nat) +
     (↑i : Int).toNat * (9 : Nat) + (1 : Nat) + (1 : Nat)) (FV.b false)) then bif ((0 : Nat) + (↑i : Int).toNat * (9 : Nat) + (1 : Nat) + (1 : Nat) + (1 : Nat)).blt (n * (9 : Nat)) then bif FV.isI
     IntKind.u8 (vs.getD ((0 : Nat) + (↑i : Int).toNat * (9 : Nat) + (1 : Nat) + (1 : Nat) + (1 : Nat)) (FV.b false)) then bif ((0 : Nat) + (↑i : Int).toNat * (9 : Nat) + (1 : Nat) + (1 : Nat) + (1 : Nat)
     + (1 : Nat)).blt (n * (9 : Nat)) then bif (vs.getD ((0 : Nat) + (↑i : Int).toNat * (9 : Nat) + (1 : Nat) + (1 : Nat) + (1 : Nat) + (1 : Nat)) (FV.b false)).isB then bif ((0 : Nat) + (↑i : Int).toNat *
     (9 : Nat) + (1 : Nat) + (1 : Nat) + (1 : Nat) + (1 : Nat) + (1 : Nat)).blt (n * (9 : Nat)) then bif FV.isI IntKind.i64 (vs.getD ((0 : Nat) + (↑i : Int).toNat * (9 : Nat) + (1 : Nat) + (1 : Nat) + (1 :
     Nat) + (1 : Nat) + (1 : Nat)) (FV.b false)) then bif ((0 : Nat) + (↑i : Int).toNat * (9 : Nat) + (1 : Nat) + (1 : Nat) + (1 : Nat) + (1 : Nat) + (1 : Nat) + (1 : Nat)).blt (n * (9 : Nat)) then bif
     (vs.getD ((0 : Nat) + (↑i : Int).toNat * (9 : Nat) + (1 : Nat) + (1 : Nat) + (1 : Nat) + (1 : Nat) + (1 : Nat) + (1 : Nat)) (FV.b false)).isB then bif ((0 : Nat) + (↑i : Int).toNat * (9 : Nat) + (1 :
     Nat) + (1 : Nat) + (1 : Nat) + (1 : Nat) + (1 : Nat) + (1 : Nat) + (1 : Nat)).blt (n * (9 : Nat)) then bif FV.isI IntKind.i64 (vs.getD ((0 : Nat) + (↑i : Int).toNat * (9 : Nat) + (1 : Nat) + (1 : Nat)
     + (1 : Nat) + (1 : Nat) + (1 : Nat) + (1 : Nat) + (1 : Nat)) (FV.b false)) then bif ((0 : Nat) + (↑i : Int).toNat * (9 : Nat) + (1 : Nat) + (1 : Nat) + (1 : Nat) + (1 : Nat) + (1 : Nat) + (1 : Nat) +
     (1 : Nat) + (1 : Nat)).blt (n * (9 : Nat)) then bif (vs.getD ((0 : Nat) + (↑i : Int).toNat * (9 : Nat) + (1 : Nat) + (1 : Nat) + (1 : Nat) + (1 : Nat) + (1 : Nat) + (1 : Nat) + (1 : Nat) + (1 : Nat))
     (FV.b false)).isB then bif (vs.getD ((0 : Nat) + (↑i : Int).toNat * (9 : Nat) + (1 : Nat)) (FV.b false)).asB then none else bif decide ((vs.getD ((0 : Nat) + (↑i : Int).toNat * (9 : Nat) + (1 : Nat) +
     (1 : Nat)) (FV.b false)).asI < now) then none else bif (vs.getD ((0 : Nat) + (↑i : Int).toNat * (9 : Nat)) (FV.b false)).asB then none else bif (vs.getD ((0 : Nat) + (↑i : Int).toNat * (9 : Nat))
     (FV.b false)).asB then none else bif chk (now ≤ (vs.getD ((0 : Nat) + (↑i : Int).toNat * (9 : Nat) + (1 : Nat) + (1 : Nat)) (FV.b false)).asI ∧ (vs.getD ((0 : Nat) + (↑i : Int).toNat * (9 : Nat) + (1
     : Nat) + (1 : Nat) + (1 : Nat) + (1 : Nat) + (1 : Nat) + (1 : Nat) + (1 : Nat) + (1 : Nat)) (FV.b false)).asB = false ∧ (0 : Int) ≤ now ∧ (0 : Int) ≤ w ∧ w ≤ (1000000000 : Int) ∧ (0 : Int) ≤ xs.getD
     (8 : Nat) (0 : Int) ∧ xs.getD (8 : Nat) (0 : Int) ≤ (1000 : Int) ∧ (xs.getD (8 : Nat) (0 : Int) = (0 : Int) ∨ (0 : Int) ≤ lastR xs ∧ lastR xs ≤ (vs.getD ((0 : Nat) + (↑i : Int).toNat * (9 : Nat) + (1
     : Nat) + (1 : Nat)) (FV.b false)).asI) ∧ (xs.getD (8 : Nat) (0 : Int) = (0 : Int) ∨ t = true ∨ w < (vs.getD ((0 : Nat) + (↑i : Int).toNat * (9 : Nat) + (1 : Nat) + (1 : Nat)) (FV.b false)).asI - lastR
     xs ∨ cnt (allX xs) ((vs.getD ((0 : Nat) + (↑i : Int).toNat * (9 : Nat) + (1 : Nat) + (1 : Nat)) (FV.b false)).asI - w) (vs.getD ((0 : Nat) + (↑i : Int).toNat * (9 : Nat) + (1 : Nat) + (1 : Nat)) (FV.b
     false)).asI ≠ (1 : Nat))) then bif (vs.getD ((0 : Nat) + (↑i : Int).toNat * (9 : Nat) + (1 : Nat) + (1 : Nat) + (1 : Nat) + (1 : Nat) + (1 : Nat) + (1 : Nat) + (1 : Nat) + (1 : Nat)) (FV.b false)).asB
     then none else on [Value.bool false, Value.pointer (some (Addr.mk (1 : Nat) (0 : Nat) none)), Value.int IntKind.i64 w, Value.int IntKind.i64 last, Value.int IntKind.i64 edge, Value.int IntKind.i64
     (vs.getD ((0 : Nat) + (↑i : Int).toNat * (9 : Nat) + (1 : Nat) + (1 : Nat)) (FV.b false)).asI, Value.int IntKind.i64 next, Value.slice (some (Addr.mk (0 : Nat) (0 : Nat) none)) n (2 : Nat), Value.int
     IntKind.i64 (↑n : Int), Value.int IntKind.i64 (IntKind.i64.wrap ((↑i : Int) + (1 : Int)))] [some (Blk.mk false (9 : Nat) [Seg.any (n * (9 : Nat)) vs]), some (Blk.mk true (5 : Nat) [Seg.vals
     [Value.pointer (some (Addr.mk (2 : Nat) (0 : Nat) none))], Seg.ints IntKind.i64 (2 : Nat) [w, (vs.getD ((0 : Nat) + (↑i : Int).toNat * (9 : Nat) + (1 : Nat) + (1 : Nat)) (FV.b false)).asI], Seg.vals
     [Value.bool t, Value.pointer none]]), some (Blk.mk true (9 : Nat) [Seg.ints IntKind.i64 (9 : Nat) xs])] else none else none else none else none else none else none else none else none else none else
     none else none else none else none else none else none else none else none else none else none else none else none) (by kernel_rfl) (by simp only [-eq_self, Int.toNat_natCast, Nat.zero_add, swrap w1.1 w1.2]; exact (go_t (dec_t h1) (go_t (and_t (dec_t h2) (dec_t h1)) (go_t (blt_t h3) (go_t h4 (go_t (blt_t h5) (go_t h6 (go_t (blt_t h7) (go_t h8 (go_t (blt_t h9) (go_t h10 (go_t (blt_t h11) (go_t h12 (go_t (blt_t h13) (go_t h14 (go_t (blt_t h15) (go_t h16 (go_t (blt_t h17) (go_t h18 (go_t (blt_t h19) (go_t h20 (go_f h21 (go_f (dec_f h22) (go_f h23 (go_f h23 (go_t (chk_t h24) (go_f h25 rfl)))))))))))))))))))))))))))
--CFEND
--CP p7mPN (w last edge now next : Int) (t : Bool) (n i : Nat) (xs : List Int) (vs : List FV) (on : List Value → Heap → Out) (out : Exit → List Value → Heap → Out) :: roundK Try.prog (S7mP.on [(36, true), (41, false), (47, false), (50, false), (60, false), (103, false), (113, false), (118, false), (124, false), (132, false), (139, false)]) noL Try.f7.ntmps 1 (loopOf Try.f7 0) live7 [.bool false, pt 1, w63 w, w63 last, w63 edge, w63 now, w63 next, sl 0 n 2, w63 n, w63 i] [opsB n vs, PBe 2 w now t (.pointer none), eB true xs] on out
theorem p7mPN (w last edge now next : Int) (t : Bool) (n i : Nat) (xs : List Int) (vs : List FV) (on : List Value → Heap → Out) (out : Exit → List Value → Heap → Out)
    (w1 : -9223372036854775808 ≤ (vs.getD (i * (9 : Nat) + (2 : Nat)) (FV.b false)).asI - edge ∧ (vs.getD (i * (9 : Nat) + (2 : Nat)) (FV.b false)).asI - edge ≤ 9223372036854775807 := by omega)
    (w2 : -9223372036854775808 ≤ (↑i : Int) + (1 : Int) ∧ (↑i : Int) + (1 : Int) ≤ 9223372036854775807 := by omega)
    (h1 : (↑i : Int) < (↑n : Int) := by first | omega | assumption | rfl)
    (h2 : (0 : Int) ≤ (↑i : Int) := by first | omega | assumption | rfl)
    (h3 : i * (9 : Nat) < n * (9 : Nat) := by first | omega | assumption | rfl)
    (h4 : (vs.getD (i * (9 : Nat)) (FV.b false)).isB = true := by first | omega | assumption | rfl)
    (h5 : i * (9 : Nat) + (1 : Nat) < n * (9 : Nat) := by first | omega | assumption | rfl)
    (h6 : (vs.getD (i * (9 : Nat) + (1 : Nat)) (FV.b false)).isB = true := by first | omega | assumption | rfl)
    (h7 : i * (9 : Nat) + (2 : Nat) < n * (9 : Nat) := by first | omega | assumption | rfl)
    (h8 : FV.isI IntKind.i64 (vs.getD (i * (9 : Nat) + (2 : Nat)) (FV.b false)) = true := by first | omega | assumption | rfl)
    (h9 : i * (9 : Nat) + (3 : Nat) < n * (9 : Nat) := by first | omega | assumption | rfl)
    (h10 : FV.isI IntKind.u8 (vs.getD (i * (9 : Nat) + (3 : Nat)) (FV.b false)) = true := by first | omega | assumption | rfl)
    (h11 : i * (9 : Nat) + (4 : Nat) < n * (9 : Nat) := by first | omega | assumption | rfl)
    (h12 : (vs.getD (i * (9 : Nat) + (4 : Nat)) (FV.b false)).isB = true := by first | omega | assumption | rfl)
    (h13 : i * (9 : Nat) + (5 : Nat) < n * (9 : Nat) := by first | omega | assumption | rfl)
    (h14 : FV.isI IntKind.i64 (vs.getD (i * (9 : Nat) + (5 : Nat)) (FV.b false)) = true := by first | omega | assumption | rfl)
    (h15 : i * (9 : Nat) + (6 : Nat) < n * (9 : Nat) := by first | omega | assumption | rfl)
    (h16 : (vs.getD (i * (9 : Nat) + (6 : Nat)) (FV.b false)).isB = true := by first | omega | assumption | rfl)
    (h17 : i * (9 : Nat) + (7 : Nat) < n * (9 : Nat) := by first | omega | assumption | rfl)
    (h18 : FV.isI IntKind.i64 (vs.getD (i * (9 : Nat) + (7 : Nat)) (FV.b false)) = true := by first | omega | assumption | rfl)
    (h19 : i * (9 : Nat) + (8 : Nat) < n * (9 : Nat) := by first | omega | assumption | rfl)
    (h20 : (vs.getD (i * (9 : Nat) + (8 : Nat)) (FV.b false)).isB = true := by first | omega | assumption | rfl)
    (h21 : (vs.getD (i * (9 : Nat) + (1 : Nat)) (FV.b false)).asB = false := by first | omega | assumption | rfl)
    (h22 : ¬(vs.getD (i * (9 : Nat) + (2 : Nat)) (FV.b false)).asI < now := by first | omega | assumption | rfl)
    (h23 : (vs.getD (i * (9 : Nat)) (FV.b false)).asB = false := by first | omega | assumption | rfl)
    (h24 : now ≤ (vs.getD (i * (9 : Nat) + (2 : Nat)) (FV.b false)).asI ∧ (vs.getD (i * (9 : Nat) + (8 : Nat)) (FV.b false)).asB = false ∧ (0 : Int) ≤ now ∧ (0 : Int) ≤ w ∧ w ≤ (1000000000 : Int) ∧ (0 : Int) ≤ xs.getD (8 : Nat) (0 : Int) ∧ xs.getD (8 : Nat) (0 : Int) ≤ (1000 : Int) ∧ (xs.getD (8 : Nat) (0 : Int) = (0 : Int) ∨ (0 : Int) ≤ lastR xs ∧ lastR xs ≤ (vs.getD (i * (9 : Nat) + (2 : Nat)) (FV.b false)).asI) ∧ xs.getD (8 : Nat) (0 : Int) ≠ (0 : Int) ∧ t = false ∧ (vs.getD (i * (9 : Nat) + (2 : Nat)) (FV.b false)).asI - lastR xs ≤ w ∧ cnt (allX xs) ((vs.getD (i * (9 : Nat) + (2 : Nat)) (FV.b false)).asI - w) (vs.getD (i * (9 : Nat) + (2 : Nat)) (FV.b false)).asI = (1 : Nat) := by first | omega | assumption | rfl)
    (h25 : (vs.getD (i * (9 : Nat) + (8 : Nat)) (FV.b false)).asB = false := by first | omega | assumption | rfl)
    (h26 : (vs.getD (i * (9 : Nat) + (3 : Nat)) (FV.b false)).asI = (vs.getD (i * (9 : Nat) + (3 : Nat)) (FV.b false)).asI := by first | omega | assumption | rfl)
    (h27 : (vs.getD (i * (9 : Nat) + (4 : Nat)) (FV.b false)).asB = (vs.getD (i * (9 : Nat) + (4 : Nat)) (FV.b false)).asB := by first | omega | assumption | rfl)
    (h28 : (vs.getD (i * (9 : Nat) + (5 : Nat)) (FV.b false)).asI = (vs.getD (i * (9 : Nat) + (5 : Nat)) (FV.b false)).asI := by first | omega | assumption | rfl)
    (h29 : (vs.getD (i * (9 : Nat) + (6 : Nat)) (FV.b false)).asB = (vs.getD (i * (9 : Nat) + (6 : Nat)) (FV.b false)).asB := by first | omega | assumption | rfl)
    (h30 : (vs.getD (i * (9 : Nat) + (7 : Nat)) (FV.b false)).asI = (vs.getD (i * (9 : Nat) + (7 : Nat)) (FV.b false)).asI := by first | omega | assumption | rfl)
    (h31 : (vs.getD (i * (9 : Nat) + (8 : Nat)) (FV.b false)).asB = (vs.getD (i * (9 : Nat) + (8 : Nat)) (FV.b false)).asB := by first | omega | assumption | rfl)
    (h32 : lastR xs = edge := by first | omega | assumption | rfl)
    (h33 : ¬(vs.getD (i * (9 : Nat) + (2 : Nat)) (FV.b false)).asI - edge > w := by first | omega | assumption | rfl)
    (h34 : ¬lastR xs ≤ last := by first | omega | assumption | rfl) : roundK Try.prog (S7mP.on [(36, true), (41, false), (47, false), (50, false), (60, false), (103, false), (113, false), (118, false), (124, false), (132, false), (139, false)]) noL Try.f7.ntmps 1 (loopOf Try.f7 0) live7 [.bool false, pt 1, w63 w, w63 last, w63 edge, w63 now, w63 next, sl 0 n 2, w63 n, w63 i] [opsB n vs, PBe 2 w now t (.pointer none), eB true xs] on out =
     (on [Value.bool false, Value.pointer (some (Addr.mk (1 : Nat) (0 : Nat) none)), Value.int IntKind.i64 w, Value.int IntKind.i64 (lastR xs), Value.int IntKind.i64 edge, Value.int IntKind.i64 (vs.getD (i
     * (9 : Nat) + (2 : Nat)) (FV.b false)).asI, Value.int IntKind.i64 next, Value.slice (some (Addr.mk (0 : Nat) (0 : Nat) none)) n (2 : Nat), Value.int IntKind.i64 (↑n : Int), Value.int IntKind.i64 ((↑i
     : Int) + (1 : Int))] [some (Blk.mk false (9 : Nat) [Seg.any (n * (9 : Nat)) vs]), some (Blk.mk true (5 : Nat) [Seg.vals [Value.pointer (some (Addr.mk (2 : Nat) (0 : Nat) none))], Seg.ints IntKind.i64
     (2 : Nat) [w, (vs.getD (i * (9 : Nat) + (2 : Nat)) (FV.b false)).asI], Seg.vals [Value.bool true, Value.pointer none]]), some (Blk.mk true (9 : Nat) [Seg.ints IntKind.i64 (9 : Nat) xs])]) :=
  Eq.trans (b :=
     bif decide ((↑i : Int) < (↑n : Int)) then bif decide ((0 : Int) ≤ (↑i : Int)) && decide ((↑i : Int) < (↑n : Int)) then bif ((0 : Nat) + (↑i : Int).toNat * (9 : Nat)).blt (n * (9 : Nat)) then bif
     (vs.getD ((0 : Nat) + (↑i : Int).toNat * (9 : Nat)) (FV.b false)).isB then bif ((0 : Nat) + (↑i : Int).toNat * (9 : Nat) + (1 : Nat)).blt (n * (9 : Nat)) then bif (vs.getD ((0 : Nat) + (↑i :
     Int).toNat * (9 : Nat) + (1 : Nat)) (FV.b false)).isB then bif ((0 : Nat) + (↑i : Int).toNat * (9 : Nat) + (1 : Nat) + (1 : Nat)).blt (n * (9 : Nat)) then bif FV.isI IntKind.i64 (vs.getD ((0 : Nat) +
     (↑i : Int).toNat * (9 : Nat) + (1 : Nat) + (1 : Nat)) (FV.b false)) then bif ((0 : Nat) + (↑i : Int).toNat * (9 : Nat) + (1 : Nat) + (1 : Nat) + (1 : Nat)).blt (n * (9 : Nat)) then bif FV.isI
     IntKind.u8 (vs.getD ((0 : Nat) + (↑i : Int).toNat * (9 : Nat) + (1 : Nat) + (1 : Nat) + (1 : Nat)) (FV.b false)) then bif ((0 : Nat) + (↑i : Int).toNat * (9 : Nat) + (1 : Nat) + (1 : Nat) + (1 : Nat)
     + (1 : Nat)).blt (n * (9 : Nat)) then bif (vs.getD ((0 : Nat) + (↑i : Int).toNat * (9 : Nat) + (1 : Nat) + (1 : Nat) + (1 : Nat) + (1 : Nat)) (FV.b false)).isB then bif ((0 : Nat) + (↑i : Int).toNat *
     (9 : Nat) + (1 : Nat) + (1 : Nat) + (1 : Nat) + (1 : Nat) + (1 : Nat)).blt (n * (9 : Nat)) then bif FV.isI IntKind.i64 (vs.getD ((0 : Nat) + (↑i : Int).toNat * (9 : Nat) + (1 : Nat) + (1 : Nat) + (1 :
     Nat) + (1 : Nat) + (1 : Nat)) (FV.b false)) then bif ((0 : Nat) + (↑i : Int).toNat * (9 : Nat) + (1 : Nat) + (1 : Nat) + (1 : Nat) + (1 : Nat) + (1 : Nat) + (1 : Nat)).blt (n * (9 : Nat)) then bif
     (vs.getD ((0 : Nat) + (↑i : Int).toNat * (9 : Nat) + (1 : Nat) + (1 : Nat) + (1 : Nat) + (1 : Nat) + (1 : Nat) + (1 : Nat)) (FV.b false)).isB then bif ((0 : Nat) + (↑i : Int).toNat * (9 : Nat) + (1 :
     Nat) + (1 : Nat) + (1 : Nat) + (1 : Nat) + (1 : Nat) + (1 : Nat) + (1 : Nat)).blt (n * (9 : Nat)) then bif FV.isI IntKind.i64 (vs.getD ((0 : Nat) + (↑i : Int).toNat * (9 : Nat) + (1 : Nat) + (1 : Nat)
     + (1 : Nat) + (1 : Nat) + (1 : Nat) + (1 : Nat) + (1 : Nat)) (FV.b false)) then bif ((0 : Nat) + (↑i : Int).toNat * (9 : Nat) + (1 : Nat) + (1 : Nat) + (1 : Nat) + (1 : Nat) + (1 : Nat) + (1 : Nat) +
     (1 : Nat) + (1 : Nat)).blt (n * (9 : Nat)) then bif (vs.getD ((0 : Nat) + (↑i : Int).toNat * (9 : Nat) + (1 : Nat) + (1 : Nat) + (1 : Nat) + (1 : Nat) + (1 : Nat) + (1 : Nat) + (1 : Nat) + (1 : Nat))
     (FV.b false)).isB then bif (vs.getD ((0 : Nat) + (↑i : Int).toNat * (9 : Nat) + (1 : Nat)) (FV.b false)).asB then none else bif decide ((vs.getD ((0 : Nat) + (↑i : Int).toNat * (9 : Nat) + (1 : Nat) +
     (1 : Nat)) (FV.b false)).asI < now) then none else bif (vs.getD ((0 : Nat) + (↑i : Int).toNat * (9 : Nat)) (FV.b false)).asB then none else bif (vs.getD ((0 : Nat) + (↑i : Int).toNat * (9 : Nat))
     (FV.b false)).asB then none else bif chk (now ≤ (vs.getD ((0 : Nat) + (↑i : Int).toNat * (9 : Nat) + (1 : Nat) + (1 : Nat)) (FV.b false)).asI ∧ (vs.getD ((0 : Nat) + (↑i : Int).toNat * (9 : Nat) + (1
     : Nat) + (1 : Nat) + (1 : Nat) + (1 : Nat) + (1 : Nat) + (1 : Nat) + (1 : Nat) + (1 : Nat)) (FV.b false)).asB = false ∧ (0 : Int) ≤ now ∧ (0 : Int) ≤ w ∧ w ≤ (1000000000 : Int) ∧ (0 : Int) ≤ xs.getD
     (8 : Nat) (0 : Int) ∧ xs.getD (8 : Nat) (0 : Int) ≤ (1000 : Int) ∧ (xs.getD (8 : Nat) (0 : Int) = (0 : Int) ∨ (0 : Int) ≤ lastR xs ∧ lastR xs ≤ (vs.getD ((0 : Nat) + (↑i : Int).toNat * (9 : Nat) + (1
     : Nat) + (1 : Nat)) (FV.b false)).asI) ∧ xs.getD (8 : Nat) (0 : Int) ≠ (0 : Int) ∧ t = false ∧ (vs.getD ((0 : Nat) + (↑i : Int).toNat * (9 : Nat) + (1 : Nat) + (1 : Nat)) (FV.b false)).asI - lastR xs
     ≤ w ∧ cnt (allX xs) ((vs.getD ((0 : Nat) + (↑i : Int).toNat * (9 : Nat) + (1 : Nat) + (1 : Nat)) (FV.b false)).asI - w) (vs.getD ((0 : Nat) + (↑i : Int).toNat * (9 : Nat) + (1 : Nat) + (1 : Nat))
     (FV.b false)).asI = (1 : Nat)) then bif (vs.getD ((0 : Nat) + (↑i : Int).toNat * (9 : Nat) + (1 : Nat) + (1 : Nat) + (1 : Nat) + (1 : Nat) + (1 : Nat) + (1 : Nat) + (1 : Nat) + (1 : Nat)) (FV.b
     false)).asB then none else bif !((vs.getD ((0 : Nat) + (↑i : Int).toNat * (9 : Nat) + (1 : Nat) + (1 : Nat) + (1 : Nat)) (FV.b false)).asI == (vs.getD ((0 : Nat) + (↑i : Int).toNat * (9 : Nat) + (1 :
     Nat) + (1 : Nat) + (1 : Nat)) (FV.b false)).asI && ((vs.getD ((0 : Nat) + (↑i : Int).toNat * (9 : Nat) + (1 : Nat) + (1 : Nat) + (1 : Nat) + (1 : Nat)) (FV.b false)).asB == (vs.getD ((0 : Nat) + (↑i :
     Int).toNat * (9 : Nat) + (1 : Nat) + (1 : Nat) + (1 : Nat) + (1 : Nat)) (FV.b false)).asB && ((vs.getD ((0 : Nat) + (↑i : Int).toNat * (9 : Nat) + (1 : Nat) + (1 : Nat) + (1 : Nat) + (1 : Nat) + (1 :
     Nat)) (FV.b false)).asI == (vs.getD ((0 : Nat) + (↑i : Int).toNat * (9 : Nat) + (1 : Nat) + (1 : Nat) + (1 : Nat) + (1 : Nat) + (1 : Nat)) (FV.b false)).asI && ((vs.getD ((0 : Nat) + (↑i : Int).toNat
     * (9 : Nat) + (1 : Nat) + (1 : Nat) + (1 : Nat) + (1 : Nat) + (1 : Nat) + (1 : Nat)) (FV.b false)).asB == (vs.getD ((0 : Nat) + (↑i : Int).toNat * (9 : Nat) + (1 : Nat) + (1 : Nat) + (1 : Nat) + (1 :
     Nat) + (1 : Nat) + (1 : Nat)) (FV.b false)).asB && ((vs.getD ((0 : Nat) + (↑i : Int).toNat * (9 : Nat) + (1 : Nat) + (1 : Nat) + (1 : Nat) + (1 : Nat) + (1 : Nat) + (1 : Nat) + (1 : Nat)) (FV.b
     false)).asI == (vs.getD ((0 : Nat) + (↑i : Int).toNat * (9 : Nat) + (1 : Nat) + (1 : Nat) + (1 : Nat) + (1 : Nat) + (1 : Nat) + (1 : Nat) + (1 : Nat)) (FV.b false)).asI && ((vs.getD ((0 : Nat) + (↑i :
     Int).toNat * (9 : Nat) + (1 : Nat) + (1 : Nat) + (1 : Nat) + (1 : Nat) + (1 : Nat) + (1 : Nat) + (1 : Nat) + (1 : Nat)) (FV.b false)).asB == (vs.getD ((0 : Nat) + (↑i : Int).toNat * (9 : Nat) + (1 :
     Nat) + (1 : Nat) + (1 : Nat) + (1 : Nat) + (1 : Nat) + (1 : Nat) + (1 : Nat) + (1 : Nat)) (FV.b false)).asB && true)))))) then none else bif (vs.getD ((0 : Nat) + (↑i : Int).toNat * (9 : Nat) + (1 :
     Nat) + (1 : Nat) + (1 : Nat) + (1 : Nat) + (1 : Nat) + (1 : Nat) + (1 : Nat) + (1 : Nat)) (FV.b false)).asB then none else bif lastR xs != edge then none else bif decide (IntKind.i64.wrap ((vs.getD
     ((0 : Nat) + (↑i : Int).toNat * (9 : Nat) + (1 : Nat) + (1 : Nat)) (FV.b false)).asI - edge) > w) then none else bif decide (lastR xs ≤ last) then none else on [Value.bool false, Value.pointer (some
     (Addr.mk (1 : Nat) (0 : Nat) none)), Value.int IntKind.i64 w, Value.int IntKind.i64 (lastR xs), Value.int IntKind.i64 edge, Value.int IntKind.i64 (vs.getD ((0 : Nat) + (↑i : Int).toNat * (9 : Nat) +
     (1 : Nat) + (1 : Nat)) (FV.b false)).asI, Value.int IntKind.i64 next, Value.slice (some (Addr.mk (0 : Nat) (0 : Nat) none)) n (2 : Nat), Value.int IntKind.i64 (↑n : Int), Value.int IntKind.i64
     (IntKind.i64.wrap ((↑i : Int) + (1 : Int)))] [some (Blk.mk false (9 : Nat) [Seg.any (n * (9 : Nat)) vs]), some (Blk.mk true (5 : Nat) [Seg.vals [Value.pointer (some (Addr.mk (2 : Nat) (0 : Nat)
     none))], Seg.ints IntKind.i64 (2 : Nat) [w, (vs.getD ((0 : Nat) + (↑i : Int).toNat * (9 : Nat) + (1 : Nat) + (1 : Nat)) (FV.b false)).asI], Seg.vals [Value.bool true, Value.pointer none]]), some
     (Blk.mk true (9 : Nat) [Seg.ints IntKind.i64 (9 : Nat) xs])] else none else none else none else none else none else none else none else none else none else none else none else none else none else none
     else none else none else none else none else none else none else none) (by kernel_rfl) (by simp only [-eq_self, Int.toNat_natCast, Nat.zero_add, swrap w1.1 w1.2, swrap w2.1 w2.2]; exact (go_t (dec_t h1) (go_t (and_t (dec_t h2) (dec_t h1)) (go_t (blt_t h3) (go_t h4 (go_t (blt_t h5) (go_t h6 (go_t (blt_t h7) (go_t h8 (go_t (blt_t h9) (go_t h10 (go_t (blt_t h11) (go_t h12 (go_t (blt_t h13) (go_t h14 (go_t (blt_t h15) (go_t h16 (go_t (blt_t h17) (go_t h18 (go_t (blt_t h19) (go_t h20 (go_f h21 (go_f (dec_f h22) (go_f h23 (go_f h23 (go_t (chk_t h24) (go_f h25 (go_f (not_f (and_t (eqb_t h26) (and_t (eqb_t h27) (and_t (eqb_t h28) (and_t (eqb_t h29) (and_t (eqb_t h30) (and_t (eqb_t h31) rfl))))))) (go_f h25 (go_f (bne_f h32) (go_f (dec_f h33) (go_f (dec_f h34) rfl))))))))))))))))))))))))))))))))
--CFEND
--CP p7mNS (w last edge now next a : Int) (t : Bool) (m : Ms) (n i : Nat) (xs : List Int) (vs : List FV) (on : List Value → Heap → Out) (out : Exit → List Value → Heap → Out) :: roundK Try.prog (S7mN.on [(36, true), (41, false), (47, false), (50, false), (60, false), (103, true)]) noL Try.f7.ntmps 1 (loopOf Try.f7 0) live7 [.bool false, pt 1, w63 w, w63 last, w63 edge, w63 now, w63 next, sl 0 n 2, w63 n, w63 i] [opsB n vs, PBe 2 w now t (pt 3), eB true xs, WB true a m] on out
theorem p7mNS (w last edge now next a : Int) (t : Bool) (m : Ms) (n i : Nat) (xs : List Int) (vs : List FV) (on : List Value → Heap → Out) (out : Exit → List Value → Heap → Out)
    (w1 : -9223372036854775808 ≤ (↑i : Int) + (1 : Int) ∧ (↑i : Int) + (1 : Int) ≤ 9223372036854775807 := by omega)
    (h1 : (↑i : Int) < (↑n : Int) := by first | omega | assumption | rfl)
    (h2 : (0 : Int) ≤ (↑i : Int) := by first | omega | assumption | rfl)
    (h3 : i * (9 : Nat) < n * (9 : Nat) := by first | omega | assumption | rfl)
    (h4 : (vs.getD (i * (9 : Nat)) (FV.b false)).isB = true := by first | omega | assumption | rfl)
    (h5 : i * (9 : Nat) + (1 : Nat) < n * (9 : Nat) := by first | omega | assumption | rfl)
    (h6 : (vs.getD (i * (9 : Nat) + (1 : Nat)) (FV.b false)).isB = true := by first | omega | assumption | rfl)
    (h7 : i * (9 : Nat) + (2 : Nat) < n * (9 : Nat) := by first | omega | assumption | rfl)
    (h8 : FV.isI IntKind.i64 (vs.getD (i * (9 : Nat) + (2 : Nat)) (FV.b false)) = true := by first | omega | assumption | rfl)
    (h9 : i * (9 : Nat) + (3 : Nat) < n * (9 : Nat) := by first | omega | assumption | rfl)
    (h10 : FV.isI IntKind.u8 (vs.getD (i * (9 : Nat) + (3 : Nat)) (FV.b false)) = true := by first | omega | assumption | rfl)
    (h11 : i * (9 : Nat) + (4 : Nat) < n * (9 : Nat) := by first | omega | assumption | rfl)
    (h12 : (vs.getD (i * (9 : Nat) + (4 : Nat)) (FV.b false)).isB = true := by first | omega | assumption | rfl)
    (h13 : i * (9 : Nat) + (5 : Nat) < n * (9 : Nat) := by first | omega | assumption | rfl)
    (h14 : FV.isI IntKind.i64 (vs.getD (i * (9 : Nat) + (5 : Nat)) (FV.b false)) = true := by first | omega | assumption | rfl)
    (h15 : i * (9 : Nat) + (6 : Nat) < n * (9 : Nat) := by first | omega | assumption | rfl)
    (h16 : (vs.getD (i * (9 : Nat) + (6 : Nat)) (FV.b false)).isB = true := by first | omega | assumption | rfl)
    (h17 : i * (9 : Nat) + (7 : Nat) < n * (9 : Nat) := by first | omega | assumption | rfl)
    (h18 : FV.isI IntKind.i64 (vs.getD (i * (9 : Nat) + (7 : Nat)) (FV.b false)) = true := by first | omega | assumption | rfl)
    (h19 : i * (9 : Nat) + (8 : Nat) < n * (9 : Nat) := by first | omega | assumption | rfl)
    (h20 : (vs.getD (i * (9 : Nat) + (8 : Nat)) (FV.b false)).isB = true := by first | omega | assumption | rfl)
    (h21 : (vs.getD (i * (9 : Nat) + (1 : Nat)) (FV.b false)).asB = false := by first | omega | assumption | rfl)
    (h22 : ¬(vs.getD (i * (9 : Nat) + (2 : Nat)) (FV.b false)).asI < now := by first | omega | assumption | rfl)
    (h23 : (vs.getD (i * (9 : Nat)) (FV.b false)).asB = false := by first | omega | assumption | rfl)
    (h24 : now ≤ (vs.getD (i * (9 : Nat) + (2 : Nat)) (FV.b false)).asI ∧ (vs.getD (i * (9 : Nat) + (8 : Nat)) (FV.b false)).asB = true := by first | omega | assumption | rfl)
    (h25 : (vs.getD (i * (9 : Nat) + (8 : Nat)) (FV.b false)).asB = true := by first | omega | assumption | rfl) : roundK Try.prog (S7mN.on [(36, true), (41, false), (47, false), (50, false), (60, false), (103, true)]) noL Try.f7.ntmps 1 (loopOf Try.f7 0) live7 [.bool false, pt 1, w63 w, w63 last, w63 edge, w63 now, w63 next, sl 0 n 2, w63 n, w63 i] [opsB n vs, PBe 2 w now t (pt 3), eB true xs, WB true a m] on out =
     (on [Value.bool false, Value.pointer (some (Addr.mk (1 : Nat) (0 : Nat) none)), Value.int IntKind.i64 w, Value.int IntKind.i64 last, Value.int IntKind.i64 edge, Value.int IntKind.i64 (vs.getD (i * (9
     : Nat) + (2 : Nat)) (FV.b false)).asI, Value.int IntKind.i64 (vs.getD (i * (9 : Nat) + (2 : Nat)) (FV.b false)).asI, Value.slice (some (Addr.mk (0 : Nat) (0 : Nat) none)) n (2 : Nat), Value.int
     IntKind.i64 (↑n : Int), Value.int IntKind.i64 ((↑i : Int) + (1 : Int))] [some (Blk.mk false (9 : Nat) [Seg.any (n * (9 : Nat)) vs]), some (Blk.mk true (5 : Nat) [Seg.vals [Value.pointer (some (Addr.mk
     (2 : Nat) (0 : Nat) none))], Seg.ints IntKind.i64 (2 : Nat) [w, (vs.getD (i * (9 : Nat) + (2 : Nat)) (FV.b false)).asI], Seg.vals [Value.bool t, Value.pointer (some (Addr.mk (3 : Nat) (0 : Nat)
     none))]]), some (Blk.mk true (9 : Nat) [Seg.ints IntKind.i64 (9 : Nat) xs]), some (Blk.mk true (7 : Nat) [Seg.ints IntKind.i64 (1 : Nat) [(vs.getD (i * (9 : Nat) + (2 : Nat)) (FV.b false)).asI],
     Seg.ints IntKind.u8 (1 : Nat) [(vs.getD (i * (9 : Nat) + (3 : Nat)) (FV.b false)).asI], Seg.vals [Value.bool (vs.getD (i * (9 : Nat) + (4 : Nat)) (FV.b false)).asB], Seg.ints IntKind.i64 (1 : Nat)
     [(vs.getD (i * (9 : Nat) + (5 : Nat)) (FV.b false)).asI], Seg.vals [Value.bool (vs.getD (i * (9 : Nat) + (6 : Nat)) (FV.b false)).asB], Seg.ints IntKind.i64 (1 : Nat) [(vs.getD (i * (9 : Nat) + (7 :
     Nat)) (FV.b false)).asI], Seg.vals [Value.bool (vs.getD (i * (9 : Nat) + (8 : Nat)) (FV.b false)).asB]])]) :=
  Eq.trans (b :=
     bif decide ((↑i : Int) < (↑n : Int)) then bif decide ((0 : Int) ≤ (↑i : Int)) && decide ((↑i : Int) < (↑n : Int)) then bif ((0 : Nat) + (↑i : Int).toNat * (9 : Nat)).blt (n * (9 : Nat)) then bif
     (vs.getD ((0 : Nat) + (↑i : Int).toNat * (9 : Nat)) (FV.b false)).isB then bif ((0 : Nat) + (↑i : Int).toNat * (9 : Nat) + (1 : Nat)).blt (n * (9 : Nat)) then bif (vs.getD ((0 : Nat) + (↑i :
     Int).toNat * (9 : Nat) + (1 : Nat)) (FV.b false)).isB then bif ((0 : Nat) + (↑i : Int).toNat * (9 : Nat) + (1 : Nat) + (1 : Nat)).blt (n * (9 : Nat)) then bif FV.isI IntKind.i64 (vs.getD ((0 : Nat) +
     (↑i : Int).toNat * (9 : Nat) + (1 : Nat) + (1 : Nat)) (FV.b false)) then bif ((0 : Nat) + (↑i : Int).toNat * (9 : Nat) + (1 : Nat) + (1 : Nat) + (1 : Nat)).blt (n * (9 : Nat)) then bif FV.isI
     IntKind.u8 (vs.getD ((0 : Nat) + (↑i : Int).toNat * (9 : Nat) + (1 : Nat) + (1 : Nat) + (1 : Nat)) (FV.b false)) then bif ((0 : Nat) + (↑i : Int).toNat * (9 : Nat) + (1 : Nat) + (1 : Nat) + (1 : Nat)
     + (1 : Nat)).blt (n * (9 : Nat)) then bif (vs.getD ((0 : Nat) + (↑i : Int).toNat * (9 : Nat) + (1 : Nat) + (1 : Nat) + (1 : Nat) + (1 : Nat)) (FV.b false)).isB then bif ((0 : Nat) + (↑i : Int).toNat *
     (9 : Nat) + (1 : Nat) + (1 : Nat) + (1 : Nat) + (1 : Nat) + (1 : Nat)).blt (n * (9 : Nat)) then bif FV.isI IntKind.i64 (vs.getD ((0 : Nat) + (↑i : Int).toNat * (9 : Nat) + (1 : Nat) + (1 : Nat) + (1 :
     Nat) + (1 : Nat) + (1 : Nat)) (FV.b false)) then bif ((0 : Nat) + (↑i : Int).toNat * (9 : Nat) + (1 : Nat) + (1 : Nat) + (1 : Nat) + (1 : Nat) + (1 : Nat) + (1 : Nat)).blt (n * (9 : Nat)) then bif
     (vs.getD ((0 : Nat) + (↑i : Int).toNat * (9 : Nat) + (1 : Nat) + (1 : Nat) + (1 : Nat) + (1 : Nat) + (1 : Nat) + (1 : Nat)) (FV.b false)).isB then bif ((0 : Nat) + (↑i : Int).toNat * (9 : Nat) + (1 :
     Nat) + (1 : Nat) + (1 : Nat) + (1 : Nat) + (1 : Nat) + (1 : Nat) + (1 : Nat)).blt (n * (9 : Nat)) then bif FV.isI IntKind.i64 (vs.getD ((0 : Nat) + (↑i : Int).toNat * (9 : Nat) + (1 : Nat) + (1 : Nat)
     + (1 : Nat) + (1 : Nat) + (1 : Nat) + (1 : Nat) + (1 : Nat)) (FV.b false)) then bif ((0 : Nat) + (↑i : Int).toNat * (9 : Nat) + (1 : Nat) + (1 : Nat) + (1 : Nat) + (1 : Nat) + (1 : Nat) + (1 : Nat) +
     (1 : Nat) + (1 : Nat)).blt (n * (9 : Nat)) then bif (vs.getD ((0 : Nat) + (↑i : Int).toNat * (9 : Nat) + (1 : Nat) + (1 : Nat) + (1 : Nat) + (1 : Nat) + (1 : Nat) + (1 : Nat) + (1 : Nat) + (1 : Nat))
     (FV.b false)).isB then bif (vs.getD ((0 : Nat) + (↑i : Int).toNat * (9 : Nat) + (1 : Nat)) (FV.b false)).asB then none else bif decide ((vs.getD ((0 : Nat) + (↑i : Int).toNat * (9 : Nat) + (1 : Nat) +
     (1 : Nat)) (FV.b false)).asI < now) then none else bif (vs.getD ((0 : Nat) + (↑i : Int).toNat * (9 : Nat)) (FV.b false)).asB then none else bif (vs.getD ((0 : Nat) + (↑i : Int).toNat * (9 : Nat))
     (FV.b false)).asB then none else bif chk (now ≤ (vs.getD ((0 : Nat) + (↑i : Int).toNat * (9 : Nat) + (1 : Nat) + (1 : Nat)) (FV.b false)).asI ∧ (vs.getD ((0 : Nat) + (↑i : Int).toNat * (9 : Nat) + (1
     : Nat) + (1 : Nat) + (1 : Nat) + (1 : Nat) + (1 : Nat) + (1 : Nat) + (1 : Nat) + (1 : Nat)) (FV.b false)).asB = true) then bif (vs.getD ((0 : Nat) + (↑i : Int).toNat * (9 : Nat) + (1 : Nat) + (1 :
     Nat) + (1 : Nat) + (1 : Nat) + (1 : Nat) + (1 : Nat) + (1 : Nat) + (1 : Nat)) (FV.b false)).asB then on [Value.bool false, Value.pointer (some (Addr.mk (1 : Nat) (0 : Nat) none)), Value.int
     IntKind.i64 w, Value.int IntKind.i64 last, Value.int IntKind.i64 edge, Value.int IntKind.i64 (vs.getD ((0 : Nat) + (↑i : Int).toNat * (9 : Nat) + (1 : Nat) + (1 : Nat)) (FV.b false)).asI, Value.int
     IntKind.i64 (vs.getD ((0 : Nat) + (↑i : Int).toNat * (9 : Nat) + (1 : Nat) + (1 : Nat)) (FV.b false)).asI, Value.slice (some (Addr.mk (0 : Nat) (0 : Nat) none)) n (2 : Nat), Value.int IntKind.i64 (↑n
     : Int), Value.int IntKind.i64 (IntKind.i64.wrap ((↑i : Int) + (1 : Int)))] [some (Blk.mk false (9 : Nat) [Seg.any (n * (9 : Nat)) vs]), some (Blk.mk true (5 : Nat) [Seg.vals [Value.pointer (some
     (Addr.mk (2 : Nat) (0 : Nat) none))], Seg.ints IntKind.i64 (2 : Nat) [w, (vs.getD ((0 : Nat) + (↑i : Int).toNat * (9 : Nat) + (1 : Nat) + (1 : Nat)) (FV.b false)).asI], Seg.vals [Value.bool t,
     Value.pointer (some (Addr.mk (3 : Nat) (0 : Nat) none))]]), some (Blk.mk true (9 : Nat) [Seg.ints IntKind.i64 (9 : Nat) xs]), some (Blk.mk true (7 : Nat) [Seg.ints IntKind.i64 (1 : Nat) [(vs.getD ((0
     : Nat) + (↑i : Int).toNat * (9 : Nat) + (1 : Nat) + (1 : Nat)) (FV.b false)).asI], Seg.ints IntKind.u8 (1 : Nat) [(vs.getD ((0 : Nat) + (↑i : Int).toNat * (9 : Nat) + (1 : Nat) + (1 : Nat) + (1 :
     Nat)) (FV.b false)).asI], Seg.vals [Value.bool (vs.getD ((0 : Nat) + (↑i : Int).toNat * (9 : Nat) + (1 : Nat) + (1 : Nat) + (1 : Nat) + (1 : Nat)) (FV.b false)).asB], Seg.ints IntKind.i64 (1 : Nat)
     [(vs.getD ((0 : Nat) + (↑i : Int).toNat * (9 : Nat) + (1 : Nat) + (1 : Nat) + (1 : Nat) + (1 : Nat) + (1 : Nat)) (FV.b false)).asI], Seg.vals [Value.bool (vs.getD ((0 : Nat) + (↑i : Int).toNat * (9 :
     Nat) + (1 : Nat) + (1 : Nat) + (1 : Nat) + (1 : Nat) + (1 : Nat) + (1 : Nat)) (FV.b false)).asB], Seg.ints IntKind.i64 (1 : Nat) [(vs.getD ((0 : Nat) + (↑i : Int).toNat * (9 : Nat) + (1 : Nat) + (1 :
     Nat) + (1 : Nat) + (1 : Nat) + (1 : Nat) + (1 : Nat) + (1 : Nat)) (FV.b false)).asI], Seg.vals [Value.bool (vs.getD ((0 : Nat) + (↑i : Int).toNat * (9 : Nat) + (1 : Nat) + (1 : Nat) + (1 : Nat) + (1 :
     Nat) + (1 : Nat) + (1 : Nat) + (1 : Nat) + (1 : Nat)) (FV.b false)).asB]])] else none else none else none else none else none else none else none else none else none else none else none else none else
     none else none else none else none else none else none else none else none else none else none) (by kernel_rfl) (by simp only [-eq_self, Int.toNat_natCast, Nat.zero_add, swrap w1.1 w1.2]; exact (go_t (dec_t h1) (go_t (and_t (dec_t h2) (dec_t h1)) (go_t (blt_t h3) (go_t h4 (go_t (blt_t h5) (go_t h6 (go_t (blt_t h7) (go_t h8 (go_t (blt_t h9) (go_t h10 (go_t (blt_t h11) (go_t h12 (go_t (blt_t h13) (go_t h14 (go_t (blt_t h15) (go_t h16 (go_t (blt_t h17) (go_t h18 (go_t (blt_t h19) (go_t h20 (go_f h21 (go_f (dec_f h22) (go_f h23 (go_f h23 (go_t (chk_t h24) (go_t h25 rfl)))))))))))))))))))))))))))
--CFEND
--CP p7mXS (w last edge now next a : Int) (t : Bool) (m : Ms) (n i : Nat) (xs : List Int) (vs : List FV) (on : List Value → Heap → Out) (out : Exit → List Value → Heap → Out) :: roundK Try.prog (S7mX.on [(36, true), (41, false), (47, false), (50, false), (60, false), (103, false)]) noL Try.f7.ntmps 1 (loopOf Try.f7 0) live7 [.bool false, pt 1, w63 w, w63 last, w63 edge, w63 now, w63 next, sl 0 n 2, w63 n, w63 i] [opsB n vs, PBe 2 w now t (pt 3), eB true xs, WB true a m] on out
theorem p7mXS (w last edge now next a : Int) (t : Bool) (m : Ms) (n i : Nat) (xs : List Int) (vs : List FV) (on : List Value → Heap → Out) (out : Exit → List Value → Heap → Out)
    (w1 : -9223372036854775808 ≤ (↑i : Int) + (1 : Int) ∧ (↑i : Int) + (1 : Int) ≤ 9223372036854775807 := by omega)
    (h1 : (↑i : Int) < (↑n : Int) := by first | omega | assumption | rfl)
    (h2 : (0 : Int) ≤ (↑i : Int) := by first | omega | assumption | rfl)
    (h3 : i * (9 : Nat) < n * (9 : Nat) := by first | omega | assumption | rfl)
    (h4 : (vs.getD (i * (9 : Nat)) (FV.b false)).isB = true := by first | omega | assumption | rfl)
    (h5 : i * (9 : Nat) + (1 : Nat) < n * (9 : Nat) := by first | omega | assumption | rfl)
    (h6 : (vs.getD (i * (9 : Nat) + (1 : Nat)) (FV.b false)).isB = true := by first | omega | assumption | rfl)
    (h7 : i * (9 : Nat) + (2 : Nat) < n * (9 : Nat) := by first | omega | assumption | rfl)
    (h8 : FV.isI IntKind.i64 (vs.getD (i * (9 : Nat) + (2 : Nat)) (FV.b false)) = true := by first | omega | assumption | rfl)
    (h9 : i * (9 : Nat) + (3 : Nat) < n * (9 : Nat) := by first | omega | assumption | rfl)
    (h10 : FV.isI IntKind.u8 (vs.getD (i * (9 : Nat) + (3 : Nat)) (FV.b false)) = true := by first | omega | assumption | rfl)
    (h11 : i * (9 : Nat) + (4 : Nat) < n * (9 : Nat) := by first | omega | assumption | rfl)
    (h12 : (vs.getD (i * (9 : Nat) + (4 : Nat)) (FV.b false)).isB = true := by first | omega | assumption | rfl)
    (h13 : i * (9 : Nat) + (5 : Nat) < n * (9 : Nat) := by first | omega | assumption | rfl)
    (h14 : FV.isI IntKind.i64 (vs.getD (i * (9 : Nat) + (5 : Nat)) (FV.b false)) = true := by first | omega | assumption | rfl)
    (h15 : i * (9 : Nat) + (6 : Nat) < n * (9 : Nat) := by first | omega | assumption | rfl)
    (h16 : (vs.getD (i * (9 : Nat) + (6 : Nat)) (FV.b false)).isB = true := by first | omega | assumption | rfl)
    (h17 : i * (9 : Nat) + (7 : Nat) < n * (9 : Nat) := by first | omega | assumption | rfl)
    (h18 : FV.isI IntKind.i64 (vs.getD (i * (9 : Nat) + (7 : Nat)) (FV.b false)) = true := by first | omega | assumption | rfl)
    (h19 : i * (9 : Nat) + (8 : Nat) < n * (9 : Nat) := by first | omega | assumption | rfl)
    (h20 : (vs.getD (i * (9 : Nat) + (8 : Nat)) (FV.b false)).isB = true := by first | omega | assumption | rfl)
    (h21 : (vs.getD (i * (9 : Nat) + (1 : Nat)) (FV.b false)).asB = false := by first | omega | assumption | rfl)
    (h22 : ¬(vs.getD (i * (9 : Nat) + (2 : Nat)) (FV.b false)).asI < now := by first | omega | assumption | rfl)
    (h23 : (vs.getD (i * (9 : Nat)) (FV.b false)).asB = false := by first | omega | assumption | rfl)
    (h24 : now ≤ (vs.getD (i * (9 : Nat) + (2 : Nat)) (FV.b false)).asI ∧ (vs.getD (i * (9 : Nat) + (8 : Nat)) (FV.b false)).asB = false ∧ (0 : Int) ≤ now ∧ (0 : Int) ≤ w ∧ w ≤ (1000000000 : Int) ∧ (0 : Int) ≤ xs.getD (8 : Nat) (0 : Int) ∧ xs.getD (8 : Nat) (0 : Int) ≤ (1000 : Int) ∧ (xs.getD (8 : Nat) (0 : Int) = (0 : Int) ∨ (0 : Int) ≤ lastR xs ∧ lastR xs ≤ (vs.getD (i * (9 : Nat) + (2 : Nat)) (FV.b false)).asI) ∧ (xs.getD (8 : Nat) (0 : Int) = (0 : Int) ∨ t = true ∨ w < (vs.getD (i * (9 : Nat) + (2 : Nat)) (FV.b false)).asI - lastR xs ∨ cnt (allX xs) ((vs.getD (i * (9 : Nat) + (2 : Nat)) (FV.b false)).asI - w) (vs.getD (i * (9 : Nat) + (2 : Nat)) (FV.b false)).asI ≠ (1 : Nat)) := by first | omega | assumption | rfl)
    (h25 : (vs.getD (i * (9 : Nat) + (8 : Nat)) (FV.b false)).asB = false := by first | omega | assumption | rfl) : roundK Try.prog (S7mX.on [(36, true), (41, false), (47, false), (50, false), (60, false), (103, false)]) noL Try.f7.ntmps 1 (loopOf Try.f7 0) live7 [.bool false, pt 1, w63 w, w63 last, w63 edge, w63 now, w63 next, sl 0 n 2, w63 n, w63 i] [opsB n vs, PBe 2 w now t (pt 3), eB true xs, WB true a m] on out =
     (on [Value.bool false, Value.pointer (some (Addr.mk (1 : Nat) (0 : Nat) none)), Value.int IntKind.i64 w, Value.int IntKind.i64 last, Value.int IntKind.i64 edge, Value.int IntKind.i64 (vs.getD (i * (9
     : Nat) + (2 : Nat)) (FV.b false)).asI, Value.int IntKind.i64 next, Value.slice (some (Addr.mk (0 : Nat) (0 : Nat) none)) n (2 : Nat), Value.int IntKind.i64 (↑n : Int), Value.int IntKind.i64 ((↑i :
     Int) + (1 : Int))] [some (Blk.mk false (9 : Nat) [Seg.any (n * (9 : Nat)) vs]), some (Blk.mk true (5 : Nat) [Seg.vals [Value.pointer (some (Addr.mk (2 : Nat) (0 : Nat) none))], Seg.ints IntKind.i64 (2
     : Nat) [w, (vs.getD (i * (9 : Nat) + (2 : Nat)) (FV.b false)).asI], Seg.vals [Value.bool t, Value.pointer (some (Addr.mk (3 : Nat) (0 : Nat) none))]]), some (Blk.mk true (9 : Nat) [Seg.ints
     IntKind.i64 (9 : Nat) xs]), some (Blk.mk true (7 : Nat) [Seg.ints IntKind.i64 (1 : Nat) [a], Seg.ints IntKind.u8 (1 : Nat) [m.kd], Seg.vals [Value.bool m.u], Seg.ints IntKind.i64 (1 : Nat) [m.s],
     Seg.vals [Value.bool m.l], Seg.ints IntKind.i64 (1 : Nat) [m.c], Seg.vals [Value.bool m.n]])]) :=
  Eq.trans (b :=
     bif decide ((↑i : Int) < (↑n : Int)) then bif decide ((0 : Int) ≤ (↑i : Int)) && decide ((↑i : Int) < (↑n : Int)) then bif ((0 : Nat) + (↑i : Int).toNat * (9 : Nat)).blt (n * (9 : Nat)) then bif
     (vs.getD ((0 : Nat) + (↑i : Int).toNat * (9 : Nat)) (FV.b false)).isB then bif ((0 : Nat) + (↑i : Int).toNat * (9 : Nat) + (1 : Nat)).blt (n * (9 : Nat)) then bif (vs.getD ((0 : Nat) + (↑i :
     Int).toNat * (9 : Nat) + (1 : Nat)) (FV.b false)).isB then bif ((0 : Nat) + (↑i : Int).toNat * (9 : Nat) + (1 : Nat) + (1 : Nat)).blt (n * (9 : Nat)) then bif FV.isI IntKind.i64 (vs.getD ((0 : Nat) +
     (↑i : Int).toNat * (9 : Nat) + (1 : Nat) + (1 : Nat)) (FV.b false)) then bif ((0 : Nat) + (↑i : Int).toNat * (9 : Nat) + (1 : Nat) + (1 : Nat) + (1 : Nat)).blt (n * (9 : Nat)) then bif FV.isI
     IntKind.u8 (vs.getD ((0 : Nat) + (↑i : Int).toNat * (9 : Nat) + (1 : Nat) + (1 : Nat) + (1 : Nat)) (FV.b false)) then bif ((0 : Nat) + (↑i : Int).toNat * (9 : Nat) + (1 : Nat) + (1 : Nat) + (1 : Nat)
     + (1 : Nat)).blt (n * (9 : Nat)) then bif (vs.getD ((0 : Nat) + (↑i : Int).toNat * (9 : Nat) + (1 : Nat) + (1 : Nat) + (1 : Nat) + (1 : Nat)) (FV.b false)).isB then bif ((0 : Nat) + (↑i : Int).toNat *
     (9 : Nat) + (1 : Nat) + (1 : Nat) + (1 : Nat) + (1 : Nat) + (1 : Nat)).blt (n * (9 : Nat)) then bif FV.isI IntKind.i64 (vs.getD ((0 : Nat) + (↑i : Int).toNat * (9 : Nat) + (1 : Nat) + (1 : Nat) + (1 :
     Nat) + (1 : Nat) + (1 : Nat)) (FV.b false)) then bif ((0 : Nat) + (↑i : Int).toNat * (9 : Nat) + (1 : Nat) + (1 : Nat) + (1 : Nat) + (1 : Nat) + (1 : Nat) + (1 : Nat)).blt (n * (9 : Nat)) then bif
     (vs.getD ((0 : Nat) + (↑i : Int).toNat * (9 : Nat) + (1 : Nat) + (1 : Nat) + (1 : Nat) + (1 : Nat) + (1 : Nat) + (1 : Nat)) (FV.b false)).isB then bif ((0 : Nat) + (↑i : Int).toNat * (9 : Nat) + (1 :
     Nat) + (1 : Nat) + (1 : Nat) + (1 : Nat) + (1 : Nat) + (1 : Nat) + (1 : Nat)).blt (n * (9 : Nat)) then bif FV.isI IntKind.i64 (vs.getD ((0 : Nat) + (↑i : Int).toNat * (9 : Nat) + (1 : Nat) + (1 : Nat)
     + (1 : Nat) + (1 : Nat) + (1 : Nat) + (1 : Nat) + (1 : Nat)) (FV.b false)) then bif ((0 : Nat) + (↑i : Int).toNat * (9 : Nat) + (1 : Nat) + (1 : Nat) + (1 : Nat) + (1 : Nat) + (1 : Nat) + (1 : Nat) +
     (1 : Nat) + (1 : Nat)).blt (n * (9 : Nat)) then bif (vs.getD ((0 : Nat) + (↑i : Int).toNat * (9 : Nat) + (1 : Nat) + (1 : Nat) + (1 : Nat) + (1 : Nat) + (1 : Nat) + (1 : Nat) + (1 : Nat) + (1 : Nat))
     (FV.b false)).isB then bif (vs.getD ((0 : Nat) + (↑i : Int).toNat * (9 : Nat) + (1 : Nat)) (FV.b false)).asB then none else bif decide ((vs.getD ((0 : Nat) + (↑i : Int).toNat * (9 : Nat) + (1 : Nat) +
     (1 : Nat)) (FV.b false)).asI < now) then none else bif (vs.getD ((0 : Nat) + (↑i : Int).toNat * (9 : Nat)) (FV.b false)).asB then none else bif (vs.getD ((0 : Nat) + (↑i : Int).toNat * (9 : Nat))
     (FV.b false)).asB then none else bif chk (now ≤ (vs.getD ((0 : Nat) + (↑i : Int).toNat * (9 : Nat) + (1 : Nat) + (1 : Nat)) (FV.b false)).asI ∧ (vs.getD ((0 : Nat) + (↑i : Int).toNat * (9 : Nat) + (1
     : Nat) + (1 : Nat) + (1 : Nat) + (1 : Nat) + (1 : Nat) + (1 : Nat) + (1 : Nat) + (1 : Nat)) (FV.b false)).asB = false ∧ (0 : Int) ≤ now ∧ (0 : Int) ≤ w ∧ w ≤ (1000000000 : Int) ∧ (0 : Int) ≤ xs.getD
     (8 : Nat) (0 : Int) ∧ xs.getD (8 : Nat) (0 : Int) ≤ (1000 : Int) ∧ (xs.getD (8 : Nat) (0 : Int) = (0 : Int) ∨ (0 : Int) ≤ lastR xs ∧ lastR xs ≤ (vs.getD ((0 : Nat) + (↑i : Int).toNat * (9 : Nat) + (1
     : Nat) + (1 : Nat)) (FV.b false)).asI) ∧ (xs.getD (8 : Nat) (0 : Int) = (0 : Int) ∨ t = true ∨ w < (vs.getD ((0 : Nat) + (↑i : Int).toNat * (9 : Nat) + (1 : Nat) + (1 : Nat)) (FV.b false)).asI - lastR
     xs ∨ cnt (allX xs) ((vs.getD ((0 : Nat) + (↑i : Int).toNat * (9 : Nat) + (1 : Nat) + (1 : Nat)) (FV.b false)).asI - w) (vs.getD ((0 : Nat) + (↑i : Int).toNat * (9 : Nat) + (1 : Nat) + (1 : Nat)) (FV.b
     false)).asI ≠ (1 : Nat))) then bif (vs.getD ((0 : Nat) + (↑i : Int).toNat * (9 : Nat) + (1 : Nat) + (1 : Nat) + (1 : Nat) + (1 : Nat) + (1 : Nat) + (1 : Nat) + (1 : Nat) + (1 : Nat)) (FV.b false)).asB
     then none else on [Value.bool false, Value.pointer (some (Addr.mk (1 : Nat) (0 : Nat) none)), Value.int IntKind.i64 w, Value.int IntKind.i64 last, Value.int IntKind.i64 edge, Value.int IntKind.i64
     (vs.getD ((0 : Nat) + (↑i : Int).toNat * (9 : Nat) + (1 : Nat) + (1 : Nat)) (FV.b false)).asI, Value.int IntKind.i64 next, Value.slice (some (Addr.mk (0 : Nat) (0 : Nat) none)) n (2 : Nat), Value.int
     IntKind.i64 (↑n : Int), Value.int IntKind.i64 (IntKind.i64.wrap ((↑i : Int) + (1 : Int)))] [some (Blk.mk false (9 : Nat) [Seg.any (n * (9 : Nat)) vs]), some (Blk.mk true (5 : Nat) [Seg.vals
     [Value.pointer (some (Addr.mk (2 : Nat) (0 : Nat) none))], Seg.ints IntKind.i64 (2 : Nat) [w, (vs.getD ((0 : Nat) + (↑i : Int).toNat * (9 : Nat) + (1 : Nat) + (1 : Nat)) (FV.b false)).asI], Seg.vals
     [Value.bool t, Value.pointer (some (Addr.mk (3 : Nat) (0 : Nat) none))]]), some (Blk.mk true (9 : Nat) [Seg.ints IntKind.i64 (9 : Nat) xs]), some (Blk.mk true (7 : Nat) [Seg.ints IntKind.i64 (1 : Nat)
     [a], Seg.ints IntKind.u8 (1 : Nat) [m.kd], Seg.vals [Value.bool m.u], Seg.ints IntKind.i64 (1 : Nat) [m.s], Seg.vals [Value.bool m.l], Seg.ints IntKind.i64 (1 : Nat) [m.c], Seg.vals [Value.bool
     m.n]])] else none else none else none else none else none else none else none else none else none else none else none else none else none else none else none else none else none else none else none
     else none else none) (by kernel_rfl) (by simp only [-eq_self, Int.toNat_natCast, Nat.zero_add, swrap w1.1 w1.2]; exact (go_t (dec_t h1) (go_t (and_t (dec_t h2) (dec_t h1)) (go_t (blt_t h3) (go_t h4 (go_t (blt_t h5) (go_t h6 (go_t (blt_t h7) (go_t h8 (go_t (blt_t h9) (go_t h10 (go_t (blt_t h11) (go_t h12 (go_t (blt_t h13) (go_t h14 (go_t (blt_t h15) (go_t h16 (go_t (blt_t h17) (go_t h18 (go_t (blt_t h19) (go_t h20 (go_f h21 (go_f (dec_f h22) (go_f h23 (go_f h23 (go_t (chk_t h24) (go_f h25 rfl)))))))))))))))))))))))))))
--CFEND
--CP p7mPS (w last edge now next a : Int) (t : Bool) (m : Ms) (n i : Nat) (xs : List Int) (vs : List FV) (on : List Value → Heap → Out) (out : Exit → List Value → Heap → Out) :: roundK Try.prog (S7mP.on [(36, true), (41, false), (47, false), (50, false), (60, false), (103, false), (113, false), (118, false), (124, false), (132, false), (139, false)]) noL Try.f7.ntmps 1 (loopOf Try.f7 0) live7 [.bool false, pt 1, w63 w, w63 last, w63 edge, w63 now, w63 next, sl 0 n 2, w63 n, w63 i] [opsB n vs, PBe 2 w now t (pt 3), eB true xs, WB true a m] on out
theorem p7mPS (w last edge now next a : Int) (t : Bool) (m : Ms) (n i : Nat) (xs : List Int) (vs : List FV) (on : List Value → Heap → Out) (out : Exit → List Value → Heap → Out)
    (w1 : -9223372036854775808 ≤ (vs.getD (i * (9 : Nat) + (2 : Nat)) (FV.b false)).asI - edge ∧ (vs.getD (i * (9 : Nat) + (2 : Nat)) (FV.b false)).asI - edge ≤ 9223372036854775807 := by omega)
    (w2 : -9223372036854775808 ≤ (↑i : Int) + (1 : Int) ∧ (↑i : Int) + (1 : Int) ≤ 9223372036854775807 := by omega)
    (h1 : (↑i : Int) < (↑n : Int) := by first | omega | assumption | rfl)
    (h2 : (0 : Int) ≤ (↑i : Int) := by first | omega | assumption | rfl)
    (h3 : i * (9 : Nat) < n * (9 : Nat) := by first | omega | assumption | rfl)
    (h4 : (vs.getD (i * (9 : Nat)) (FV.b false)).isB = true := by first | omega | assumption | rfl)
    (h5 : i * (9 : Nat) + (1 : Nat) < n * (9 : Nat) := by first | omega | assumption | rfl)
    (h6 : (vs.getD (i * (9 : Nat) + (1 : Nat)) (FV.b false)).isB = true := by first | omega | assumption | rfl)
    (h7 : i * (9 : Nat) + (2 : Nat) < n * (9 : Nat) := by first | omega | assumption | rfl)
    (h8 : FV.isI IntKind.i64 (vs.getD (i * (9 : Nat) + (2 : Nat)) (FV.b false)) = true := by first | omega | assumption | rfl)
    (h9 : i * (9 : Nat) + (3 : Nat) < n * (9 : Nat) := by first | omega | assumption | rfl)
    (h10 : FV.isI IntKind.u8 (vs.getD (i * (9 : Nat) + (3 : Nat)) (FV.b false)) = true := by first | omega | assumption | rfl)
    (h11 : i * (9 : Nat) + (4 : Nat) < n * (9 : Nat) := by first | omega | assumption | rfl)
    (h12 : (vs.getD (i * (9 : Nat) + (4 : Nat)) (FV.b false)).isB = true := by first | omega | assumption | rfl)
    (h13 : i * (9 : Nat) + (5 : Nat) < n * (9 : Nat) := by first | omega | assumption | rfl)
    (h14 : FV.isI IntKind.i64 (vs.getD (i * (9 : Nat) + (5 : Nat)) (FV.b false)) = true := by first | omega | assumption | rfl)
    (h15 : i * (9 : Nat) + (6 : Nat) < n * (9 : Nat) := by first | omega | assumption | rfl)
    (h16 : (vs.getD (i * (9 : Nat) + (6 : Nat)) (FV.b false)).isB = true := by first | omega | assumption | rfl)
    (h17 : i * (9 : Nat) + (7 : Nat) < n * (9 : Nat) := by first | omega | assumption | rfl)
    (h18 : FV.isI IntKind.i64 (vs.getD (i * (9 : Nat) + (7 : Nat)) (FV.b false)) = true := by first | omega | assumption | rfl)
    (h19 : i * (9 : Nat) + (8 : Nat) < n * (9 : Nat) := by first | omega | assumption | rfl)
    (h20 : (vs.getD (i * (9 : Nat) + (8 : Nat)) (FV.b false)).isB = true := by first | omega | assumption | rfl)
    (h21 : (vs.getD (i * (9 : Nat) + (1 : Nat)) (FV.b false)).asB = false := by first | omega | assumption | rfl)
    (h22 : ¬(vs.getD (i * (9 : Nat) + (2 : Nat)) (FV.b false)).asI < now := by first | omega | assumption | rfl)
    (h23 : (vs.getD (i * (9 : Nat)) (FV.b false)).asB = false := by first | omega | assumption | rfl)
    (h24 : now ≤ (vs.getD (i * (9 : Nat) + (2 : Nat)) (FV.b false)).asI ∧ (vs.getD (i * (9 : Nat) + (8 : Nat)) (FV.b false)).asB = false ∧ (0 : Int) ≤ now ∧ (0 : Int) ≤ w ∧ w ≤ (1000000000 : Int) ∧ (0 : Int) ≤ xs.getD (8 : Nat) (0 : Int) ∧ xs.getD (8 : Nat) (0 : Int) ≤ (1000 : Int) ∧ (xs.getD (8 : Nat) (0 : Int) = (0 : Int) ∨ (0 : Int) ≤ lastR xs ∧ lastR xs ≤ (vs.getD (i * (9 : Nat) + (2 : Nat)) (FV.b false)).asI) ∧ xs.getD (8 : Nat) (0 : Int) ≠ (0 : Int) ∧ t = false ∧ (vs.getD (i * (9 : Nat) + (2 : Nat)) (FV.b false)).asI - lastR xs ≤ w ∧ cnt (allX xs) ((vs.getD (i * (9 : Nat) + (2 : Nat)) (FV.b false)).asI - w) (vs.getD (i * (9 : Nat) + (2 : Nat)) (FV.b false)).asI = (1 : Nat) := by first | omega | assumption | rfl)
    (h25 : (vs.getD (i * (9 : Nat) + (8 : Nat)) (FV.b false)).asB = false := by first | omega | assumption | rfl)
    (h26 : (vs.getD (i * (9 : Nat) + (3 : Nat)) (FV.b false)).asI = (vs.getD (i * (9 : Nat) + (3 : Nat)) (FV.b false)).asI := by first | omega | assumption | rfl)
    (h27 : (vs.getD (i * (9 : Nat) + (4 : Nat)) (FV.b false)).asB = (vs.getD (i * (9 : Nat) + (4 : Nat)) (FV.b false)).asB := by first | omega | assumption | rfl)
    (h28 : (vs.getD (i * (9 : Nat) + (5 : Nat)) (FV.b false)).asI = (vs.getD (i * (9 : Nat) + (5 : Nat)) (FV.b false)).asI := by first | omega | assumption | rfl)
    (h29 : (vs.getD (i * (9 : Nat) + (6 : Nat)) (FV.b false)).asB = (vs.getD (i * (9 : Nat) + (6 : Nat)) (FV.b false)).asB := by first | omega | assumption | rfl)
    (h30 : (vs.getD (i * (9 : Nat) + (7 : Nat)) (FV.b false)).asI = (vs.getD (i * (9 : Nat) + (7 : Nat)) (FV.b false)).asI := by first | omega | assumption | rfl)
    (h31 : (vs.getD (i * (9 : Nat) + (8 : Nat)) (FV.b false)).asB = (vs.getD (i * (9 : Nat) + (8 : Nat)) (FV.b false)).asB := by first | omega | assumption | rfl)
    (h32 : lastR xs = edge := by first | omega | assumption | rfl)
    (h33 : ¬(vs.getD (i * (9 : Nat) + (2 : Nat)) (FV.b false)).asI - edge > w := by first | omega | assumption | rfl)
    (h34 : ¬lastR xs ≤ last := by first | omega | assumption | rfl) : roundK Try.prog (S7mP.on [(36, true), (41, false), (47, false), (50, false), (60, false), (103, false), (113, false), (118, false), (124, false), (132, false), (139, false)]) noL Try.f7.ntmps 1 (loopOf Try.f7 0) live7 [.bool false, pt 1, w63 w, w63 last, w63 edge, w63 now, w63 next, sl 0 n 2, w63 n, w63 i] [opsB n vs, PBe 2 w now t (pt 3), eB true xs, WB true a m] on out =
     (on [Value.bool false, Value.pointer (some (Addr.mk (1 : Nat) (0 : Nat) none)), Value.int IntKind.i64 w, Value.int IntKind.i64 (lastR xs), Value.int IntKind.i64 edge, Value.int IntKind.i64 (vs.getD (i
     * (9 : Nat) + (2 : Nat)) (FV.b false)).asI, Value.int IntKind.i64 next, Value.slice (some (Addr.mk (0 : Nat) (0 : Nat) none)) n (2 : Nat), Value.int IntKind.i64 (↑n : Int), Value.int IntKind.i64 ((↑i
     : Int) + (1 : Int))] [some (Blk.mk false (9 : Nat) [Seg.any (n * (9 : Nat)) vs]), some (Blk.mk true (5 : Nat) [Seg.vals [Value.pointer (some (Addr.mk (2 : Nat) (0 : Nat) none))], Seg.ints IntKind.i64
     (2 : Nat) [w, (vs.getD (i * (9 : Nat) + (2 : Nat)) (FV.b false)).asI], Seg.vals [Value.bool true, Value.pointer (some (Addr.mk (3 : Nat) (0 : Nat) none))]]), some (Blk.mk true (9 : Nat) [Seg.ints
     IntKind.i64 (9 : Nat) xs]), some (Blk.mk true (7 : Nat) [Seg.ints IntKind.i64 (1 : Nat) [a], Seg.ints IntKind.u8 (1 : Nat) [m.kd], Seg.vals [Value.bool m.u], Seg.ints IntKind.i64 (1 : Nat) [m.s],
     Seg.vals [Value.bool m.l], Seg.ints IntKind.i64 (1 : Nat) [m.c], Seg.vals [Value.bool m.n]])]) :=
  Eq.trans (b :=
     bif decide ((↑i : Int) < (↑n : Int)) then bif decide ((0 : Int) ≤ (↑i : Int)) && decide ((↑i : Int) < (↑n : Int)) then bif ((0 : Nat) + (↑i : Int).toNat * (9 : Nat)).blt (n * (9 : Nat)) then bif
     (vs.getD ((0 : Nat) + (↑i : Int).toNat * (9 : Nat)) (FV.b false)).isB then bif ((0 : Nat) + (↑i : Int).toNat * (9 : Nat) + (1 : Nat)).blt (n * (9 : Nat)) then bif (vs.getD ((0 : Nat) + (↑i :
     Int).toNat * (9 : Nat) + (1 : Nat)) (FV.b false)).isB then bif ((0 : Nat) + (↑i : Int).toNat * (9 : Nat) + (1 : Nat) + (1 : Nat)).blt (n * (9 : Nat)) then bif FV.isI IntKind.i64 (vs.getD ((0 : Nat) +
     (↑i : Int).toNat * (9 : Nat) + (1 : Nat) + (1 : Nat)) (FV.b false)) then bif ((0 : Nat) + (↑i : Int).toNat * (9 : Nat) + (1 : Nat) + (1 : Nat) + (1 : Nat)).blt (n * (9 : Nat)) then bif FV.isI
     IntKind.u8 (vs.getD ((0 : Nat) + (↑i : Int).toNat * (9 : Nat) + (1 : Nat) + (1 : Nat) + (1 : Nat)) (FV.b false)) then bif ((0 : Nat) + (↑i : Int).toNat * (9 : Nat) + (1 : Nat) + (1 : Nat) + (1 : Nat)
     + (1 : Nat)).blt (n * (9 : Nat)) then bif (vs.getD ((0 : Nat) + (↑i : Int).toNat * (9 : Nat) + (1 : Nat) + (1 : Nat) + (1 : Nat) + (1 : Nat)) (FV.b false)).isB then bif ((0 : Nat) + (↑i : Int).toNat *
     (9 : Nat) + (1 : Nat) + (1 : Nat) + (1 : Nat) + (1 : Nat) + (1 : Nat)).blt (n * (9 : Nat)) then bif FV.isI IntKind.i64 (vs.getD ((0 : Nat) + (↑i : Int).toNat * (9 : Nat) + (1 : Nat) + (1 : Nat) + (1 :
     Nat) + (1 : Nat) + (1 : Nat)) (FV.b false)) then bif ((0 : Nat) + (↑i : Int).toNat * (9 : Nat) + (1 : Nat) + (1 : Nat) + (1 : Nat) + (1 : Nat) + (1 : Nat) + (1 : Nat)).blt (n * (9 : Nat)) then bif
     (vs.getD ((0 : Nat) + (↑i : Int).toNat * (9 : Nat) + (1 : Nat) + (1 : Nat) + (1 : Nat) + (1 : Nat) + (1 : Nat) + (1 : Nat)) (FV.b false)).isB then bif ((0 : Nat) + (↑i : Int).toNat * (9 : Nat) + (1 :
     Nat) + (1 : Nat) + (1 : Nat) + (1 : Nat) + (1 : Nat) + (1 : Nat) + (1 : Nat)).blt (n * (9 : Nat)) then bif FV.isI IntKind.i64 (vs.getD ((0 : Nat) + (↑i : Int).toNat * (9 : Nat) + (1 : Nat) + (1 : Nat)
     + (1 : Nat) + (1 : Nat) + (1 : Nat) + (1 : Nat) + (1 : Nat)) (FV.b false)) then bif ((0 : Nat) + (↑i : Int).toNat * (9 : Nat) + (1 : Nat) + (1 : Nat) + (1 : Nat) + (1 : Nat) + (1 : Nat) + (1 : Nat) +
     (1 : Nat) + (1 : Nat)).blt (n * (9 : Nat)) then bif (vs.getD ((0 : Nat) + (↑i : Int).toNat * (9 : Nat) + (1 : Nat) + (1 : Nat) + (1 : Nat) + (1 : Nat) + (1 : Nat) + (1 : Nat) + (1 : Nat) + (1 : Nat))
     (FV.b false)).isB then bif (vs.getD ((0 : Nat) + (↑i : Int).toNat * (9 : Nat) + (1 : Nat)) (FV.b false)).asB then none else bif decide ((vs.getD ((0 : Nat) + (↑i : Int).toNat * (9 : Nat) + (1 : Nat) +
     (1 : Nat)) (FV.b false)).asI < now) then none else bif (vs.getD ((0 : Nat) + (↑i : Int).toNat * (9 : Nat)) (FV.b false)).asB then none else bif (vs.getD ((0 : Nat) + (↑i : Int).toNat * (9 : Nat))
     (FV.b false)).asB then none else bif chk (now ≤ (vs.getD ((0 : Nat) + (↑i : Int).toNat * (9 : Nat) + (1 : Nat) + (1 : Nat)) (FV.b false)).asI ∧ (vs.getD ((0 : Nat) + (↑i : Int).toNat * (9 : Nat) + (1
     : Nat) + (1 : Nat) + (1 : Nat) + (1 : Nat) + (1 : Nat) + (1 : Nat) + (1 : Nat) + (1 : Nat)) (FV.b false)).asB = false ∧ (0 : Int) ≤ now ∧ (0 : Int) ≤ w ∧ w ≤ (1000000000 : Int) ∧ (0 : Int) ≤ xs.getD
     (8 : Nat) (0 : Int) ∧ xs.getD (8 : Nat) (0 : Int) ≤ (1000 : Int) ∧ (xs.getD (8 : Nat) (0 : Int) = (0 : Int) ∨ (0 : Int) ≤ lastR xs ∧ lastR xs ≤ (vs.getD ((0 : Nat) + (↑i : Int).toNat * (9 : Nat) + (1
     : Nat) + (1 : Nat)) (FV.b false)).asI) ∧ xs.getD (8 : Nat) (0 : Int) ≠ (0 : Int) ∧ t = false ∧ (vs.getD ((0 : Nat) + (↑i : Int).toNat * (9 : Nat) + (1 : Nat) + (1 : Nat)) (FV.b false)).asI - lastR xs
     ≤ w ∧ cnt (allX xs) ((vs.getD ((0 : Nat) + (↑i : Int).toNat * (9 : Nat) + (1 : Nat) + (1 : Nat)) (FV.b false)).asI - w) (vs.getD ((0 : Nat) + (↑i : Int).toNat * (9 : Nat) + (1 : Nat) + (1 : Nat))
     (FV.b false)).asI = (1 : Nat)) then bif (vs.getD ((0 : Nat) + (↑i : Int).toNat * (9 : Nat) + (1 : Nat) + (1 : Nat) + (1 : Nat) + (1 : Nat) + (1 : Nat) + (1 : Nat) + (1 : Nat) + (1 : Nat)) (FV.b
     false)).asB then none else bif !((vs.getD ((0 : Nat) + (↑i : Int).toNat * (9 : Nat) + (1 : Nat) + (1 : Nat) + (1 : Nat)) (FV.b false)).asI == (vs.getD ((0 : Nat) + (↑i : Int).toNat * (9 : Nat) + (1 :
     Nat) + (1 : Nat) + (1 : Nat)) (FV.b false)).asI && ((vs.getD ((0 : Nat) + (↑i : Int).toNat * (9 : Nat) + (1 : Nat) + (1 : Nat) + (1 : Nat) + (1 : Nat)) (FV.b false)).asB == (vs.getD ((0 : Nat) + (↑i :
     Int).toNat * (9 : Nat) + (1 : Nat) + (1 : Nat) + (1 : Nat) + (1 : Nat)) (FV.b false)).asB && ((vs.getD ((0 : Nat) + (↑i : Int).toNat * (9 : Nat) + (1 : Nat) + (1 : Nat) + (1 : Nat) + (1 : Nat) + (1 :
     Nat)) (FV.b false)).asI == (vs.getD ((0 : Nat) + (↑i : Int).toNat * (9 : Nat) + (1 : Nat) + (1 : Nat) + (1 : Nat) + (1 : Nat) + (1 : Nat)) (FV.b false)).asI && ((vs.getD ((0 : Nat) + (↑i : Int).toNat
     * (9 : Nat) + (1 : Nat) + (1 : Nat) + (1 : Nat) + (1 : Nat) + (1 : Nat) + (1 : Nat)) (FV.b false)).asB == (vs.getD ((0 : Nat) + (↑i : Int).toNat * (9 : Nat) + (1 : Nat) + (1 : Nat) + (1 : Nat) + (1 :
     Nat) + (1 : Nat) + (1 : Nat)) (FV.b false)).asB && ((vs.getD ((0 : Nat) + (↑i : Int).toNat * (9 : Nat) + (1 : Nat) + (1 : Nat) + (1 : Nat) + (1 : Nat) + (1 : Nat) + (1 : Nat) + (1 : Nat)) (FV.b
     false)).asI == (vs.getD ((0 : Nat) + (↑i : Int).toNat * (9 : Nat) + (1 : Nat) + (1 : Nat) + (1 : Nat) + (1 : Nat) + (1 : Nat) + (1 : Nat) + (1 : Nat)) (FV.b false)).asI && ((vs.getD ((0 : Nat) + (↑i :
     Int).toNat * (9 : Nat) + (1 : Nat) + (1 : Nat) + (1 : Nat) + (1 : Nat) + (1 : Nat) + (1 : Nat) + (1 : Nat) + (1 : Nat)) (FV.b false)).asB == (vs.getD ((0 : Nat) + (↑i : Int).toNat * (9 : Nat) + (1 :
     Nat) + (1 : Nat) + (1 : Nat) + (1 : Nat) + (1 : Nat) + (1 : Nat) + (1 : Nat) + (1 : Nat)) (FV.b false)).asB && true)))))) then none else bif (vs.getD ((0 : Nat) + (↑i : Int).toNat * (9 : Nat) + (1 :
     Nat) + (1 : Nat) + (1 : Nat) + (1 : Nat) + (1 : Nat) + (1 : Nat) + (1 : Nat) + (1 : Nat)) (FV.b false)).asB then none else bif lastR xs != edge then none else bif decide (IntKind.i64.wrap ((vs.getD
     ((0 : Nat) + (↑i : Int).toNat * (9 : Nat) + (1 : Nat) + (1 : Nat)) (FV.b false)).asI - edge) > w) then none else bif decide (lastR xs ≤ last) then none else on [Value.bool false, Value.pointer (some
     (Addr.mk (1 : Nat) (0 : Nat) none)), Value.int IntKind.i64 w, Value.int IntKind.i64 (lastR xs), Value.int IntKind.i64 edge, Value.int IntKind.i64 (vs.getD ((0 : Nat) + (↑i : Int).toNat * (9 : Nat) +
     (1 : Nat) + (1 : Nat)) (FV.b false)).asI, Value.int IntKind.i64 next, Value.slice (some (Addr.mk (0 : Nat) (0 : Nat) none)) n (2 : Nat), Value.int IntKind.i64 (↑n : Int), Value.int IntKind.i64
     (IntKind.i64.wrap ((↑i : Int) + (1 : Int)))] [some (Blk.mk false (9 : Nat) [Seg.any (n * (9 : Nat)) vs]), some (Blk.mk true (5 : Nat) [Seg.vals [Value.pointer (some (Addr.mk (2 : Nat) (0 : Nat)
     none))], Seg.ints IntKind.i64 (2 : Nat) [w, (vs.getD ((0 : Nat) + (↑i : Int).toNat * (9 : Nat) + (1 : Nat) + (1 : Nat)) (FV.b false)).asI], Seg.vals [Value.bool true, Value.pointer (some (Addr.mk (3 :
     Nat) (0 : Nat) none))]]), some (Blk.mk true (9 : Nat) [Seg.ints IntKind.i64 (9 : Nat) xs]), some (Blk.mk true (7 : Nat) [Seg.ints IntKind.i64 (1 : Nat) [a], Seg.ints IntKind.u8 (1 : Nat) [m.kd],
     Seg.vals [Value.bool m.u], Seg.ints IntKind.i64 (1 : Nat) [m.s], Seg.vals [Value.bool m.l], Seg.ints IntKind.i64 (1 : Nat) [m.c], Seg.vals [Value.bool m.n]])] else none else none else none else none
     else none else none else none else none else none else none else none else none else none else none else none else none else none else none else none else none else none) (by kernel_rfl) (by simp only [-eq_self, Int.toNat_natCast, Nat.zero_add, swrap w1.1 w1.2, swrap w2.1 w2.2]; exact (go_t (dec_t h1) (go_t (and_t (dec_t h2) (dec_t h1)) (go_t (blt_t h3) (go_t h4 (go_t (blt_t h5) (go_t h6 (go_t (blt_t h7) (go_t h8 (go_t (blt_t h9) (go_t h10 (go_t (blt_t h11) (go_t h12 (go_t (blt_t h13) (go_t h14 (go_t (blt_t h15) (go_t h16 (go_t (blt_t h17) (go_t h18 (go_t (blt_t h19) (go_t h20 (go_f h21 (go_f (dec_f h22) (go_f h23 (go_f h23 (go_t (chk_t h24) (go_f h25 (go_f (not_f (and_t (eqb_t h26) (and_t (eqb_t h27) (and_t (eqb_t h28) (and_t (eqb_t h29) (and_t (eqb_t h30) (and_t (eqb_t h31) rfl))))))) (go_f h25 (go_f (bne_f h32) (go_f (dec_f h33) (go_f (dec_f h34) rfl))))))))))))))))))))))))))))))))
--CFEND
end Go.Proofs.Ytpidmcpnkfgcjaa.VC
