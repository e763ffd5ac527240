/- PairPlays: rounds where a message waits (printed by gen/p14.py). -/
import Derived.Test.YtpidmcpnkfgcjaaP14
namespace Go.Proofs.Ytpidmcpnkfgcjaa.VC
open Go Go.Proofs

--CP p6xS (w now a : Int) (t : Bool) (m : Ms) (n i cc : Nat) (xs : List Int) (vs : List FV) (ts : List Th) (on : List Value → Heap → Out) (out : Exit → List Value → Heap → Out) :: roundK Try.prog ((mkS []).on [(55, false)]) noL Try.f6.ntmps 1 (loopOf Try.f6 0) live6 [.bool false, pt 1, pt 4, sl 0 n 2, w63 n, w63 i] [opsB n vs, PBe 2 w now t (pt 3), eB true xs, WB true a m, DBe 5 w ts.length cc, rowA true ts.length (flat ts)] on out
theorem p6xS (w now a : Int) (t : Bool) (m : Ms) (n i cc : Nat) (xs : List Int) (vs : List FV) (ts : List Th) (on : List Value → Heap → Out) (out : Exit → List Value → Heap → Out)
    (h1 : ¬(↑i : Int) < (↑n : Int) := by first | omega | assumption | rfl) : roundK Try.prog ((mkS []).on [(55, false)]) noL Try.f6.ntmps 1 (loopOf Try.f6 0) live6 [.bool false, pt 1, pt 4, sl 0 n 2, w63 n, w63 i] [opsB n vs, PBe 2 w now t (pt 3), eB true xs, WB true a m, DBe 5 w ts.length cc, rowA true ts.length (flat ts)] on out =
     (out (Exit.exit (0 : Nat)) [Value.bool false, Value.pointer (some (Addr.mk (1 : Nat) (0 : Nat) none)), Value.pointer (some (Addr.mk (4 : Nat) (0 : Nat) none)), Value.slice (some (Addr.mk (0 : Nat) (0
     : Nat) none)) n (2 : Nat), Value.int IntKind.i64 (↑n : Int), Value.int IntKind.i64 (↑i : Int)] [some (Blk.mk false (9 : Nat) [Seg.any (n * (9 : Nat)) vs]), some (Blk.mk true (5 : Nat) [Seg.vals
     [Value.pointer (some (Addr.mk (2 : Nat) (0 : Nat) none))], Seg.ints IntKind.i64 (2 : Nat) [w, now], Seg.vals [Value.bool t, Value.pointer (some (Addr.mk (3 : Nat) (0 : Nat) none))]]), some (Blk.mk
     true (9 : Nat) [Seg.ints IntKind.i64 (9 : Nat) xs]), some (Blk.mk true (7 : Nat) [Seg.ints IntKind.i64 (1 : Nat) [a], Seg.ints IntKind.u8 (1 : Nat) [m.kd], Seg.vals [Value.bool m.u], Seg.ints
     IntKind.i64 (1 : Nat) [m.s], Seg.vals [Value.bool m.l], Seg.ints IntKind.i64 (1 : Nat) [m.c], Seg.vals [Value.bool m.n]]), some (Blk.mk true (2 : Nat) [Seg.ints IntKind.i64 (1 : Nat) [w], Seg.vals
     [Value.slice (some (Addr.mk (5 : Nat) (0 : Nat) none)) ts.length cc]]), some (Blk.mk true (10 : Nat) [Seg.any (ts.length * (10 : Nat)) (flat ts)])]) :=
  Eq.trans (by kernel_rfl) (go_f (dec_f h1) rfl)
--CFEND
--CP p6eRS (w now a : Int) (t : Bool) (m : Ms) (n i cc j : Nat) (xs : List Int) (vs : List FV) (ts : List Th) (on : List Value → Heap → Out) (out : Exit → List Value → Heap → Out) :: roundK Try.prog ((S6e FEdgR (FRER ts) FWtS (FWaj ts j)).on [(55, true), (84, false), (102, true), (122, false), (126, false), (132, false)]) noL Try.f6.ntmps 1 (loopOf Try.f6 0) live6 [.bool false, pt 1, pt 4, sl 0 n 2, w63 n, w63 i] [opsB n vs, PBe 2 w now t (pt 3), eB true xs, WB true a m, DBe 5 w ts.length cc, rowA true ts.length (flat ts)] on out
theorem p6eRS (w now a : Int) (t : Bool) (m : Ms) (n i cc j : Nat) (xs : List Int) (vs : List FV) (ts : List Th) (on : List Value → Heap → Out) (out : Exit → List Value → Heap → Out)
    (w1 : -9223372036854775808 ≤ (↑i : Int) + (1 : Int) ∧ (↑i : Int) + (1 : Int) ≤ 9223372036854775807 := by omega)
    (h1 : (↑i : Int) < (↑n : Int) := by first | omega | assumption | rfl)
    (h2 : (0 : Int) ≤ (↑i : Int) := by first | omega | assumption | rfl)
    (h3 : i * (9 : Nat) < n * (9 : Nat) := by first | omega | assumption | rfl)
    (h4 : (vs.getD (i * (9 : Nat)) (FV.b false)).isB = true := by first | omega | assumption | rfl)
    (h5 : i * (9 : Nat) + (1 : Nat) < n * (9 : Nat) := by first | omega | assumption | rfl)
    (h6 : (vs.getD (i * (9 : Nat) + (1 : Nat)) (FV.b false)).isB = true := by first | omega | assumption | rfl)
    (h7 : i * (9 : Nat) + (2 : Nat) < n * (9 : Nat) := by first | omega | assumption | rfl)
    (h8 : FV.isI IntKind.i64 (vs.getD (i * (9 : Nat) + (2 : Nat)) (FV.b false)) = true := by first | omega | assumption | rfl)
    (h9 : i * (9 : Nat) + (3 : Nat) < n * (9 : Nat) := by first | omega | assumption | rfl)
    (h10 : FV.isI IntKind.u8 (vs.getD (i * (9 : Nat) + (3 : Nat)) (FV.b false)) = true := by first | omega | assumption | rfl)
    (h11 : i * (9 : Nat) + (4 : Nat) < n * (9 : Nat) := by first | omega | assumption | rfl)
    (h12 : (vs.getD (i * (9 : Nat) + (4 : Nat)) (FV.b false)).isB = true := by first | omega | assumption | rfl)
    (h13 : i * (9 : Nat) + (5 : Nat) < n * (9 : Nat) := by first | omega | assumption | rfl)
    (h14 : FV.isI IntKind.i64 (vs.getD (i * (9 : Nat) + (5 : Nat)) (FV.b false)) = true := by first | omega | assumption | rfl)
    (h15 : i * (9 : Nat) + (6 : Nat) < n * (9 : Nat) := by first | omega | assumption | rfl)
    (h16 : (vs.getD (i * (9 : Nat) + (6 : Nat)) (FV.b false)).isB = true := by first | omega | assumption | rfl)
    (h17 : i * (9 : Nat) + (7 : Nat) < n * (9 : Nat) := by first | omega | assumption | rfl)
    (h18 : FV.isI IntKind.i64 (vs.getD (i * (9 : Nat) + (7 : Nat)) (FV.b false)) = true := by first | omega | assumption | rfl)
    (h19 : i * (9 : Nat) + (8 : Nat) < n * (9 : Nat) := by first | omega | assumption | rfl)
    (h20 : (vs.getD (i * (9 : Nat) + (8 : Nat)) (FV.b false)).isB = true := by first | omega | assumption | rfl)
    (h21 : (vs.getD (i * (9 : Nat) + (1 : Nat)) (FV.b false)).asB = false := by first | omega | assumption | rfl)
    (h22 : (vs.getD (i * (9 : Nat)) (FV.b false)).asB = true := by first | omega | assumption | rfl)
    (h23 : (vs.getD (i * (9 : Nat) + (2 : Nat)) (FV.b false)).asI < now := by first | omega | assumption | rfl)
    (h24 : ts.length = ts.length ∧ ts.length * (10 : Nat) = ts.length * (10 : Nat) ∧ flat ts = flat ts ∧ ts.length ≤ (60 : Nat) ∧ ¬mayP ts (vs.getD (i * (9 : Nat) + (2 : Nat)) (FV.b false)).asI := by first | omega | assumption | rfl | ((repeat' with_reducible apply And.intro) <;> first | rfl | assumption | omega))
    (h25 : ts.length = ts.length ∧ ts.length * (10 : Nat) = ts.length * (10 : Nat) ∧ flat ts = flat ts ∧ ts.length ≤ (60 : Nat) ∧ waitI ts = (↑j : Int) := by first | omega | assumption | rfl | ((repeat' with_reducible apply And.intro) <;> first | rfl | assumption | omega)) : roundK Try.prog ((S6e FEdgR (FRER ts) FWtS (FWaj ts j)).on [(55, true), (84, false), (102, true), (122, false), (126, false), (132, false)]) noL Try.f6.ntmps 1 (loopOf Try.f6 0) live6 [.bool false, pt 1, pt 4, sl 0 n 2, w63 n, w63 i] [opsB n vs, PBe 2 w now t (pt 3), eB true xs, WB true a m, DBe 5 w ts.length cc, rowA true ts.length (flat ts)] on out =
     (on [Value.bool false, Value.pointer (some (Addr.mk (1 : Nat) (0 : Nat) none)), Value.pointer (some (Addr.mk (4 : Nat) (0 : Nat) none)), Value.slice (some (Addr.mk (0 : Nat) (0 : Nat) none)) n (2 :
     Nat), Value.int IntKind.i64 (↑n : Int), Value.int IntKind.i64 ((↑i : Int) + (1 : Int))] [some (Blk.mk false (9 : Nat) [Seg.any (n * (9 : Nat)) vs]), some (Blk.mk true (5 : Nat) [Seg.vals
     [Value.pointer (some (Addr.mk (2 : Nat) (0 : Nat) none))], Seg.ints IntKind.i64 (2 : Nat) [w, now], Seg.vals [Value.bool t, Value.pointer (some (Addr.mk (3 : Nat) (0 : Nat) none))]]), some (Blk.mk
     true (9 : Nat) [Seg.ints IntKind.i64 (9 : Nat) xs]), some (Blk.mk true (7 : Nat) [Seg.ints IntKind.i64 (1 : Nat) [a], Seg.ints IntKind.u8 (1 : Nat) [m.kd], Seg.vals [Value.bool m.u], Seg.ints
     IntKind.i64 (1 : Nat) [m.s], Seg.vals [Value.bool m.l], Seg.ints IntKind.i64 (1 : Nat) [m.c], Seg.vals [Value.bool m.n]]), some (Blk.mk true (2 : Nat) [Seg.ints IntKind.i64 (1 : Nat) [w], Seg.vals
     [Value.slice (some (Addr.mk (5 : Nat) (0 : Nat) none)) ts.length cc]]), some (Blk.mk true (10 : Nat) [Seg.any (ts.length * (10 : Nat)) (flat ts)])]) :=
  Eq.trans (b :=
     bif decide ((↑i : Int) < (↑n : Int)) then bif decide ((0 : Int) ≤ (↑i : Int)) && decide ((↑i : Int) < (↑n : Int)) then bif ((0 : Nat) + (↑i : Int).toNat * (9 : Nat)).blt (n * (9 : Nat)) then bif
     (vs.getD ((0 : Nat) + (↑i : Int).toNat * (9 : Nat)) (FV.b false)).isB then bif ((0 : Nat) + (↑i : Int).toNat * (9 : Nat) + (1 : Nat)).blt (n * (9 : Nat)) then bif (vs.getD ((0 : Nat) + (↑i :
     Int).toNat * (9 : Nat) + (1 : Nat)) (FV.b false)).isB then bif ((0 : Nat) + (↑i : Int).toNat * (9 : Nat) + (1 : Nat) + (1 : Nat)).blt (n * (9 : Nat)) then bif FV.isI IntKind.i64 (vs.getD ((0 : Nat) +
     (↑i : Int).toNat * (9 : Nat) + (1 : Nat) + (1 : Nat)) (FV.b false)) then bif ((0 : Nat) + (↑i : Int).toNat * (9 : Nat) + (1 : Nat) + (1 : Nat) + (1 : Nat)).blt (n * (9 : Nat)) then bif FV.isI
     IntKind.u8 (vs.getD ((0 : Nat) + (↑i : Int).toNat * (9 : Nat) + (1 : Nat) + (1 : Nat) + (1 : Nat)) (FV.b false)) then bif ((0 : Nat) + (↑i : Int).toNat * (9 : Nat) + (1 : Nat) + (1 : Nat) + (1 : Nat)
     + (1 : Nat)).blt (n * (9 : Nat)) then bif (vs.getD ((0 : Nat) + (↑i : Int).toNat * (9 : Nat) + (1 : Nat) + (1 : Nat) + (1 : Nat) + (1 : Nat)) (FV.b false)).isB then bif ((0 : Nat) + (↑i : Int).toNat *
     (9 : Nat) + (1 : Nat) + (1 : Nat) + (1 : Nat) + (1 : Nat) + (1 : Nat)).blt (n * (9 : Nat)) then bif FV.isI IntKind.i64 (vs.getD ((0 : Nat) + (↑i : Int).toNat * (9 : Nat) + (1 : Nat) + (1 : Nat) + (1 :
     Nat) + (1 : Nat) + (1 : Nat)) (FV.b false)) then bif ((0 : Nat) + (↑i : Int).toNat * (9 : Nat) + (1 : Nat) + (1 : Nat) + (1 : Nat) + (1 : Nat) + (1 : Nat) + (1 : Nat)).blt (n * (9 : Nat)) then bif
     (vs.getD ((0 : Nat) + (↑i : Int).toNat * (9 : Nat) + (1 : Nat) + (1 : Nat) + (1 : Nat) + (1 : Nat) + (1 : Nat) + (1 : Nat)) (FV.b false)).isB then bif ((0 : Nat) + (↑i : Int).toNat * (9 : Nat) + (1 :
     Nat) + (1 : Nat) + (1 : Nat) + (1 : Nat) + (1 : Nat) + (1 : Nat) + (1 : Nat)).blt (n * (9 : Nat)) then bif FV.isI IntKind.i64 (vs.getD ((0 : Nat) + (↑i : Int).toNat * (9 : Nat) + (1 : Nat) + (1 : Nat)
     + (1 : Nat) + (1 : Nat) + (1 : Nat) + (1 : Nat) + (1 : Nat)) (FV.b false)) then bif ((0 : Nat) + (↑i : Int).toNat * (9 : Nat) + (1 : Nat) + (1 : Nat) + (1 : Nat) + (1 : Nat) + (1 : Nat) + (1 : Nat) +
     (1 : Nat) + (1 : Nat)).blt (n * (9 : Nat)) then bif (vs.getD ((0 : Nat) + (↑i : Int).toNat * (9 : Nat) + (1 : Nat) + (1 : Nat) + (1 : Nat) + (1 : Nat) + (1 : Nat) + (1 : Nat) + (1 : Nat) + (1 : Nat))
     (FV.b false)).isB then bif (vs.getD ((0 : Nat) + (↑i : Int).toNat * (9 : Nat) + (1 : Nat)) (FV.b false)).asB then none else bif (vs.getD ((0 : Nat) + (↑i : Int).toNat * (9 : Nat)) (FV.b false)).asB
     then bif chk ((vs.getD ((0 : Nat) + (↑i : Int).toNat * (9 : Nat) + (1 : Nat) + (1 : Nat)) (FV.b false)).asI < now) then bif chk (ts.length = ts.length ∧ ts.length * (10 : Nat) = ts.length * (10 : Nat)
     ∧ flat ts = flat ts ∧ ts.length ≤ (60 : Nat) ∧ ¬mayP ts (vs.getD ((0 : Nat) + (↑i : Int).toNat * (9 : Nat) + (1 : Nat) + (1 : Nat)) (FV.b false)).asI) then bif chk (ts.length = ts.length ∧ ts.length *
     (10 : Nat) = ts.length * (10 : Nat) ∧ flat ts = flat ts ∧ ts.length ≤ (60 : Nat) ∧ waitI ts = (↑j : Int)) then on [Value.bool false, Value.pointer (some (Addr.mk (1 : Nat) (0 : Nat) none)),
     Value.pointer (some (Addr.mk (4 : Nat) (0 : Nat) none)), Value.slice (some (Addr.mk (0 : Nat) (0 : Nat) none)) n (2 : Nat), Value.int IntKind.i64 (↑n : Int), Value.int IntKind.i64 (IntKind.i64.wrap
     ((↑i : Int) + (1 : Int)))] [some (Blk.mk false (9 : Nat) [Seg.any (n * (9 : Nat)) vs]), some (Blk.mk true (5 : Nat) [Seg.vals [Value.pointer (some (Addr.mk (2 : Nat) (0 : Nat) none))], Seg.ints
     IntKind.i64 (2 : Nat) [w, now], Seg.vals [Value.bool t, Value.pointer (some (Addr.mk (3 : Nat) (0 : Nat) none))]]), some (Blk.mk true (9 : Nat) [Seg.ints IntKind.i64 (9 : Nat) xs]), some (Blk.mk true
     (7 : Nat) [Seg.ints IntKind.i64 (1 : Nat) [a], Seg.ints IntKind.u8 (1 : Nat) [m.kd], Seg.vals [Value.bool m.u], Seg.ints IntKind.i64 (1 : Nat) [m.s], Seg.vals [Value.bool m.l], Seg.ints IntKind.i64 (1
     : Nat) [m.c], Seg.vals [Value.bool m.n]]), some (Blk.mk true (2 : Nat) [Seg.ints IntKind.i64 (1 : Nat) [w], Seg.vals [Value.slice (some (Addr.mk (5 : Nat) (0 : Nat) none)) ts.length cc]]), some
     (Blk.mk true (10 : Nat) [Seg.any (ts.length * (10 : Nat)) (flat ts)])] else none else none else none else none else none else none else none else none else none else none else none else none else none
     else none else none else none else none else none else none else none else none else none else none else none) (by kernel_rfl) (by simp only [-eq_self, Int.toNat_natCast, Nat.zero_add, swrap w1.1 w1.2]; exact (go_t (dec_t h1) (go_t (and_t (dec_t h2) (dec_t h1)) (go_t (blt_t h3) (go_t h4 (go_t (blt_t h5) (go_t h6 (go_t (blt_t h7) (go_t h8 (go_t (blt_t h9) (go_t h10 (go_t (blt_t h11) (go_t h12 (go_t (blt_t h13) (go_t h14 (go_t (blt_t h15) (go_t h16 (go_t (blt_t h17) (go_t h18 (go_t (blt_t h19) (go_t h20 (go_f h21 (go_t h22 (go_t (chk_t h23) (go_t (chk_t h24) (go_t (chk_t h25) rfl))))))))))))))))))))))))))
--CFEND
--CP p6mRS (w now a : Int) (t : Bool) (m : Ms) (n i cc j : Nat) (xs : List Int) (vs : List FV) (ts : List Th) (on : List Value → Heap → Out) (out : Exit → List Value → Heap → Out) :: roundK Try.prog ((S6m FMsgR (FRMR ts) FWtS (FWaj ts j)).on [(55, true), (84, false), (102, false), (79, false), (83, false), (132, false)]) noL Try.f6.ntmps 1 (loopOf Try.f6 0) live6 [.bool false, pt 1, pt 4, sl 0 n 2, w63 n, w63 i] [opsB n vs, PBe 2 w now t (pt 3), eB true xs, WB true a m, DBe 5 w ts.length cc, rowA true ts.length (flat ts)] on out
theorem p6mRS (w now a : Int) (t : Bool) (m : Ms) (n i cc j : Nat) (xs : List Int) (vs : List FV) (ts : List Th) (on : List Value → Heap → Out) (out : Exit → List Value → Heap → Out)
    (w1 : -9223372036854775808 ≤ (↑i : Int) + (1 : Int) ∧ (↑i : Int) + (1 : Int) ≤ 9223372036854775807 := by omega)
    (h1 : (↑i : Int) < (↑n : Int) := by first | omega | assumption | rfl)
    (h2 : (0 : Int) ≤ (↑i : Int) := by first | omega | assumption | rfl)
    (h3 : i * (9 : Nat) < n * (9 : Nat) := by first | omega | assumption | rfl)
    (h4 : (vs.getD (i * (9 : Nat)) (FV.b false)).isB = true := by first | omega | assumption | rfl)
    (h5 : i * (9 : Nat) + (1 : Nat) < n * (9 : Nat) := by first | omega | assumption | rfl)
    (h6 : (vs.getD (i * (9 : Nat) + (1 : Nat)) (FV.b false)).isB = true := by first | omega | assumption | rfl)
    (h7 : i * (9 : Nat) + (2 : Nat) < n * (9 : Nat) := by first | omega | assumption | rfl)
    (h8 : FV.isI IntKind.i64 (vs.getD (i * (9 : Nat) + (2 : Nat)) (FV.b false)) = true := by first | omega | assumption | rfl)
    (h9 : i * (9 : Nat) + (3 : Nat) < n * (9 : Nat) := by first | omega | assumption | rfl)
    (h10 : FV.isI IntKind.u8 (vs.getD (i * (9 : Nat) + (3 : Nat)) (FV.b false)) = true := by first | omega | assumption | rfl)
    (h11 : i * (9 : Nat) + (4 : Nat) < n * (9 : Nat) := by first | omega | assumption | rfl)
    (h12 : (vs.getD (i * (9 : Nat) + (4 : Nat)) (FV.b false)).isB = true := by first | omega | assumption | rfl)
    (h13 : i * (9 : Nat) + (5 : Nat) < n * (9 : Nat) := by first | omega | assumption | rfl)
    (h14 : FV.isI IntKind.i64 (vs.getD (i * (9 : Nat) + (5 : Nat)) (FV.b false)) = true := by first | omega | assumption | rfl)
    (h15 : i * (9 : Nat) + (6 : Nat) < n * (9 : Nat) := by first | omega | assumption | rfl)
    (h16 : (vs.getD (i * (9 : Nat) + (6 : Nat)) (FV.b false)).isB = true := by first | omega | assumption | rfl)
    (h17 : i * (9 : Nat) + (7 : Nat) < n * (9 : Nat) := by first | omega | assumption | rfl)
    (h18 : FV.isI IntKind.i64 (vs.getD (i * (9 : Nat) + (7 : Nat)) (FV.b false)) = true := by first | omega | assumption | rfl)
    (h19 : i * (9 : Nat) + (8 : Nat) < n * (9 : Nat) := by first | omega | assumption | rfl)
    (h20 : (vs.getD (i * (9 : Nat) + (8 : Nat)) (FV.b false)).isB = true := by first | omega | assumption | rfl)
    (h21 : (vs.getD (i * (9 : Nat) + (1 : Nat)) (FV.b false)).asB = false := by first | omega | assumption | rfl)
    (h22 : (vs.getD (i * (9 : Nat)) (FV.b false)).asB = false := by first | omega | assumption | rfl)
    (h23 : (vs.getD (i * (9 : Nat) + (2 : Nat)) (FV.b false)).asI < now := by first | omega | assumption | rfl)
    (h24 : ts.length = ts.length ∧ ts.length * (10 : Nat) = ts.length * (10 : Nat) ∧ flat ts = flat ts ∧ ts.length ≤ (60 : Nat) ∧ ¬mayP ts (vs.getD (i * (9 : Nat) + (2 : Nat)) (FV.b false)).asI := by first | omega | assumption | rfl | ((repeat' with_reducible apply And.intro) <;> first | rfl | assumption | omega))
    (h25 : ts.length = ts.length ∧ ts.length * (10 : Nat) = ts.length * (10 : Nat) ∧ flat ts = flat ts ∧ ts.length ≤ (60 : Nat) ∧ waitI ts = (↑j : Int) := by first | omega | assumption | rfl | ((repeat' with_reducible apply And.intro) <;> first | rfl | assumption | omega)) : roundK Try.prog ((S6m FMsgR (FRMR ts) FWtS (FWaj ts j)).on [(55, true), (84, false), (102, false), (79, false), (83, false), (132, false)]) noL Try.f6.ntmps 1 (loopOf Try.f6 0) live6 [.bool false, pt 1, pt 4, sl 0 n 2, w63 n, w63 i] [opsB n vs, PBe 2 w now t (pt 3), eB true xs, WB true a m, DBe 5 w ts.length cc, rowA true ts.length (flat ts)] on out =
     (on [Value.bool false, Value.pointer (some (Addr.mk (1 : Nat) (0 : Nat) none)), Value.pointer (some (Addr.mk (4 : Nat) (0 : Nat) none)), Value.slice (some (Addr.mk (0 : Nat) (0 : Nat) none)) n (2 :
     Nat), Value.int IntKind.i64 (↑n : Int), Value.int IntKind.i64 ((↑i : Int) + (1 : Int))] [some (Blk.mk false (9 : Nat) [Seg.any (n * (9 : Nat)) vs]), some (Blk.mk true (5 : Nat) [Seg.vals
     [Value.pointer (some (Addr.mk (2 : Nat) (0 : Nat) none))], Seg.ints IntKind.i64 (2 : Nat) [w, now], Seg.vals [Value.bool t, Value.pointer (some (Addr.mk (3 : Nat) (0 : Nat) none))]]), some (Blk.mk
     true (9 : Nat) [Seg.ints IntKind.i64 (9 : Nat) xs]), some (Blk.mk true (7 : Nat) [Seg.ints IntKind.i64 (1 : Nat) [a], Seg.ints IntKind.u8 (1 : Nat) [m.kd], Seg.vals [Value.bool m.u], Seg.ints
     IntKind.i64 (1 : Nat) [m.s], Seg.vals [Value.bool m.l], Seg.ints IntKind.i64 (1 : Nat) [m.c], Seg.vals [Value.bool m.n]]), some (Blk.mk true (2 : Nat) [Seg.ints IntKind.i64 (1 : Nat) [w], Seg.vals
     [Value.slice (some (Addr.mk (5 : Nat) (0 : Nat) none)) ts.length cc]]), some (Blk.mk true (10 : Nat) [Seg.any (ts.length * (10 : Nat)) (flat ts)])]) :=
  Eq.trans (b :=
     bif decide ((↑i : Int) < (↑n : Int)) then bif decide ((0 : Int) ≤ (↑i : Int)) && decide ((↑i : Int) < (↑n : Int)) then bif ((0 : Nat) + (↑i : Int).toNat * (9 : Nat)).blt (n * (9 : Nat)) then bif
     (vs.getD ((0 : Nat) + (↑i : Int).toNat * (9 : Nat)) (FV.b false)).isB then bif ((0 : Nat) + (↑i : Int).toNat * (9 : Nat) + (1 : Nat)).blt (n * (9 : Nat)) then bif (vs.getD ((0 : Nat) + (↑i :
     Int).toNat * (9 : Nat) + (1 : Nat)) (FV.b false)).isB then bif ((0 : Nat) + (↑i : Int).toNat * (9 : Nat) + (1 : Nat) + (1 : Nat)).blt (n * (9 : Nat)) then bif FV.isI IntKind.i64 (vs.getD ((0 : Nat) +
     (↑i : Int).toNat * (9 : Nat) + (1 : Nat) + (1 : Nat)) (FV.b false)) then bif ((0 : Nat) + (↑i : Int).toNat * (9 : Nat) + (1 : Nat) + (1 : Nat) + (1 : Nat)).blt (n * (9 : Nat)) then bif FV.isI
     IntKind.u8 (vs.getD ((0 : Nat) + (↑i : Int).toNat * (9 : Nat) + (1 : Nat) + (1 : Nat) + (1 : Nat)) (FV.b false)) then bif ((0 : Nat) + (↑i : Int).toNat * (9 : Nat) + (1 : Nat) + (1 : Nat) + (1 : Nat)
     + (1 : Nat)).blt (n * (9 : Nat)) then bif (vs.getD ((0 : Nat) + (↑i : Int).toNat * (9 : Nat) + (1 : Nat) + (1 : Nat) + (1 : Nat) + (1 : Nat)) (FV.b false)).isB then bif ((0 : Nat) + (↑i : Int).toNat *
     (9 : Nat) + (1 : Nat) + (1 : Nat) + (1 : Nat) + (1 : Nat) + (1 : Nat)).blt (n * (9 : Nat)) then bif FV.isI IntKind.i64 (vs.getD ((0 : Nat) + (↑i : Int).toNat * (9 : Nat) + (1 : Nat) + (1 : Nat) + (1 :
     Nat) + (1 : Nat) + (1 : Nat)) (FV.b false)) then bif ((0 : Nat) + (↑i : Int).toNat * (9 : Nat) + (1 : Nat) + (1 : Nat) + (1 : Nat) + (1 : Nat) + (1 : Nat) + (1 : Nat)).blt (n * (9 : Nat)) then bif
     (vs.getD ((0 : Nat) + (↑i : Int).toNat * (9 : Nat) + (1 : Nat) + (1 : Nat) + (1 : Nat) + (1 : Nat) + (1 : Nat) + (1 : Nat)) (FV.b false)).isB then bif ((0 : Nat) + (↑i : Int).toNat * (9 : Nat) + (1 :
     Nat) + (1 : Nat) + (1 : Nat) + (1 : Nat) + (1 : Nat) + (1 : Nat) + (1 : Nat)).blt (n * (9 : Nat)) then bif FV.isI IntKind.i64 (vs.getD ((0 : Nat) + (↑i : Int).toNat * (9 : Nat) + (1 : Nat) + (1 : Nat)
     + (1 : Nat) + (1 : Nat) + (1 : Nat) + (1 : Nat) + (1 : Nat)) (FV.b false)) then bif ((0 : Nat) + (↑i : Int).toNat * (9 : Nat) + (1 : Nat) + (1 : Nat) + (1 : Nat) + (1 : Nat) + (1 : Nat) + (1 : Nat) +
     (1 : Nat) + (1 : Nat)).blt (n * (9 : Nat)) then bif (vs.getD ((0 : Nat) + (↑i : Int).toNat * (9 : Nat) + (1 : Nat) + (1 : Nat) + (1 : Nat) + (1 : Nat) + (1 : Nat) + (1 : Nat) + (1 : Nat) + (1 : Nat))
     (FV.b false)).isB then bif (vs.getD ((0 : Nat) + (↑i : Int).toNat * (9 : Nat) + (1 : Nat)) (FV.b false)).asB then none else bif (vs.getD ((0 : Nat) + (↑i : Int).toNat * (9 : Nat)) (FV.b false)).asB
     then none else bif chk ((vs.getD ((0 : Nat) + (↑i : Int).toNat * (9 : Nat) + (1 : Nat) + (1 : Nat)) (FV.b false)).asI < now) then bif chk (ts.length = ts.length ∧ ts.length * (10 : Nat) = ts.length *
     (10 : Nat) ∧ flat ts = flat ts ∧ ts.length ≤ (60 : Nat) ∧ ¬mayP ts (vs.getD ((0 : Nat) + (↑i : Int).toNat * (9 : Nat) + (1 : Nat) + (1 : Nat)) (FV.b false)).asI) then bif chk (ts.length = ts.length ∧
     ts.length * (10 : Nat) = ts.length * (10 : Nat) ∧ flat ts = flat ts ∧ ts.length ≤ (60 : Nat) ∧ waitI ts = (↑j : Int)) then on [Value.bool false, Value.pointer (some (Addr.mk (1 : Nat) (0 : Nat)
     none)), Value.pointer (some (Addr.mk (4 : Nat) (0 : Nat) none)), Value.slice (some (Addr.mk (0 : Nat) (0 : Nat) none)) n (2 : Nat), Value.int IntKind.i64 (↑n : Int), Value.int IntKind.i64
     (IntKind.i64.wrap ((↑i : Int) + (1 : Int)))] [some (Blk.mk false (9 : Nat) [Seg.any (n * (9 : Nat)) vs]), some (Blk.mk true (5 : Nat) [Seg.vals [Value.pointer (some (Addr.mk (2 : Nat) (0 : Nat)
     none))], Seg.ints IntKind.i64 (2 : Nat) [w, now], Seg.vals [Value.bool t, Value.pointer (some (Addr.mk (3 : Nat) (0 : Nat) none))]]), some (Blk.mk true (9 : Nat) [Seg.ints IntKind.i64 (9 : Nat) xs]),
     some (Blk.mk true (7 : Nat) [Seg.ints IntKind.i64 (1 : Nat) [a], Seg.ints IntKind.u8 (1 : Nat) [m.kd], Seg.vals [Value.bool m.u], Seg.ints IntKind.i64 (1 : Nat) [m.s], Seg.vals [Value.bool m.l],
     Seg.ints IntKind.i64 (1 : Nat) [m.c], Seg.vals [Value.bool m.n]]), some (Blk.mk true (2 : Nat) [Seg.ints IntKind.i64 (1 : Nat) [w], Seg.vals [Value.slice (some (Addr.mk (5 : Nat) (0 : Nat) none))
     ts.length cc]]), some (Blk.mk true (10 : Nat) [Seg.any (ts.length * (10 : Nat)) (flat ts)])] else none else none else none else none else none else none else none else none else none else none else
     none else none else none else none else none else none else none else none else none else none else none else none else none) (by kernel_rfl) (by simp only [-eq_self, Int.toNat_natCast, Nat.zero_add, swrap w1.1 w1.2]; exact (go_t (dec_t h1) (go_t (and_t (dec_t h2) (dec_t h1)) (go_t (blt_t h3) (go_t h4 (go_t (blt_t h5) (go_t h6 (go_t (blt_t h7) (go_t h8 (go_t (blt_t h9) (go_t h10 (go_t (blt_t h11) (go_t h12 (go_t (blt_t h13) (go_t h14 (go_t (blt_t h15) (go_t h16 (go_t (blt_t h17) (go_t h18 (go_t (blt_t h19) (go_t h20 (go_f h21 (go_f h22 (go_t (chk_t h23) (go_t (chk_t h24) (go_t (chk_t h25) rfl))))))))))))))))))))))))))
--CFEND
--CP p6mNS (w now a : Int) (t : Bool) (m : Ms) (n i cc j' : Nat) (xs : List Int) (vs : List FV) (ts ts' : List Th) (on : List Value → Heap → Out) (out : Exit → List Value → Heap → Out) :: roundK Try.prog ((S6m FMsgN (FRMX ts) FWtS (FWaj ts' j')).on [(55, true), (84, false), (102, false), (79, false), (83, false), (132, false)]) noL Try.f6.ntmps 1 (loopOf Try.f6 0) live6 [.bool false, pt 1, pt 4, sl 0 n 2, w63 n, w63 i] [opsB n vs, PBe 2 w now t (pt 3), eB true xs, WB true a m, DBe 5 w ts.length cc, rowA true ts.length (flat ts)] on out
theorem p6mNS (w now a : Int) (t : Bool) (m : Ms) (n i cc j' : Nat) (xs : List Int) (vs : List FV) (ts ts' : List Th) (on : List Value → Heap → Out) (out : Exit → List Value → Heap → Out)
    (w1 : -9223372036854775808 ≤ (↑i : Int) + (1 : Int) ∧ (↑i : Int) + (1 : Int) ≤ 9223372036854775807 := by omega)
    (h1 : (↑i : Int) < (↑n : Int) := by first | omega | assumption | rfl)
    (h2 : (0 : Int) ≤ (↑i : Int) := by first | omega | assumption | rfl)
    (h3 : i * (9 : Nat) < n * (9 : Nat) := by first | omega | assumption | rfl)
    (h4 : (vs.getD (i * (9 : Nat)) (FV.b false)).isB = true := by first | omega | assumption | rfl)
    (h5 : i * (9 : Nat) + (1 : Nat) < n * (9 : Nat) := by first | omega | assumption | rfl)
    (h6 : (vs.getD (i * (9 : Nat) + (1 : Nat)) (FV.b false)).isB = true := by first | omega | assumption | rfl)
    (h7 : i * (9 : Nat) + (2 : Nat) < n * (9 : Nat) := by first | omega | assumption | rfl)
    (h8 : FV.isI IntKind.i64 (vs.getD (i * (9 : Nat) + (2 : Nat)) (FV.b false)) = true := by first | omega | assumption | rfl)
    (h9 : i * (9 : Nat) + (3 : Nat) < n * (9 : Nat) := by first | omega | assumption | rfl)
    (h10 : FV.isI IntKind.u8 (vs.getD (i * (9 : Nat) + (3 : Nat)) (FV.b false)) = true := by first | omega | assumption | rfl)
    (h11 : i * (9 : Nat) + (4 : Nat) < n * (9 : Nat) := by first | omega | assumption | rfl)
    (h12 : (vs.getD (i * (9 : Nat) + (4 : Nat)) (FV.b false)).isB = true := by first | omega | assumption | rfl)
    (h13 : i * (9 : Nat) + (5 : Nat) < n * (9 : Nat) := by first | omega | assumption | rfl)
    (h14 : FV.isI IntKind.i64 (vs.getD (i * (9 : Nat) + (5 : Nat)) (FV.b false)) = true := by first | omega | assumption | rfl)
    (h15 : i * (9 : Nat) + (6 : Nat) < n * (9 : Nat) := by first | omega | assumption | rfl)
    (h16 : (vs.getD (i * (9 : Nat) + (6 : Nat)) (FV.b false)).isB = true := by first | omega | assumption | rfl)
    (h17 : i * (9 : Nat) + (7 : Nat) < n * (9 : Nat) := by first | omega | assumption | rfl)
    (h18 : FV.isI IntKind.i64 (vs.getD (i * (9 : Nat) + (7 : Nat)) (FV.b false)) = true := by first | omega | assumption | rfl)
    (h19 : i * (9 : Nat) + (8 : Nat) < n * (9 : Nat) := by first | omega | assumption | rfl)
    (h20 : (vs.getD (i * (9 : Nat) + (8 : Nat)) (FV.b false)).isB = true := by first | omega | assumption | rfl)
    (h21 : (vs.getD (i * (9 : Nat) + (1 : Nat)) (FV.b false)).asB = false := by first | omega | assumption | rfl)
    (h22 : (vs.getD (i * (9 : Nat)) (FV.b false)).asB = false := by first | omega | assumption | rfl)
    (h23 : now ≤ (vs.getD (i * (9 : Nat) + (2 : Nat)) (FV.b false)).asI ∧ (vs.getD (i * (9 : Nat) + (8 : Nat)) (FV.b false)).asB = true := by first | omega | assumption | rfl | ((repeat' with_reducible apply And.intro) <;> first | rfl | assumption | omega))
    (h24 : ts.length = ts.length ∧ ts.length * (10 : Nat) = ts.length * (10 : Nat) ∧ flat ts = flat ts ∧ ts.length ≤ (60 : Nat) ∧ mayP ts (vs.getD (i * (9 : Nat) + (2 : Nat)) (FV.b false)).asI ∧ RiseT ts ∧ (0 : Int) ≤ w ∧ w ≤ (1000000000 : Int) ∧ ((vs.getD (i * (9 : Nat) + (8 : Nat)) (FV.b false)).asB = true ∨ noP ts w (vs.getD (i * (9 : Nat) + (2 : Nat)) (FV.b false)).asI) := by first | omega | assumption | rfl | ((repeat' with_reducible apply And.intro) <;> first | rfl | assumption | omega))
    (h25 : ts.length + (1 : Nat) = ts'.length ∧ (ts.length + (1 : Nat)) * (10 : Nat) = ts'.length * (10 : Nat) ∧ flat (ts ++ [tM (vs.getD (i * (9 : Nat) + (2 : Nat)) (FV.b false)).asI (Ms.mk (vs.getD (i * (9 : Nat) + (3 : Nat)) (FV.b false)).asI (vs.getD (i * (9 : Nat) + (4 : Nat)) (FV.b false)).asB (vs.getD (i * (9 : Nat) + (5 : Nat)) (FV.b false)).asI (vs.getD (i * (9 : Nat) + (6 : Nat)) (FV.b false)).asB (vs.getD (i * (9 : Nat) + (7 : Nat)) (FV.b false)).asI (vs.getD (i * (9 : Nat) + (8 : Nat)) (FV.b false)).asB)]) = flat ts' ∧ ts.length + (1 : Nat) ≤ (60 : Nat) ∧ waitI ts' = (↑j' : Int) := by first | omega | assumption | rfl | ((repeat' with_reducible apply And.intro) <;> first | rfl | assumption | omega)) : roundK Try.prog ((S6m FMsgN (FRMX ts) FWtS (FWaj ts' j')).on [(55, true), (84, false), (102, false), (79, false), (83, false), (132, false)]) noL Try.f6.ntmps 1 (loopOf Try.f6 0) live6 [.bool false, pt 1, pt 4, sl 0 n 2, w63 n, w63 i] [opsB n vs, PBe 2 w now t (pt 3), eB true xs, WB true a m, DBe 5 w ts.length cc, rowA true ts.length (flat ts)] on out =
     (on [Value.bool false, Value.pointer (some (Addr.mk (1 : Nat) (0 : Nat) none)), Value.pointer (some (Addr.mk (4 : Nat) (0 : Nat) none)), Value.slice (some (Addr.mk (0 : Nat) (0 : Nat) none)) n (2 :
     Nat), Value.int IntKind.i64 (↑n : Int), Value.int IntKind.i64 ((↑i : Int) + (1 : Int))] [some (Blk.mk false (9 : Nat) [Seg.any (n * (9 : Nat)) vs]), some (Blk.mk true (5 : Nat) [Seg.vals
     [Value.pointer (some (Addr.mk (2 : Nat) (0 : Nat) none))], Seg.ints IntKind.i64 (2 : Nat) [w, (vs.getD (i * (9 : Nat) + (2 : Nat)) (FV.b false)).asI], Seg.vals [Value.bool t, Value.pointer (some
     (Addr.mk (3 : Nat) (0 : Nat) none))]]), some (Blk.mk true (9 : Nat) [Seg.ints IntKind.i64 (9 : Nat) xs]), some (Blk.mk true (7 : Nat) [Seg.ints IntKind.i64 (1 : Nat) [(vs.getD (i * (9 : Nat) + (2 :
     Nat)) (FV.b false)).asI], Seg.ints IntKind.u8 (1 : Nat) [(vs.getD (i * (9 : Nat) + (3 : Nat)) (FV.b false)).asI], Seg.vals [Value.bool (vs.getD (i * (9 : Nat) + (4 : Nat)) (FV.b false)).asB], Seg.ints
     IntKind.i64 (1 : Nat) [(vs.getD (i * (9 : Nat) + (5 : Nat)) (FV.b false)).asI], Seg.vals [Value.bool (vs.getD (i * (9 : Nat) + (6 : Nat)) (FV.b false)).asB], Seg.ints IntKind.i64 (1 : Nat) [(vs.getD
     (i * (9 : Nat) + (7 : Nat)) (FV.b false)).asI], Seg.vals [Value.bool (vs.getD (i * (9 : Nat) + (8 : Nat)) (FV.b false)).asB]]), some (Blk.mk true (2 : Nat) [Seg.ints IntKind.i64 (1 : Nat) [w],
     Seg.vals [Value.slice (some (Addr.mk (5 : Nat) (0 : Nat) none)) (ts.length + (1 : Nat)) (1 : Nat)]]), some (Blk.mk true (10 : Nat) [Seg.any ((ts.length + (1 : Nat)) * (10 : Nat)) (flat (ts ++ [tM
     (vs.getD (i * (9 : Nat) + (2 : Nat)) (FV.b false)).asI (Ms.mk (vs.getD (i * (9 : Nat) + (3 : Nat)) (FV.b false)).asI (vs.getD (i * (9 : Nat) + (4 : Nat)) (FV.b false)).asB (vs.getD (i * (9 : Nat) + (5
     : Nat)) (FV.b false)).asI (vs.getD (i * (9 : Nat) + (6 : Nat)) (FV.b false)).asB (vs.getD (i * (9 : Nat) + (7 : Nat)) (FV.b false)).asI (vs.getD (i * (9 : Nat) + (8 : Nat)) (FV.b false)).asB)]))])]) :=
  Eq.trans (b :=
     bif decide ((↑i : Int) < (↑n : Int)) then bif decide ((0 : Int) ≤ (↑i : Int)) && decide ((↑i : Int) < (↑n : Int)) then bif ((0 : Nat) + (↑i : Int).toNat * (9 : Nat)).blt (n * (9 : Nat)) then bif
     (vs.getD ((0 : Nat) + (↑i : Int).toNat * (9 : Nat)) (FV.b false)).isB then bif ((0 : Nat) + (↑i : Int).toNat * (9 : Nat) + (1 : Nat)).blt (n * (9 : Nat)) then bif (vs.getD ((0 : Nat) + (↑i :
     Int).toNat * (9 : Nat) + (1 : Nat)) (FV.b false)).isB then bif ((0 : Nat) + (↑i : Int).toNat * (9 : Nat) + (1 : Nat) + (1 : Nat)).blt (n * (9 : Nat)) then bif FV.isI IntKind.i64 (vs.getD ((0 : Nat) +
     (↑i : Int).toNat * (9 : Nat) + (1 : Nat) + (1 : Nat)) (FV.b false)) then bif ((0 : Nat) + (↑i : Int).toNat * (9 : Nat) + (1 : Nat) + (1 : Nat) + (1 : Nat)).blt (n * (9 : Nat)) then bif FV.isI
     IntKind.u8 (vs.getD ((0 : Nat) + (↑i : Int).toNat * (9 : Nat) + (1 : Nat) + (1 : Nat) + (1 : Nat)) (FV.b false)) then bif ((0 : Nat) + (↑i : Int).toNat * (9 : Nat) + (1 : Nat) + (1 : Nat) + (1 : Nat)
     + (1 : Nat)).blt (n * (9 : Nat)) then bif (vs.getD ((0 : Nat) + (↑i : Int).toNat * (9 : Nat) + (1 : Nat) + (1 : Nat) + (1 : Nat) + (1 : Nat)) (FV.b false)).isB then bif ((0 : Nat) + (↑i : Int).toNat *
     (9 : Nat) + (1 : Nat) + (1 : Nat) + (1 : Nat) + (1 : Nat) + (1 : Nat)).blt (n * (9 : Nat)) then bif FV.isI IntKind.i64 (vs.getD ((0 : Nat) + (↑i : Int).toNat * (9 : Nat) + (1 : Nat) + (1 : Nat) + (1 :
     Nat) + (1 : Nat) + (1 : Nat)) (FV.b false)) then bif ((0 : Nat) + (↑i : Int).toNat * (9 : Nat) + (1 : Nat) + (1 : Nat) + (1 : Nat) + (1 : Nat) + (1 : Nat) + (1 : Nat)).blt (n * (9 : Nat)) then bif
     (vs.getD ((0 : Nat) + (↑i : Int).toNat * (9 : Nat) + (1 : Nat) + (1 : Nat) + (1 : Nat) + (1 : Nat) + (1 : Nat) + (1 : Nat)) (FV.b false)).isB then bif ((0 : Nat) + (↑i : Int).toNat * (9 : Nat) + (1 :
     Nat) + (1 : Nat) + (1 : Nat) + (1 : Nat) + (1 : Nat) + (1 : Nat) + (1 : Nat)).blt (n * (9 : Nat)) then bif FV.isI IntKind.i64 (vs.getD ((0 : Nat) + (↑i : Int).toNat * (9 : Nat) + (1 : Nat) + (1 : Nat)
     + (1 : Nat) + (1 : Nat) + (1 : Nat) + (1 : Nat) + (1 : Nat)) (FV.b false)) then bif ((0 : Nat) + (↑i : Int).toNat * (9 : Nat) + (1 : Nat) + (1 : Nat) + (1 : Nat) + (1 : Nat) + (1 : Nat) + (1 : Nat) +
     (1 : Nat) + (1 : Nat)).blt (n * (9 : Nat)) then bif (vs.getD ((0 : Nat) + (↑i : Int).toNat * (9 : Nat) + (1 : Nat) + (1 : Nat) + (1 : Nat) + (1 : Nat) + (1 : Nat) + (1 : Nat) + (1 : Nat) + (1 : Nat))
     (FV.b false)).isB then bif (vs.getD ((0 : Nat) + (↑i : Int).toNat * (9 : Nat) + (1 : Nat)) (FV.b false)).asB then none else bif (vs.getD ((0 : Nat) + (↑i : Int).toNat * (9 : Nat)) (FV.b false)).asB
     then none else bif chk (now ≤ (vs.getD ((0 : Nat) + (↑i : Int).toNat * (9 : Nat) + (1 : Nat) + (1 : Nat)) (FV.b false)).asI ∧ (vs.getD ((0 : Nat) + (↑i : Int).toNat * (9 : Nat) + (1 : Nat) + (1 : Nat)
     + (1 : Nat) + (1 : Nat) + (1 : Nat) + (1 : Nat) + (1 : Nat) + (1 : Nat)) (FV.b false)).asB = true) then bif chk (ts.length = ts.length ∧ ts.length * (10 : Nat) = ts.length * (10 : Nat) ∧ flat ts =
     flat ts ∧ ts.length ≤ (60 : Nat) ∧ mayP ts (vs.getD ((0 : Nat) + (↑i : Int).toNat * (9 : Nat) + (1 : Nat) + (1 : Nat)) (FV.b false)).asI ∧ RiseT ts ∧ (0 : Int) ≤ w ∧ w ≤ (1000000000 : Int) ∧ ((vs.getD
     ((0 : Nat) + (↑i : Int).toNat * (9 : Nat) + (1 : Nat) + (1 : Nat) + (1 : Nat) + (1 : Nat) + (1 : Nat) + (1 : Nat) + (1 : Nat) + (1 : Nat)) (FV.b false)).asB = true ∨ noP ts w (vs.getD ((0 : Nat) + (↑i
     : Int).toNat * (9 : Nat) + (1 : Nat) + (1 : Nat)) (FV.b false)).asI)) then bif chk (ts.length + (1 : Nat) = ts'.length ∧ (ts.length + (1 : Nat)) * (10 : Nat) = ts'.length * (10 : Nat) ∧ flat (ts ++
     [tM (vs.getD ((0 : Nat) + (↑i : Int).toNat * (9 : Nat) + (1 : Nat) + (1 : Nat)) (FV.b false)).asI (Ms.mk (vs.getD ((0 : Nat) + (↑i : Int).toNat * (9 : Nat) + (1 : Nat) + (1 : Nat) + (1 : Nat)) (FV.b
     false)).asI (vs.getD ((0 : Nat) + (↑i : Int).toNat * (9 : Nat) + (1 : Nat) + (1 : Nat) + (1 : Nat) + (1 : Nat)) (FV.b false)).asB (vs.getD ((0 : Nat) + (↑i : Int).toNat * (9 : Nat) + (1 : Nat) + (1 :
     Nat) + (1 : Nat) + (1 : Nat) + (1 : Nat)) (FV.b false)).asI (vs.getD ((0 : Nat) + (↑i : Int).toNat * (9 : Nat) + (1 : Nat) + (1 : Nat) + (1 : Nat) + (1 : Nat) + (1 : Nat) + (1 : Nat)) (FV.b
     false)).asB (vs.getD ((0 : Nat) + (↑i : Int).toNat * (9 : Nat) + (1 : Nat) + (1 : Nat) + (1 : Nat) + (1 : Nat) + (1 : Nat) + (1 : Nat) + (1 : Nat)) (FV.b false)).asI (vs.getD ((0 : Nat) + (↑i :
     Int).toNat * (9 : Nat) + (1 : Nat) + (1 : Nat) + (1 : Nat) + (1 : Nat) + (1 : Nat) + (1 : Nat) + (1 : Nat) + (1 : Nat)) (FV.b false)).asB)]) = flat ts' ∧ ts.length + (1 : Nat) ≤ (60 : Nat) ∧ waitI ts'
     = (↑j' : Int)) then on [Value.bool false, Value.pointer (some (Addr.mk (1 : Nat) (0 : Nat) none)), Value.pointer (some (Addr.mk (4 : Nat) (0 : Nat) none)), Value.slice (some (Addr.mk (0 : Nat) (0 :
     Nat) none)) n (2 : Nat), Value.int IntKind.i64 (↑n : Int), Value.int IntKind.i64 (IntKind.i64.wrap ((↑i : Int) + (1 : Int)))] [some (Blk.mk false (9 : Nat) [Seg.any (n * (9 : Nat)) vs]), some (Blk.mk
     true (5 : Nat) [Seg.vals [Value.pointer (some (Addr.mk (2 : Nat) (0 : Nat) none))], Seg.ints IntKind.i64 (2 : Nat) [w, (vs.getD ((0 : Nat) + (↑i : Int).toNat * (9 : Nat) + (1 : Nat) + (1 : Nat)) (FV.b
     false)).asI], Seg.vals [Value.bool t, Value.pointer (some (Addr.mk (3 : Nat) (0 : Nat) none))]]), some (Blk.mk true (9 : Nat) [Seg.ints IntKind.i64 (9 : Nat) xs]), some (Blk.mk true (7 : Nat)
     [Seg.ints IntKind.i64 (1 : Nat) [(vs.getD ((0 : Nat) + (↑i : Int).toNat * (9 : Nat) + (1 : Nat) + (1 : Nat)) (FV.b false)).asI], Seg.ints IntKind.u8 (1 : Nat) [(vs.getD ((0 : Nat) + (↑i : Int).toNat *
     (9 : Nat) + (1 : Nat) + (1 : Nat) + (1 : Nat)) (FV.b false)).asI], Seg.vals [Value.bool (vs.getD ((0 : Nat) + (↑i : Int).toNat * (9 : Nat) + (1 : Nat) + (1 : Nat) + (1 : Nat) + (1 : Nat)) (FV.b
     false)).asB], Seg.ints IntKind.i64 (1 : Nat) [(vs.getD ((0 : Nat) + (↑i : Int).toNat * (9 : Nat) + (1 : Nat) + (1 : Nat) + (1 : Nat) + (1 : Nat) + (1 : Nat)) (FV.b false)).asI], Seg.vals [Value.bool
     (vs.getD ((0 : Nat) + (↑i : Int).toNat * (9 : Nat) + (1 : Nat) + (1 : Nat) + (1 : Nat) + (1 : Nat) + (1 : Nat) + (1 : Nat)) (FV.b false)).asB], Seg.ints IntKind.i64 (1 : Nat) [(vs.getD ((0 : Nat) +
     (↑i : Int).toNat * (9 : Nat) + (1 : Nat) + (1 : Nat) + (1 : Nat) + (1 : Nat) + (1 : Nat) + (1 : Nat) + (1 : Nat)) (FV.b false)).asI], Seg.vals [Value.bool (vs.getD ((0 : Nat) + (↑i : Int).toNat * (9 :
     Nat) + (1 : Nat) + (1 : Nat) + (1 : Nat) + (1 : Nat) + (1 : Nat) + (1 : Nat) + (1 : Nat) + (1 : Nat)) (FV.b false)).asB]]), some (Blk.mk true (2 : Nat) [Seg.ints IntKind.i64 (1 : Nat) [w], Seg.vals
     [Value.slice (some (Addr.mk (5 : Nat) (0 : Nat) none)) (ts.length + (1 : Nat)) (1 : Nat)]]), some (Blk.mk true (10 : Nat) [Seg.any ((ts.length + (1 : Nat)) * (10 : Nat)) (flat (ts ++ [tM (vs.getD ((0
     : Nat) + (↑i : Int).toNat * (9 : Nat) + (1 : Nat) + (1 : Nat)) (FV.b false)).asI (Ms.mk (vs.getD ((0 : Nat) + (↑i : Int).toNat * (9 : Nat) + (1 : Nat) + (1 : Nat) + (1 : Nat)) (FV.b false)).asI
     (vs.getD ((0 : Nat) + (↑i : Int).toNat * (9 : Nat) + (1 : Nat) + (1 : Nat) + (1 : Nat) + (1 : Nat)) (FV.b false)).asB (vs.getD ((0 : Nat) + (↑i : Int).toNat * (9 : Nat) + (1 : Nat) + (1 : Nat) + (1 :
     Nat) + (1 : Nat) + (1 : Nat)) (FV.b false)).asI (vs.getD ((0 : Nat) + (↑i : Int).toNat * (9 : Nat) + (1 : Nat) + (1 : Nat) + (1 : Nat) + (1 : Nat) + (1 : Nat) + (1 : Nat)) (FV.b false)).asB (vs.getD
     ((0 : Nat) + (↑i : Int).toNat * (9 : Nat) + (1 : Nat) + (1 : Nat) + (1 : Nat) + (1 : Nat) + (1 : Nat) + (1 : Nat) + (1 : Nat)) (FV.b false)).asI (vs.getD ((0 : Nat) + (↑i : Int).toNat * (9 : Nat) + (1
     : Nat) + (1 : Nat) + (1 : Nat) + (1 : Nat) + (1 : Nat) + (1 : Nat) + (1 : Nat) + (1 : Nat)) (FV.b false)).asB)]))])] else none else none else none else none else none else none else none else none
     else none else none else none else none else none else none else none else none else none else none else none else none else none else none else none) (by kernel_rfl) (by simp only [-eq_self, Int.toNat_natCast, Nat.zero_add, swrap w1.1 w1.2]; exact (go_t (dec_t h1) (go_t (and_t (dec_t h2) (dec_t h1)) (go_t (blt_t h3) (go_t h4 (go_t (blt_t h5) (go_t h6 (go_t (blt_t h7) (go_t h8 (go_t (blt_t h9) (go_t h10 (go_t (blt_t h11) (go_t h12 (go_t (blt_t h13) (go_t h14 (go_t (blt_t h15) (go_t h16 (go_t (blt_t h17) (go_t h18 (go_t (blt_t h19) (go_t h20 (go_f h21 (go_f h22 (go_t (chk_t h23) (go_t (chk_t h24) (go_t (chk_t h25) rfl))))))))))))))))))))))))))
--CFEND
--CP p6mXS (w now a : Int) (t : Bool) (m : Ms) (n i cc j : Nat) (xs : List Int) (vs : List FV) (ts ts' : List Th) (on : List Value → Heap → Out) (out : Exit → List Value → Heap → Out) :: roundK Try.prog ((S6m FMsgX (FRMX ts) FWtS (FWaj ts' j)).on [(55, true), (84, false), (102, false), (79, false), (83, false), (132, false)]) noL Try.f6.ntmps 1 (loopOf Try.f6 0) live6 [.bool false, pt 1, pt 4, sl 0 n 2, w63 n, w63 i] [opsB n vs, PBe 2 w now t (pt 3), eB true xs, WB true a m, DBe 5 w ts.length cc, rowA true ts.length (flat ts)] on out
theorem p6mXS (w now a : Int) (t : Bool) (m : Ms) (n i cc j : Nat) (xs : List Int) (vs : List FV) (ts ts' : List Th) (on : List Value → Heap → Out) (out : Exit → List Value → Heap → Out)
    (w1 : -9223372036854775808 ≤ (↑i : Int) + (1 : Int) ∧ (↑i : Int) + (1 : Int) ≤ 9223372036854775807 := by omega)
    (h1 : (↑i : Int) < (↑n : Int) := by first | omega | assumption | rfl)
    (h2 : (0 : Int) ≤ (↑i : Int) := by first | omega | assumption | rfl)
    (h3 : i * (9 : Nat) < n * (9 : Nat) := by first | omega | assumption | rfl)
    (h4 : (vs.getD (i * (9 : Nat)) (FV.b false)).isB = true := by first | omega | assumption | rfl)
    (h5 : i * (9 : Nat) + (1 : Nat) < n * (9 : Nat) := by first | omega | assumption | rfl)
    (h6 : (vs.getD (i * (9 : Nat) + (1 : Nat)) (FV.b false)).isB = true := by first | omega | assumption | rfl)
    (h7 : i * (9 : Nat) + (2 : Nat) < n * (9 : Nat) := by first | omega | assumption | rfl)
    (h8 : FV.isI IntKind.i64 (vs.getD (i * (9 : Nat) + (2 : Nat)) (FV.b false)) = true := by first | omega | assumption | rfl)
    (h9 : i * (9 : Nat) + (3 : Nat) < n * (9 : Nat) := by first | omega | assumption | rfl)
    (h10 : FV.isI IntKind.u8 (vs.getD (i * (9 : Nat) + (3 : Nat)) (FV.b false)) = true := by first | omega | assumption | rfl)
    (h11 : i * (9 : Nat) + (4 : Nat) < n * (9 : Nat) := by first | omega | assumption | rfl)
    (h12 : (vs.getD (i * (9 : Nat) + (4 : Nat)) (FV.b false)).isB = true := by first | omega | assumption | rfl)
    (h13 : i * (9 : Nat) + (5 : Nat) < n * (9 : Nat) := by first | omega | assumption | rfl)
    (h14 : FV.isI IntKind.i64 (vs.getD (i * (9 : Nat) + (5 : Nat)) (FV.b false)) = true := by first | omega | assumption | rfl)
    (h15 : i * (9 : Nat) + (6 : Nat) < n * (9 : Nat) := by first | omega | assumption | rfl)
    (h16 : (vs.getD (i * (9 : Nat) + (6 : Nat)) (FV.b false)).isB = true := by first | omega | assumption | rfl)
    (h17 : i * (9 : Nat) + (7 : Nat) < n * (9 : Nat) := by first | omega | assumption | rfl)
    (h18 : FV.isI IntKind.i64 (vs.getD (i * (9 : Nat) + (7 : Nat)) (FV.b false)) = true := by first | omega | assumption | rfl)
    (h19 : i * (9 : Nat) + (8 : Nat) < n * (9 : Nat) := by first | omega | assumption | rfl)
    (h20 : (vs.getD (i * (9 : Nat) + (8 : Nat)) (FV.b false)).isB = true := by first | omega | assumption | rfl)
    (h21 : (vs.getD (i * (9 : Nat) + (1 : Nat)) (FV.b false)).asB = false := by first | omega | assumption | rfl)
    (h22 : (vs.getD (i * (9 : Nat)) (FV.b false)).asB = false := by first | omega | assumption | rfl)
    (h23 : now ≤ (vs.getD (i * (9 : Nat) + (2 : Nat)) (FV.b false)).asI ∧ (vs.getD (i * (9 : Nat) + (8 : Nat)) (FV.b false)).asB = false ∧ (0 : Int) ≤ now ∧ (0 : Int) ≤ w ∧ w ≤ (1000000000 : Int) ∧ (0 : Int) ≤ xs.getD (8 : Nat) (0 : Int) ∧ xs.getD (8 : Nat) (0 : Int) ≤ (1000 : Int) ∧ (xs.getD (8 : Nat) (0 : Int) = (0 : Int) ∨ (0 : Int) ≤ lastR xs ∧ lastR xs ≤ (vs.getD (i * (9 : Nat) + (2 : Nat)) (FV.b false)).asI) ∧ (xs.getD (8 : Nat) (0 : Int) = (0 : Int) ∨ t = true ∨ w < (vs.getD (i * (9 : Nat) + (2 : Nat)) (FV.b false)).asI - lastR xs ∨ cnt (allX xs) ((vs.getD (i * (9 : Nat) + (2 : Nat)) (FV.b false)).asI - w) (vs.getD (i * (9 : Nat) + (2 : Nat)) (FV.b false)).asI ≠ (1 : Nat)) := by first | omega | assumption | rfl | ((repeat' with_reducible apply And.intro) <;> first | rfl | assumption | omega))
    (h24 : ts.length = ts.length ∧ ts.length * (10 : Nat) = ts.length * (10 : Nat) ∧ flat ts = flat ts ∧ ts.length ≤ (60 : Nat) ∧ mayP ts (vs.getD (i * (9 : Nat) + (2 : Nat)) (FV.b false)).asI ∧ RiseT ts ∧ (0 : Int) ≤ w ∧ w ≤ (1000000000 : Int) ∧ ((vs.getD (i * (9 : Nat) + (8 : Nat)) (FV.b false)).asB = true ∨ noP ts w (vs.getD (i * (9 : Nat) + (2 : Nat)) (FV.b false)).asI) := by first | omega | assumption | rfl | ((repeat' with_reducible apply And.intro) <;> first | rfl | assumption | omega))
    (h25 : ts.length + (1 : Nat) = ts'.length ∧ (ts.length + (1 : Nat)) * (10 : Nat) = ts'.length * (10 : Nat) ∧ flat (ts ++ [tM (vs.getD (i * (9 : Nat) + (2 : Nat)) (FV.b false)).asI (Ms.mk (vs.getD (i * (9 : Nat) + (3 : Nat)) (FV.b false)).asI (vs.getD (i * (9 : Nat) + (4 : Nat)) (FV.b false)).asB (vs.getD (i * (9 : Nat) + (5 : Nat)) (FV.b false)).asI (vs.getD (i * (9 : Nat) + (6 : Nat)) (FV.b false)).asB (vs.getD (i * (9 : Nat) + (7 : Nat)) (FV.b false)).asI (vs.getD (i * (9 : Nat) + (8 : Nat)) (FV.b false)).asB)]) = flat ts' ∧ ts.length + (1 : Nat) ≤ (60 : Nat) ∧ waitI ts' = (↑j : Int) := by first | omega | assumption | rfl | ((repeat' with_reducible apply And.intro) <;> first | rfl | assumption | omega)) : roundK Try.prog ((S6m FMsgX (FRMX ts) FWtS (FWaj ts' j)).on [(55, true), (84, false), (102, false), (79, false), (83, false), (132, false)]) noL Try.f6.ntmps 1 (loopOf Try.f6 0) live6 [.bool false, pt 1, pt 4, sl 0 n 2, w63 n, w63 i] [opsB n vs, PBe 2 w now t (pt 3), eB true xs, WB true a m, DBe 5 w ts.length cc, rowA true ts.length (flat ts)] on out =
     (on [Value.bool false, Value.pointer (some (Addr.mk (1 : Nat) (0 : Nat) none)), Value.pointer (some (Addr.mk (4 : Nat) (0 : Nat) none)), Value.slice (some (Addr.mk (0 : Nat) (0 : Nat) none)) n (2 :
     Nat), Value.int IntKind.i64 (↑n : Int), Value.int IntKind.i64 ((↑i : Int) + (1 : Int))] [some (Blk.mk false (9 : Nat) [Seg.any (n * (9 : Nat)) vs]), some (Blk.mk true (5 : Nat) [Seg.vals
     [Value.pointer (some (Addr.mk (2 : Nat) (0 : Nat) none))], Seg.ints IntKind.i64 (2 : Nat) [w, (vs.getD (i * (9 : Nat) + (2 : Nat)) (FV.b false)).asI], Seg.vals [Value.bool t, Value.pointer (some
     (Addr.mk (3 : Nat) (0 : Nat) none))]]), some (Blk.mk true (9 : Nat) [Seg.ints IntKind.i64 (9 : Nat) xs]), some (Blk.mk true (7 : Nat) [Seg.ints IntKind.i64 (1 : Nat) [a], Seg.ints IntKind.u8 (1 : Nat)
     [m.kd], Seg.vals [Value.bool m.u], Seg.ints IntKind.i64 (1 : Nat) [m.s], Seg.vals [Value.bool m.l], Seg.ints IntKind.i64 (1 : Nat) [m.c], Seg.vals [Value.bool m.n]]), some (Blk.mk true (2 : Nat)
     [Seg.ints IntKind.i64 (1 : Nat) [w], Seg.vals [Value.slice (some (Addr.mk (5 : Nat) (0 : Nat) none)) (ts.length + (1 : Nat)) (1 : Nat)]]), some (Blk.mk true (10 : Nat) [Seg.any ((ts.length + (1 :
     Nat)) * (10 : Nat)) (flat (ts ++ [tM (vs.getD (i * (9 : Nat) + (2 : Nat)) (FV.b false)).asI (Ms.mk (vs.getD (i * (9 : Nat) + (3 : Nat)) (FV.b false)).asI (vs.getD (i * (9 : Nat) + (4 : Nat)) (FV.b
     false)).asB (vs.getD (i * (9 : Nat) + (5 : Nat)) (FV.b false)).asI (vs.getD (i * (9 : Nat) + (6 : Nat)) (FV.b false)).asB (vs.getD (i * (9 : Nat) + (7 : Nat)) (FV.b false)).asI (vs.getD (i * (9 : Nat)
     + (8 : Nat)) (FV.b false)).asB)]))])]) :=
  Eq.trans (b :=
     bif decide ((↑i : Int) < (↑n : Int)) then bif decide ((0 : Int) ≤ (↑i : Int)) && decide ((↑i : Int) < (↑n : Int)) then bif ((0 : Nat) + (↑i : Int).toNat * (9 : Nat)).blt (n * (9 : Nat)) then bif
     (vs.getD ((0 : Nat) + (↑i : Int).toNat * (9 : Nat)) (FV.b false)).isB then bif ((0 : Nat) + (↑i : Int).toNat * (9 : Nat) + (1 : Nat)).blt (n * (9 : Nat)) then bif (vs.getD ((0 : Nat) + (↑i :
     Int).toNat * (9 : Nat) + (1 : Nat)) (FV.b false)).isB then bif ((0 : Nat) + (↑i : Int).toNat * (9 : Nat) + (1 : Nat) + (1 : Nat)).blt (n * (9 : Nat)) then bif FV.isI IntKind.i64 (vs.getD ((0 : Nat) +
     (↑i : Int).toNat * (9 : Nat) + (1 : Nat) + (1 : Nat)) (FV.b false)) then bif ((0 : Nat) + (↑i : Int).toNat * (9 : Nat) + (1 : Nat) + (1 : Nat) + (1 : Nat)).blt (n * (9 : Nat)) then bif FV.isI
     IntKind.u8 (vs.getD ((0 : Nat) + (↑i : Int).toNat * (9 : Nat) + (1 : Nat) + (1 : Nat) + (1 : Nat)) (FV.b false)) then bif ((0 : Nat) + (↑i : Int).toNat * (9 : Nat) + (1 : Nat) + (1 : Nat) + (1 : Nat)
     + (1 : Nat)).blt (n * (9 : Nat)) then bif (vs.getD ((0 : Nat) + (↑i : Int).toNat * (9 : Nat) + (1 : Nat) + (1 : Nat) + (1 : Nat) + (1 : Nat)) (FV.b false)).isB then bif ((0 : Nat) + (↑i : Int).toNat *
     (9 : Nat) + (1 : Nat) + (1 : Nat) + (1 : Nat) + (1 : Nat) + (1 : Nat)).blt (n * (9 : Nat)) then bif FV.isI IntKind.i64 (vs.getD ((0 : Nat) + (↑i : Int).toNat * (9 : Nat) + (1 : Nat) + (1 : Nat) + (1 :
     Nat) + (1 : Nat) + (1 : Nat)) (FV.b false)) then bif ((0 : Nat) + (↑i : Int).toNat * (9 : Nat) + (1 : Nat) + (1 : Nat) + (1 : Nat) + (1 : Nat) + (1 : Nat) + (1 : Nat)).blt (n * (9 : Nat)) then bif
     (vs.getD ((0 : Nat) + (↑i : Int).toNat * (9 : Nat) + (1 : Nat) + (1 : Nat) + (1 : Nat) + (1 : Nat) + (1 : Nat) + (1 : Nat)) (FV.b false)).isB then bif ((0 : Nat) + (↑i : Int).toNat * (9 : Nat) + (1 :
     Nat) + (1 : Nat) + (1 : Nat) + (1 : Nat) + (1 : Nat) + (1 : Nat) + (1 : Nat)).blt (n * (9 : Nat)) then bif FV.isI IntKind.i64 (vs.getD ((0 : Nat) + (↑i : Int).toNat * (9 : Nat) + (1 : Nat) + (1 : Nat)
     + (1 : Nat) + (1 : Nat) + (1 : Nat) + (1 : Nat) + (1 : Nat)) (FV.b false)) then bif ((0 : Nat) + (↑i : Int).toNat * (9 : Nat) + (1 : Nat) + (1 : Nat) + (1 : Nat) + (1 : Nat) + (1 : Nat) + (1 : Nat) +
     (1 : Nat) + (1 : Nat)).blt (n * (9 : Nat)) then bif (vs.getD ((0 : Nat) + (↑i : Int).toNat * (9 : Nat) + (1 : Nat) + (1 : Nat) + (1 : Nat) + (1 : Nat) + (1 : Nat) + (1 : Nat) + (1 : Nat) + (1 : Nat))
     (FV.b false)).isB then bif (vs.getD ((0 : Nat) + (↑i : Int).toNat * (9 : Nat) + (1 : Nat)) (FV.b false)).asB then none else bif (vs.getD ((0 : Nat) + (↑i : Int).toNat * (9 : Nat)) (FV.b false)).asB
     then none else bif chk (now ≤ (vs.getD ((0 : Nat) + (↑i : Int).toNat * (9 : Nat) + (1 : Nat) + (1 : Nat)) (FV.b false)).asI ∧ (vs.getD ((0 : Nat) + (↑i : Int).toNat * (9 : Nat) + (1 : Nat) + (1 : Nat)
     + (1 : Nat) + (1 : Nat) + (1 : Nat) + (1 : Nat) + (1 : Nat) + (1 : Nat)) (FV.b false)).asB = false ∧ (0 : Int) ≤ now ∧ (0 : Int) ≤ w ∧ w ≤ (1000000000 : Int) ∧ (0 : Int) ≤ xs.getD (8 : Nat) (0 : Int)
     ∧ xs.getD (8 : Nat) (0 : Int) ≤ (1000 : Int) ∧ (xs.getD (8 : Nat) (0 : Int) = (0 : Int) ∨ (0 : Int) ≤ lastR xs ∧ lastR xs ≤ (vs.getD ((0 : Nat) + (↑i : Int).toNat * (9 : Nat) + (1 : Nat) + (1 : Nat))
     (FV.b false)).asI) ∧ (xs.getD (8 : Nat) (0 : Int) = (0 : Int) ∨ t = true ∨ w < (vs.getD ((0 : Nat) + (↑i : Int).toNat * (9 : Nat) + (1 : Nat) + (1 : Nat)) (FV.b false)).asI - lastR xs ∨ cnt (allX xs)
     ((vs.getD ((0 : Nat) + (↑i : Int).toNat * (9 : Nat) + (1 : Nat) + (1 : Nat)) (FV.b false)).asI - w) (vs.getD ((0 : Nat) + (↑i : Int).toNat * (9 : Nat) + (1 : Nat) + (1 : Nat)) (FV.b false)).asI ≠ (1 :
     Nat))) then bif chk (ts.length = ts.length ∧ ts.length * (10 : Nat) = ts.length * (10 : Nat) ∧ flat ts = flat ts ∧ ts.length ≤ (60 : Nat) ∧ mayP ts (vs.getD ((0 : Nat) + (↑i : Int).toNat * (9 : Nat) +
     (1 : Nat) + (1 : Nat)) (FV.b false)).asI ∧ RiseT ts ∧ (0 : Int) ≤ w ∧ w ≤ (1000000000 : Int) ∧ ((vs.getD ((0 : Nat) + (↑i : Int).toNat * (9 : Nat) + (1 : Nat) + (1 : Nat) + (1 : Nat) + (1 : Nat) + (1
     : Nat) + (1 : Nat) + (1 : Nat) + (1 : Nat)) (FV.b false)).asB = true ∨ noP ts w (vs.getD ((0 : Nat) + (↑i : Int).toNat * (9 : Nat) + (1 : Nat) + (1 : Nat)) (FV.b false)).asI)) then bif chk (ts.length
     + (1 : Nat) = ts'.length ∧ (ts.length + (1 : Nat)) * (10 : Nat) = ts'.length * (10 : Nat) ∧ flat (ts ++ [tM (vs.getD ((0 : Nat) + (↑i : Int).toNat * (9 : Nat) + (1 : Nat) + (1 : Nat)) (FV.b
     false)).asI (Ms.mk (vs.getD ((0 : Nat) + (↑i : Int).toNat * (9 : Nat) + (1 : Nat) + (1 : Nat) + (1 : Nat)) (FV.b false)).asI (vs.getD ((0 : Nat) + (↑i : Int).toNat * (9 : Nat) + (1 : Nat) + (1 : Nat)
     + (1 : Nat) + (1 : Nat)) (FV.b false)).asB (vs.getD ((0 : Nat) + (↑i : Int).toNat * (9 : Nat) + (1 : Nat) + (1 : Nat) + (1 : Nat) + (1 : Nat) + (1 : Nat)) (FV.b false)).asI (vs.getD ((0 : Nat) + (↑i :
     Int).toNat * (9 : Nat) + (1 : Nat) + (1 : Nat) + (1 : Nat) + (1 : Nat) + (1 : Nat) + (1 : Nat)) (FV.b false)).asB (vs.getD ((0 : Nat) + (↑i : Int).toNat * (9 : Nat) + (1 : Nat) + (1 : Nat) + (1 : Nat)
     + (1 : Nat) + (1 : Nat) + (1 : Nat) + (1 : Nat)) (FV.b false)).asI (vs.getD ((0 : Nat) + (↑i : Int).toNat * (9 : Nat) + (1 : Nat) + (1 : Nat) + (1 : Nat) + (1 : Nat) + (1 : Nat) + (1 : Nat) + (1 :
     Nat) + (1 : Nat)) (FV.b false)).asB)]) = flat ts' ∧ ts.length + (1 : Nat) ≤ (60 : Nat) ∧ waitI ts' = (↑j : Int)) then on [Value.bool false, Value.pointer (some (Addr.mk (1 : Nat) (0 : Nat) none)),
     Value.pointer (some (Addr.mk (4 : Nat) (0 : Nat) none)), Value.slice (some (Addr.mk (0 : Nat) (0 : Nat) none)) n (2 : Nat), Value.int IntKind.i64 (↑n : Int), Value.int IntKind.i64 (IntKind.i64.wrap
     ((↑i : Int) + (1 : Int)))] [some (Blk.mk false (9 : Nat) [Seg.any (n * (9 : Nat)) vs]), some (Blk.mk true (5 : Nat) [Seg.vals [Value.pointer (some (Addr.mk (2 : Nat) (0 : Nat) none))], Seg.ints
     IntKind.i64 (2 : Nat) [w, (vs.getD ((0 : Nat) + (↑i : Int).toNat * (9 : Nat) + (1 : Nat) + (1 : Nat)) (FV.b false)).asI], Seg.vals [Value.bool t, Value.pointer (some (Addr.mk (3 : Nat) (0 : Nat)
     none))]]), some (Blk.mk true (9 : Nat) [Seg.ints IntKind.i64 (9 : Nat) xs]), some (Blk.mk true (7 : Nat) [Seg.ints IntKind.i64 (1 : Nat) [a], Seg.ints IntKind.u8 (1 : Nat) [m.kd], Seg.vals [Value.bool
     m.u], Seg.ints IntKind.i64 (1 : Nat) [m.s], Seg.vals [Value.bool m.l], Seg.ints IntKind.i64 (1 : Nat) [m.c], Seg.vals [Value.bool m.n]]), some (Blk.mk true (2 : Nat) [Seg.ints IntKind.i64 (1 : Nat)
     [w], Seg.vals [Value.slice (some (Addr.mk (5 : Nat) (0 : Nat) none)) (ts.length + (1 : Nat)) (1 : Nat)]]), some (Blk.mk true (10 : Nat) [Seg.any ((ts.length + (1 : Nat)) * (10 : Nat)) (flat (ts ++ [tM
     (vs.getD ((0 : Nat) + (↑i : Int).toNat * (9 : Nat) + (1 : Nat) + (1 : Nat)) (FV.b false)).asI (Ms.mk (vs.getD ((0 : Nat) + (↑i : Int).toNat * (9 : Nat) + (1 : Nat) + (1 : Nat) + (1 : Nat)) (FV.b
     false)).asI (vs.getD ((0 : Nat) + (↑i : Int).toNat * (9 : Nat) + (1 : Nat) + (1 : Nat) + (1 : Nat) + (1 : Nat)) (FV.b false)).asB (vs.getD ((0 : Nat) + (↑i : Int).toNat * (9 : Nat) + (1 : Nat) + (1 :
     Nat) + (1 : Nat) + (1 : Nat) + (1 : Nat)) (FV.b false)).asI (vs.getD ((0 : Nat) + (↑i : Int).toNat * (9 : Nat) + (1 : Nat) + (1 : Nat) + (1 : Nat) + (1 : Nat) + (1 : Nat) + (1 : Nat)) (FV.b
     false)).asB (vs.getD ((0 : Nat) + (↑i : Int).toNat * (9 : Nat) + (1 : Nat) + (1 : Nat) + (1 : Nat) + (1 : Nat) + (1 : Nat) + (1 : Nat) + (1 : Nat)) (FV.b false)).asI (vs.getD ((0 : Nat) + (↑i :
     Int).toNat * (9 : Nat) + (1 : Nat) + (1 : Nat) + (1 : Nat) + (1 : Nat) + (1 : Nat) + (1 : Nat) + (1 : Nat) + (1 : Nat)) (FV.b false)).asB)]))])] else none else none else none else none else none else
     none else none else none else none else none else none else none else none else none else none else none else none else none else none else none else none else none else none) (by kernel_rfl) (by simp only [-eq_self, Int.toNat_natCast, Nat.zero_add, swrap w1.1 w1.2]; exact (go_t (dec_t h1) (go_t (and_t (dec_t h2) (dec_t h1)) (go_t (blt_t h3) (go_t h4 (go_t (blt_t h5) (go_t h6 (go_t (blt_t h7) (go_t h8 (go_t (blt_t h9) (go_t h10 (go_t (blt_t h11) (go_t h12 (go_t (blt_t h13) (go_t h14 (go_t (blt_t h15) (go_t h16 (go_t (blt_t h17) (go_t h18 (go_t (blt_t h19) (go_t h20 (go_f h21 (go_f h22 (go_t (chk_t h23) (go_t (chk_t h24) (go_t (chk_t h25) rfl))))))))))))))))))))))))))
--CFEND
--CP p6mPS (w now a : Int) (t : Bool) (m : Ms) (n i cc j j' : Nat) (xs : List Int) (vs : List FV) (ts ts' : List Th) (on : List Value → Heap → Out) (out : Exit → List Value → Heap → Out) :: roundK Try.prog ((S6m FMsgP (FRMP ts j') FWtS (FWaj ts' j)).on [(55, true), (84, false), (102, false), (79, false), (83, false), (132, false)]) noL Try.f6.ntmps 1 (loopOf Try.f6 0) live6 [.bool false, pt 1, pt 4, sl 0 n 2, w63 n, w63 i] [opsB n vs, PBe 2 w now t (pt 3), eB true xs, WB true a m, DBe 5 w ts.length cc, rowA true ts.length (flat ts)] on out
theorem p6mPS (w now a : Int) (t : Bool) (m : Ms) (n i cc j j' : Nat) (xs : List Int) (vs : List FV) (ts ts' : List Th) (on : List Value → Heap → Out) (out : Exit → List Value → Heap → Out)
    (w1 : -9223372036854775808 ≤ (↑i : Int) + (1 : Int) ∧ (↑i : Int) + (1 : Int) ≤ 9223372036854775807 := by omega)
    (h1 : (↑i : Int) < (↑n : Int) := by first | omega | assumption | rfl)
    (h2 : (0 : Int) ≤ (↑i : Int) := by first | omega | assumption | rfl)
    (h3 : i * (9 : Nat) < n * (9 : Nat) := by first | omega | assumption | rfl)
    (h4 : (vs.getD (i * (9 : Nat)) (FV.b false)).isB = true := by first | omega | assumption | rfl)
    (h5 : i * (9 : Nat) + (1 : Nat) < n * (9 : Nat) := by first | omega | assumption | rfl)
    (h6 : (vs.getD (i * (9 : Nat) + (1 : Nat)) (FV.b false)).isB = true := by first | omega | assumption | rfl)
    (h7 : i * (9 : Nat) + (2 : Nat) < n * (9 : Nat) := by first | omega | assumption | rfl)
    (h8 : FV.isI IntKind.i64 (vs.getD (i * (9 : Nat) + (2 : Nat)) (FV.b false)) = true := by first | omega | assumption | rfl)
    (h9 : i * (9 : Nat) + (3 : Nat) < n * (9 : Nat) := by first | omega | assumption | rfl)
    (h10 : FV.isI IntKind.u8 (vs.getD (i * (9 : Nat) + (3 : Nat)) (FV.b false)) = true := by first | omega | assumption | rfl)
    (h11 : i * (9 : Nat) + (4 : Nat) < n * (9 : Nat) := by first | omega | assumption | rfl)
    (h12 : (vs.getD (i * (9 : Nat) + (4 : Nat)) (FV.b false)).isB = true := by first | omega | assumption | rfl)
    (h13 : i * (9 : Nat) + (5 : Nat) < n * (9 : Nat) := by first | omega | assumption | rfl)
    (h14 : FV.isI IntKind.i64 (vs.getD (i * (9 : Nat) + (5 : Nat)) (FV.b false)) = true := by first | omega | assumption | rfl)
    (h15 : i * (9 : Nat) + (6 : Nat) < n * (9 : Nat) := by first | omega | assumption | rfl)
    (h16 : (vs.getD (i * (9 : Nat) + (6 : Nat)) (FV.b false)).isB = true := by first | omega | assumption | rfl)
    (h17 : i * (9 : Nat) + (7 : Nat) < n * (9 : Nat) := by first | omega | assumption | rfl)
    (h18 : FV.isI IntKind.i64 (vs.getD (i * (9 : Nat) + (7 : Nat)) (FV.b false)) = true := by first | omega | assumption | rfl)
    (h19 : i * (9 : Nat) + (8 : Nat) < n * (9 : Nat) := by first | omega | assumption | rfl)
    (h20 : (vs.getD (i * (9 : Nat) + (8 : Nat)) (FV.b false)).isB = true := by first | omega | assumption | rfl)
    (h21 : (vs.getD (i * (9 : Nat) + (1 : Nat)) (FV.b false)).asB = false := by first | omega | assumption | rfl)
    (h22 : (vs.getD (i * (9 : Nat)) (FV.b false)).asB = false := by first | omega | assumption | rfl)
    (h23 : now ≤ (vs.getD (i * (9 : Nat) + (2 : Nat)) (FV.b false)).asI ∧ (vs.getD (i * (9 : Nat) + (8 : Nat)) (FV.b false)).asB = false ∧ (0 : Int) ≤ now ∧ (0 : Int) ≤ w ∧ w ≤ (1000000000 : Int) ∧ (0 : Int) ≤ xs.getD (8 : Nat) (0 : Int) ∧ xs.getD (8 : Nat) (0 : Int) ≤ (1000 : Int) ∧ (xs.getD (8 : Nat) (0 : Int) = (0 : Int) ∨ (0 : Int) ≤ lastR xs ∧ lastR xs ≤ (vs.getD (i * (9 : Nat) + (2 : Nat)) (FV.b false)).asI) ∧ xs.getD (8 : Nat) (0 : Int) ≠ (0 : Int) ∧ t = false ∧ (vs.getD (i * (9 : Nat) + (2 : Nat)) (FV.b false)).asI - lastR xs ≤ w ∧ cnt (allX xs) ((vs.getD (i * (9 : Nat) + (2 : Nat)) (FV.b false)).asI - w) (vs.getD (i * (9 : Nat) + (2 : Nat)) (FV.b false)).asI = (1 : Nat) := by first | omega | assumption | rfl | ((repeat' with_reducible apply And.intro) <;> first | rfl | assumption | omega))
    (h24 : ts.length = ts.length ∧ ts.length * (10 : Nat) = ts.length * (10 : Nat) ∧ flat ts = flat ts ∧ ts.length ≤ (60 : Nat) ∧ mayP ts (vs.getD (i * (9 : Nat) + (2 : Nat)) (FV.b false)).asI ∧ RiseT ts ∧ (0 : Int) ≤ w ∧ w ≤ (1000000000 : Int) ∧ (vs.getD (i * (9 : Nat) + (8 : Nat)) (FV.b false)).asB = false ∧ j' < ts.length ∧ okP ts w (vs.getD (i * (9 : Nat) + (2 : Nat)) (FV.b false)).asI j' := by first | omega | assumption | rfl | ((repeat' with_reducible apply And.intro) <;> first | rfl | assumption | omega))
    (h25 : lastR xs = (ts.getD j' th0).a := by first | omega | assumption | rfl)
    (h26 : (vs.getD (i * (9 : Nat) + (3 : Nat)) (FV.b false)).asI = (vs.getD (i * (9 : Nat) + (3 : Nat)) (FV.b false)).asI := by first | omega | assumption | rfl)
    (h27 : (vs.getD (i * (9 : Nat) + (4 : Nat)) (FV.b false)).asB = (vs.getD (i * (9 : Nat) + (4 : Nat)) (FV.b false)).asB := by first | omega | assumption | rfl)
    (h28 : (vs.getD (i * (9 : Nat) + (5 : Nat)) (FV.b false)).asI = (vs.getD (i * (9 : Nat) + (5 : Nat)) (FV.b false)).asI := by first | omega | assumption | rfl)
    (h29 : (vs.getD (i * (9 : Nat) + (6 : Nat)) (FV.b false)).asB = (vs.getD (i * (9 : Nat) + (6 : Nat)) (FV.b false)).asB := by first | omega | assumption | rfl)
    (h30 : (vs.getD (i * (9 : Nat) + (7 : Nat)) (FV.b false)).asI = (vs.getD (i * (9 : Nat) + (7 : Nat)) (FV.b false)).asI := by first | omega | assumption | rfl)
    (h31 : (vs.getD (i * (9 : Nat) + (8 : Nat)) (FV.b false)).asB = (vs.getD (i * (9 : Nat) + (8 : Nat)) (FV.b false)).asB := by first | omega | assumption | rfl)
    (h32 : ts.length + (1 : Nat) = ts'.length ∧ (ts.length + (1 : Nat)) * (10 : Nat) = ts'.length * (10 : Nat) ∧ flat ((ts ++ [tM (vs.getD (i * (9 : Nat) + (2 : Nat)) (FV.b false)).asI (Ms.mk (vs.getD (i * (9 : Nat) + (3 : Nat)) (FV.b false)).asI (vs.getD (i * (9 : Nat) + (4 : Nat)) (FV.b false)).asB (vs.getD (i * (9 : Nat) + (5 : Nat)) (FV.b false)).asI (vs.getD (i * (9 : Nat) + (6 : Nat)) (FV.b false)).asB (vs.getD (i * (9 : Nat) + (7 : Nat)) (FV.b false)).asI (vs.getD (i * (9 : Nat) + (8 : Nat)) (FV.b false)).asB)]).set j' (setI (ts.getD j' th0))) = flat ts' ∧ ts.length + (1 : Nat) ≤ (60 : Nat) ∧ waitI ts' = (↑j : Int) := by first | omega | assumption | rfl | ((repeat' with_reducible apply And.intro) <;> first | rfl | assumption | omega)) : roundK Try.prog ((S6m FMsgP (FRMP ts j') FWtS (FWaj ts' j)).on [(55, true), (84, false), (102, false), (79, false), (83, false), (132, false)]) noL Try.f6.ntmps 1 (loopOf Try.f6 0) live6 [.bool false, pt 1, pt 4, sl 0 n 2, w63 n, w63 i] [opsB n vs, PBe 2 w now t (pt 3), eB true xs, WB true a m, DBe 5 w ts.length cc, rowA true ts.length (flat ts)] on out =
     (on [Value.bool false, Value.pointer (some (Addr.mk (1 : Nat) (0 : Nat) none)), Value.pointer (some (Addr.mk (4 : Nat) (0 : Nat) none)), Value.slice (some (Addr.mk (0 : Nat) (0 : Nat) none)) n (2 :
     Nat), Value.int IntKind.i64 (↑n : Int), Value.int IntKind.i64 ((↑i : Int) + (1 : Int))] [some (Blk.mk false (9 : Nat) [Seg.any (n * (9 : Nat)) vs]), some (Blk.mk true (5 : Nat) [Seg.vals
     [Value.pointer (some (Addr.mk (2 : Nat) (0 : Nat) none))], Seg.ints IntKind.i64 (2 : Nat) [w, (vs.getD (i * (9 : Nat) + (2 : Nat)) (FV.b false)).asI], Seg.vals [Value.bool true, Value.pointer (some
     (Addr.mk (3 : Nat) (0 : Nat) none))]]), some (Blk.mk true (9 : Nat) [Seg.ints IntKind.i64 (9 : Nat) xs]), some (Blk.mk true (7 : Nat) [Seg.ints IntKind.i64 (1 : Nat) [a], Seg.ints IntKind.u8 (1 : Nat)
     [m.kd], Seg.vals [Value.bool m.u], Seg.ints IntKind.i64 (1 : Nat) [m.s], Seg.vals [Value.bool m.l], Seg.ints IntKind.i64 (1 : Nat) [m.c], Seg.vals [Value.bool m.n]]), some (Blk.mk true (2 : Nat)
     [Seg.ints IntKind.i64 (1 : Nat) [w], Seg.vals [Value.slice (some (Addr.mk (5 : Nat) (0 : Nat) none)) (ts.length + (1 : Nat)) (1 : Nat)]]), some (Blk.mk true (10 : Nat) [Seg.any ((ts.length + (1 :
     Nat)) * (10 : Nat)) (flat ((ts ++ [tM (vs.getD (i * (9 : Nat) + (2 : Nat)) (FV.b false)).asI (Ms.mk (vs.getD (i * (9 : Nat) + (3 : Nat)) (FV.b false)).asI (vs.getD (i * (9 : Nat) + (4 : Nat)) (FV.b
     false)).asB (vs.getD (i * (9 : Nat) + (5 : Nat)) (FV.b false)).asI (vs.getD (i * (9 : Nat) + (6 : Nat)) (FV.b false)).asB (vs.getD (i * (9 : Nat) + (7 : Nat)) (FV.b false)).asI (vs.getD (i * (9 : Nat)
     + (8 : Nat)) (FV.b false)).asB)]).set j' (setI (ts.getD j' th0))))])]) :=
  Eq.trans (b :=
     bif decide ((↑i : Int) < (↑n : Int)) then bif decide ((0 : Int) ≤ (↑i : Int)) && decide ((↑i : Int) < (↑n : Int)) then bif ((0 : Nat) + (↑i : Int).toNat * (9 : Nat)).blt (n * (9 : Nat)) then bif
     (vs.getD ((0 : Nat) + (↑i : Int).toNat * (9 : Nat)) (FV.b false)).isB then bif ((0 : Nat) + (↑i : Int).toNat * (9 : Nat) + (1 : Nat)).blt (n * (9 : Nat)) then bif (vs.getD ((0 : Nat) + (↑i :
     Int).toNat * (9 : Nat) + (1 : Nat)) (FV.b false)).isB then bif ((0 : Nat) + (↑i : Int).toNat * (9 : Nat) + (1 : Nat) + (1 : Nat)).blt (n * (9 : Nat)) then bif FV.isI IntKind.i64 (vs.getD ((0 : Nat) +
     (↑i : Int).toNat * (9 : Nat) + (1 : Nat) + (1 : Nat)) (FV.b false)) then bif ((0 : Nat) + (↑i : Int).toNat * (9 : Nat) + (1 : Nat) + (1 : Nat) + (1 : Nat)).blt (n * (9 : Nat)) then bif FV.isI
     IntKind.u8 (vs.getD ((0 : Nat) + (↑i : Int).toNat * (9 : Nat) + (1 : Nat) + (1 : Nat) + (1 : Nat)) (FV.b false)) then bif ((0 : Nat) + (↑i : Int).toNat * (9 : Nat) + (1 : Nat) + (1 : Nat) + (1 : Nat)
     + (1 : Nat)).blt (n * (9 : Nat)) then bif (vs.getD ((0 : Nat) + (↑i : Int).toNat * (9 : Nat) + (1 : Nat) + (1 : Nat) + (1 : Nat) + (1 : Nat)) (FV.b false)).isB then bif ((0 : Nat) + (↑i : Int).toNat *
     (9 : Nat) + (1 : Nat) + (1 : Nat) + (1 : Nat) + (1 : Nat) + (1 : Nat)).blt (n * (9 : Nat)) then bif FV.isI IntKind.i64 (vs.getD ((0 : Nat) + (↑i : Int).toNat * (9 : Nat) + (1 : Nat) + (1 : Nat) + (1 :
     Nat) + (1 : Nat) + (1 : Nat)) (FV.b false)) then bif ((0 : Nat) + (↑i : Int).toNat * (9 : Nat) + (1 : Nat) + (1 : Nat) + (1 : Nat) + (1 : Nat) + (1 : Nat) + (1 : Nat)).blt (n * (9 : Nat)) then bif
     (vs.getD ((0 : Nat) + (↑i : Int).toNat * (9 : Nat) + (1 : Nat) + (1 : Nat) + (1 : Nat) + (1 : Nat) + (1 : Nat) + (1 : Nat)) (FV.b false)).isB then bif ((0 : Nat) + (↑i : Int).toNat * (9 : Nat) + (1 :
     Nat) + (1 : Nat) + (1 : Nat) + (1 : Nat) + (1 : Nat) + (1 : Nat) + (1 : Nat)).blt (n * (9 : Nat)) then bif FV.isI IntKind.i64 (vs.getD ((0 : Nat) + (↑i : Int).toNat * (9 : Nat) + (1 : Nat) + (1 : Nat)
     + (1 : Nat) + (1 : Nat) + (1 : Nat) + (1 : Nat) + (1 : Nat)) (FV.b false)) then bif ((0 : Nat) + (↑i : Int).toNat * (9 : Nat) + (1 : Nat) + (1 : Nat) + (1 : Nat) + (1 : Nat) + (1 : Nat) + (1 : Nat) +
     (1 : Nat) + (1 : Nat)).blt (n * (9 : Nat)) then bif (vs.getD ((0 : Nat) + (↑i : Int).toNat * (9 : Nat) + (1 : Nat) + (1 : Nat) + (1 : Nat) + (1 : Nat) + (1 : Nat) + (1 : Nat) + (1 : Nat) + (1 : Nat))
     (FV.b false)).isB then bif (vs.getD ((0 : Nat) + (↑i : Int).toNat * (9 : Nat) + (1 : Nat)) (FV.b false)).asB then none else bif (vs.getD ((0 : Nat) + (↑i : Int).toNat * (9 : Nat)) (FV.b false)).asB
     then none else bif chk (now ≤ (vs.getD ((0 : Nat) + (↑i : Int).toNat * (9 : Nat) + (1 : Nat) + (1 : Nat)) (FV.b false)).asI ∧ (vs.getD ((0 : Nat) + (↑i : Int).toNat * (9 : Nat) + (1 : Nat) + (1 : Nat)
     + (1 : Nat) + (1 : Nat) + (1 : Nat) + (1 : Nat) + (1 : Nat) + (1 : Nat)) (FV.b false)).asB = false ∧ (0 : Int) ≤ now ∧ (0 : Int) ≤ w ∧ w ≤ (1000000000 : Int) ∧ (0 : Int) ≤ xs.getD (8 : Nat) (0 : Int)
     ∧ xs.getD (8 : Nat) (0 : Int) ≤ (1000 : Int) ∧ (xs.getD (8 : Nat) (0 : Int) = (0 : Int) ∨ (0 : Int) ≤ lastR xs ∧ lastR xs ≤ (vs.getD ((0 : Nat) + (↑i : Int).toNat * (9 : Nat) + (1 : Nat) + (1 : Nat))
     (FV.b false)).asI) ∧ xs.getD (8 : Nat) (0 : Int) ≠ (0 : Int) ∧ t = false ∧ (vs.getD ((0 : Nat) + (↑i : Int).toNat * (9 : Nat) + (1 : Nat) + (1 : Nat)) (FV.b false)).asI - lastR xs ≤ w ∧ cnt (allX xs)
     ((vs.getD ((0 : Nat) + (↑i : Int).toNat * (9 : Nat) + (1 : Nat) + (1 : Nat)) (FV.b false)).asI - w) (vs.getD ((0 : Nat) + (↑i : Int).toNat * (9 : Nat) + (1 : Nat) + (1 : Nat)) (FV.b false)).asI = (1 :
     Nat)) then bif chk (ts.length = ts.length ∧ ts.length * (10 : Nat) = ts.length * (10 : Nat) ∧ flat ts = flat ts ∧ ts.length ≤ (60 : Nat) ∧ mayP ts (vs.getD ((0 : Nat) + (↑i : Int).toNat * (9 : Nat) +
     (1 : Nat) + (1 : Nat)) (FV.b false)).asI ∧ RiseT ts ∧ (0 : Int) ≤ w ∧ w ≤ (1000000000 : Int) ∧ (vs.getD ((0 : Nat) + (↑i : Int).toNat * (9 : Nat) + (1 : Nat) + (1 : Nat) + (1 : Nat) + (1 : Nat) + (1 :
     Nat) + (1 : Nat) + (1 : Nat) + (1 : Nat)) (FV.b false)).asB = false ∧ j' < ts.length ∧ okP ts w (vs.getD ((0 : Nat) + (↑i : Int).toNat * (9 : Nat) + (1 : Nat) + (1 : Nat)) (FV.b false)).asI j') then
     bif !(lastR xs == (ts.getD j' th0).a && ((vs.getD ((0 : Nat) + (↑i : Int).toNat * (9 : Nat) + (1 : Nat) + (1 : Nat) + (1 : Nat)) (FV.b false)).asI == (vs.getD ((0 : Nat) + (↑i : Int).toNat * (9 : Nat)
     + (1 : Nat) + (1 : Nat) + (1 : Nat)) (FV.b false)).asI && ((vs.getD ((0 : Nat) + (↑i : Int).toNat * (9 : Nat) + (1 : Nat) + (1 : Nat) + (1 : Nat) + (1 : Nat)) (FV.b false)).asB == (vs.getD ((0 : Nat)
     + (↑i : Int).toNat * (9 : Nat) + (1 : Nat) + (1 : Nat) + (1 : Nat) + (1 : Nat)) (FV.b false)).asB && ((vs.getD ((0 : Nat) + (↑i : Int).toNat * (9 : Nat) + (1 : Nat) + (1 : Nat) + (1 : Nat) + (1 : Nat)
     + (1 : Nat)) (FV.b false)).asI == (vs.getD ((0 : Nat) + (↑i : Int).toNat * (9 : Nat) + (1 : Nat) + (1 : Nat) + (1 : Nat) + (1 : Nat) + (1 : Nat)) (FV.b false)).asI && ((vs.getD ((0 : Nat) + (↑i :
     Int).toNat * (9 : Nat) + (1 : Nat) + (1 : Nat) + (1 : Nat) + (1 : Nat) + (1 : Nat) + (1 : Nat)) (FV.b false)).asB == (vs.getD ((0 : Nat) + (↑i : Int).toNat * (9 : Nat) + (1 : Nat) + (1 : Nat) + (1 :
     Nat) + (1 : Nat) + (1 : Nat) + (1 : Nat)) (FV.b false)).asB && ((vs.getD ((0 : Nat) + (↑i : Int).toNat * (9 : Nat) + (1 : Nat) + (1 : Nat) + (1 : Nat) + (1 : Nat) + (1 : Nat) + (1 : Nat) + (1 : Nat))
     (FV.b false)).asI == (vs.getD ((0 : Nat) + (↑i : Int).toNat * (9 : Nat) + (1 : Nat) + (1 : Nat) + (1 : Nat) + (1 : Nat) + (1 : Nat) + (1 : Nat) + (1 : Nat)) (FV.b false)).asI && ((vs.getD ((0 : Nat) +
     (↑i : Int).toNat * (9 : Nat) + (1 : Nat) + (1 : Nat) + (1 : Nat) + (1 : Nat) + (1 : Nat) + (1 : Nat) + (1 : Nat) + (1 : Nat)) (FV.b false)).asB == (vs.getD ((0 : Nat) + (↑i : Int).toNat * (9 : Nat) +
     (1 : Nat) + (1 : Nat) + (1 : Nat) + (1 : Nat) + (1 : Nat) + (1 : Nat) + (1 : Nat) + (1 : Nat)) (FV.b false)).asB && true))))) && true)) then none else bif chk (ts.length + (1 : Nat) = ts'.length ∧
     (ts.length + (1 : Nat)) * (10 : Nat) = ts'.length * (10 : Nat) ∧ flat ((ts ++ [tM (vs.getD ((0 : Nat) + (↑i : Int).toNat * (9 : Nat) + (1 : Nat) + (1 : Nat)) (FV.b false)).asI (Ms.mk (vs.getD ((0 :
     Nat) + (↑i : Int).toNat * (9 : Nat) + (1 : Nat) + (1 : Nat) + (1 : Nat)) (FV.b false)).asI (vs.getD ((0 : Nat) + (↑i : Int).toNat * (9 : Nat) + (1 : Nat) + (1 : Nat) + (1 : Nat) + (1 : Nat)) (FV.b
     false)).asB (vs.getD ((0 : Nat) + (↑i : Int).toNat * (9 : Nat) + (1 : Nat) + (1 : Nat) + (1 : Nat) + (1 : Nat) + (1 : Nat)) (FV.b false)).asI (vs.getD ((0 : Nat) + (↑i : Int).toNat * (9 : Nat) + (1 :
     Nat) + (1 : Nat) + (1 : Nat) + (1 : Nat) + (1 : Nat) + (1 : Nat)) (FV.b false)).asB (vs.getD ((0 : Nat) + (↑i : Int).toNat * (9 : Nat) + (1 : Nat) + (1 : Nat) + (1 : Nat) + (1 : Nat) + (1 : Nat) + (1
     : Nat) + (1 : Nat)) (FV.b false)).asI (vs.getD ((0 : Nat) + (↑i : Int).toNat * (9 : Nat) + (1 : Nat) + (1 : Nat) + (1 : Nat) + (1 : Nat) + (1 : Nat) + (1 : Nat) + (1 : Nat) + (1 : Nat)) (FV.b
     false)).asB)]).set j' (setI (ts.getD j' th0))) = flat ts' ∧ ts.length + (1 : Nat) ≤ (60 : Nat) ∧ waitI ts' = (↑j : Int)) then on [Value.bool false, Value.pointer (some (Addr.mk (1 : Nat) (0 : Nat)
     none)), Value.pointer (some (Addr.mk (4 : Nat) (0 : Nat) none)), Value.slice (some (Addr.mk (0 : Nat) (0 : Nat) none)) n (2 : Nat), Value.int IntKind.i64 (↑n : Int), Value.int IntKind.i64
     (IntKind.i64.wrap ((↑i : Int) + (1 : Int)))] [some (Blk.mk false (9 : Nat) [Seg.any (n * (9 : Nat)) vs]), some (Blk.mk true (5 : Nat) [Seg.vals [Value.pointer (some (Addr.mk (2 : Nat) (0 : Nat)
     none))], Seg.ints IntKind.i64 (2 : Nat) [w, (vs.getD ((0 : Nat) + (↑i : Int).toNat * (9 : Nat) + (1 : Nat) + (1 : Nat)) (FV.b false)).asI], Seg.vals [Value.bool true, Value.pointer (some (Addr.mk (3 :
     Nat) (0 : Nat) none))]]), some (Blk.mk true (9 : Nat) [Seg.ints IntKind.i64 (9 : Nat) xs]), some (Blk.mk true (7 : Nat) [Seg.ints IntKind.i64 (1 : Nat) [a], Seg.ints IntKind.u8 (1 : Nat) [m.kd],
     Seg.vals [Value.bool m.u], Seg.ints IntKind.i64 (1 : Nat) [m.s], Seg.vals [Value.bool m.l], Seg.ints IntKind.i64 (1 : Nat) [m.c], Seg.vals [Value.bool m.n]]), some (Blk.mk true (2 : Nat) [Seg.ints
     IntKind.i64 (1 : Nat) [w], Seg.vals [Value.slice (some (Addr.mk (5 : Nat) (0 : Nat) none)) (ts.length + (1 : Nat)) (1 : Nat)]]), some (Blk.mk true (10 : Nat) [Seg.any ((ts.length + (1 : Nat)) * (10 :
     Nat)) (flat ((ts ++ [tM (vs.getD ((0 : Nat) + (↑i : Int).toNat * (9 : Nat) + (1 : Nat) + (1 : Nat)) (FV.b false)).asI (Ms.mk (vs.getD ((0 : Nat) + (↑i : Int).toNat * (9 : Nat) + (1 : Nat) + (1 : Nat)
     + (1 : Nat)) (FV.b false)).asI (vs.getD ((0 : Nat) + (↑i : Int).toNat * (9 : Nat) + (1 : Nat) + (1 : Nat) + (1 : Nat) + (1 : Nat)) (FV.b false)).asB (vs.getD ((0 : Nat) + (↑i : Int).toNat * (9 : Nat)
     + (1 : Nat) + (1 : Nat) + (1 : Nat) + (1 : Nat) + (1 : Nat)) (FV.b false)).asI (vs.getD ((0 : Nat) + (↑i : Int).toNat * (9 : Nat) + (1 : Nat) + (1 : Nat) + (1 : Nat) + (1 : Nat) + (1 : Nat) + (1 :
     Nat)) (FV.b false)).asB (vs.getD ((0 : Nat) + (↑i : Int).toNat * (9 : Nat) + (1 : Nat) + (1 : Nat) + (1 : Nat) + (1 : Nat) + (1 : Nat) + (1 : Nat) + (1 : Nat)) (FV.b false)).asI (vs.getD ((0 : Nat) +
     (↑i : Int).toNat * (9 : Nat) + (1 : Nat) + (1 : Nat) + (1 : Nat) + (1 : Nat) + (1 : Nat) + (1 : Nat) + (1 : Nat) + (1 : Nat)) (FV.b false)).asB)]).set j' (setI (ts.getD j' th0))))])] else none else
     none else none else none else none else none else none else none else none else none else none else none else none else none else none else none else none else none else none else none else none else
     none else none) (by kernel_rfl) (by simp only [-eq_self, Int.toNat_natCast, Nat.zero_add, swrap w1.1 w1.2]; exact (go_t (dec_t h1) (go_t (and_t (dec_t h2) (dec_t h1)) (go_t (blt_t h3) (go_t h4 (go_t (blt_t h5) (go_t h6 (go_t (blt_t h7) (go_t h8 (go_t (blt_t h9) (go_t h10 (go_t (blt_t h11) (go_t h12 (go_t (blt_t h13) (go_t h14 (go_t (blt_t h15) (go_t h16 (go_t (blt_t h17) (go_t h18 (go_t (blt_t h19) (go_t h20 (go_f h21 (go_f h22 (go_t (chk_t h23) (go_t (chk_t h24) (go_f (not_f (and_t (eqb_t h25) (and_t (and_t (eqb_t h26) (and_t (eqb_t h27) (and_t (eqb_t h28) (and_t (eqb_t h29) (and_t (eqb_t h30) (and_t (eqb_t h31) rfl)))))) rfl))) (go_t (chk_t h32) rfl)))))))))))))))))))))))))))
--CFEND
--CP p6cRS (w now a : Int) (t : Bool) (m : Ms) (n i cc j : Nat) (xs : List Int) (vs : List FV) (ts : List Th) (on : List Value → Heap → Out) (out : Exit → List Value → Heap → Out) :: roundK Try.prog ((S6c FCpyS (FDCpy ts) FEdgR FMsgR FWtS (FWaj ts j)).on [(55, true), (84, true), (132, false)]) noL Try.f6.ntmps 1 (loopOf Try.f6 0) live6 [.bool false, pt 1, pt 4, sl 0 n 2, w63 n, w63 i] [opsB n vs, PBe 2 w now t (pt 3), eB true xs, WB true a m, DBe 5 w ts.length cc, rowA true ts.length (flat ts)] on out
theorem p6cRS (w now a : Int) (t : Bool) (m : Ms) (n i cc j : Nat) (xs : List Int) (vs : List FV) (ts : List Th) (on : List Value → Heap → Out) (out : Exit → List Value → Heap → Out)
    (w1 : -9223372036854775808 ≤ (↑i : Int) + (1 : Int) ∧ (↑i : Int) + (1 : Int) ≤ 9223372036854775807 := by omega)
    (h1 : (↑i : Int) < (↑n : Int) := by first | omega | assumption | rfl)
    (h2 : (0 : Int) ≤ (↑i : Int) := by first | omega | assumption | rfl)
    (h3 : i * (9 : Nat) < n * (9 : Nat) := by first | omega | assumption | rfl)
    (h4 : (vs.getD (i * (9 : Nat)) (FV.b false)).isB = true := by first | omega | assumption | rfl)
    (h5 : i * (9 : Nat) + (1 : Nat) < n * (9 : Nat) := by first | omega | assumption | rfl)
    (h6 : (vs.getD (i * (9 : Nat) + (1 : Nat)) (FV.b false)).isB = true := by first | omega | assumption | rfl)
    (h7 : i * (9 : Nat) + (2 : Nat) < n * (9 : Nat) := by first | omega | assumption | rfl)
    (h8 : FV.isI IntKind.i64 (vs.getD (i * (9 : Nat) + (2 : Nat)) (FV.b false)) = true := by first | omega | assumption | rfl)
    (h9 : i * (9 : Nat) + (3 : Nat) < n * (9 : Nat) := by first | omega | assumption | rfl)
    (h10 : FV.isI IntKind.u8 (vs.getD (i * (9 : Nat) + (3 : Nat)) (FV.b false)) = true := by first | omega | assumption | rfl)
    (h11 : i * (9 : Nat) + (4 : Nat) < n * (9 : Nat) := by first | omega | assumption | rfl)
    (h12 : (vs.getD (i * (9 : Nat) + (4 : Nat)) (FV.b false)).isB = true := by first | omega | assumption | rfl)
    (h13 : i * (9 : Nat) + (5 : Nat) < n * (9 : Nat) := by first | omega | assumption | rfl)
    (h14 : FV.isI IntKind.i64 (vs.getD (i * (9 : Nat) + (5 : Nat)) (FV.b false)) = true := by first | omega | assumption | rfl)
    (h15 : i * (9 : Nat) + (6 : Nat) < n * (9 : Nat) := by first | omega | assumption | rfl)
    (h16 : (vs.getD (i * (9 : Nat) + (6 : Nat)) (FV.b false)).isB = true := by first | omega | assumption | rfl)
    (h17 : i * (9 : Nat) + (7 : Nat) < n * (9 : Nat) := by first | omega | assumption | rfl)
    (h18 : FV.isI IntKind.i64 (vs.getD (i * (9 : Nat) + (7 : Nat)) (FV.b false)) = true := by first | omega | assumption | rfl)
    (h19 : i * (9 : Nat) + (8 : Nat) < n * (9 : Nat) := by first | omega | assumption | rfl)
    (h20 : (vs.getD (i * (9 : Nat) + (8 : Nat)) (FV.b false)).isB = true := by first | omega | assumption | rfl)
    (h21 : (vs.getD (i * (9 : Nat) + (1 : Nat)) (FV.b false)).asB = true := by first | omega | assumption | rfl)
    (h22 : xs.length = (9 : Nat) := by first | omega | assumption | rfl)
    (h23 : (vs.getD (i * (9 : Nat) + (2 : Nat)) (FV.b false)).asI < now := by first | omega | assumption | rfl)
    (h24 : ts.length = ts.length ∧ ts.length * (10 : Nat) = ts.length * (10 : Nat) ∧ flat ts = flat ts ∧ ts.length ≤ (60 : Nat) := by first | omega | assumption | rfl | ((repeat' with_reducible apply And.intro) <;> first | rfl | assumption | omega))
    (h25 : ts.length = ts.length ∧ ts.length * (10 : Nat) = ts.length * (10 : Nat) ∧ flat ts = flat ts ∧ ts.length ≤ (60 : Nat) ∧ waitI ts = (↑j : Int) := by first | omega | assumption | rfl | ((repeat' with_reducible apply And.intro) <;> first | rfl | assumption | omega)) : roundK Try.prog ((S6c FCpyS (FDCpy ts) FEdgR FMsgR FWtS (FWaj ts j)).on [(55, true), (84, true), (132, false)]) noL Try.f6.ntmps 1 (loopOf Try.f6 0) live6 [.bool false, pt 1, pt 4, sl 0 n 2, w63 n, w63 i] [opsB n vs, PBe 2 w now t (pt 3), eB true xs, WB true a m, DBe 5 w ts.length cc, rowA true ts.length (flat ts)] on out =
     (on [Value.bool false, Value.pointer (some (Addr.mk (1 : Nat) (0 : Nat) none)), Value.pointer (some (Addr.mk (4 : Nat) (0 : Nat) none)), Value.slice (some (Addr.mk (0 : Nat) (0 : Nat) none)) n (2 :
     Nat), Value.int IntKind.i64 (↑n : Int), Value.int IntKind.i64 ((↑i : Int) + (1 : Int))] [some (Blk.mk false (9 : Nat) [Seg.any (n * (9 : Nat)) vs]), some (Blk.mk true (5 : Nat) [Seg.vals
     [Value.pointer (some (Addr.mk (2 : Nat) (0 : Nat) none))], Seg.ints IntKind.i64 (2 : Nat) [w, now], Seg.vals [Value.bool t, Value.pointer (some (Addr.mk (3 : Nat) (0 : Nat) none))]]), some (Blk.mk
     true (9 : Nat) [Seg.ints IntKind.i64 (9 : Nat) xs]), some (Blk.mk true (7 : Nat) [Seg.ints IntKind.i64 (1 : Nat) [a], Seg.ints IntKind.u8 (1 : Nat) [m.kd], Seg.vals [Value.bool m.u], Seg.ints
     IntKind.i64 (1 : Nat) [m.s], Seg.vals [Value.bool m.l], Seg.ints IntKind.i64 (1 : Nat) [m.c], Seg.vals [Value.bool m.n]]), some (Blk.mk true (2 : Nat) [Seg.ints IntKind.i64 (1 : Nat) [w], Seg.vals
     [Value.slice (some (Addr.mk (5 : Nat) (0 : Nat) none)) ts.length (1 : Nat)]]), some (Blk.mk true (10 : Nat) [Seg.any (ts.length * (10 : Nat)) (flat ts)])]) :=
  Eq.trans (b :=
     bif decide ((↑i : Int) < (↑n : Int)) then bif decide ((0 : Int) ≤ (↑i : Int)) && decide ((↑i : Int) < (↑n : Int)) then bif ((0 : Nat) + (↑i : Int).toNat * (9 : Nat)).blt (n * (9 : Nat)) then bif
     (vs.getD ((0 : Nat) + (↑i : Int).toNat * (9 : Nat)) (FV.b false)).isB then bif ((0 : Nat) + (↑i : Int).toNat * (9 : Nat) + (1 : Nat)).blt (n * (9 : Nat)) then bif (vs.getD ((0 : Nat) + (↑i :
     Int).toNat * (9 : Nat) + (1 : Nat)) (FV.b false)).isB then bif ((0 : Nat) + (↑i : Int).toNat * (9 : Nat) + (1 : Nat) + (1 : Nat)).blt (n * (9 : Nat)) then bif FV.isI IntKind.i64 (vs.getD ((0 : Nat) +
     (↑i : Int).toNat * (9 : Nat) + (1 : Nat) + (1 : Nat)) (FV.b false)) then bif ((0 : Nat) + (↑i : Int).toNat * (9 : Nat) + (1 : Nat) + (1 : Nat) + (1 : Nat)).blt (n * (9 : Nat)) then bif FV.isI
     IntKind.u8 (vs.getD ((0 : Nat) + (↑i : Int).toNat * (9 : Nat) + (1 : Nat) + (1 : Nat) + (1 : Nat)) (FV.b false)) then bif ((0 : Nat) + (↑i : Int).toNat * (9 : Nat) + (1 : Nat) + (1 : Nat) + (1 : Nat)
     + (1 : Nat)).blt (n * (9 : Nat)) then bif (vs.getD ((0 : Nat) + (↑i : Int).toNat * (9 : Nat) + (1 : Nat) + (1 : Nat) + (1 : Nat) + (1 : Nat)) (FV.b false)).isB then bif ((0 : Nat) + (↑i : Int).toNat *
     (9 : Nat) + (1 : Nat) + (1 : Nat) + (1 : Nat) + (1 : Nat) + (1 : Nat)).blt (n * (9 : Nat)) then bif FV.isI IntKind.i64 (vs.getD ((0 : Nat) + (↑i : Int).toNat * (9 : Nat) + (1 : Nat) + (1 : Nat) + (1 :
     Nat) + (1 : Nat) + (1 : Nat)) (FV.b false)) then bif ((0 : Nat) + (↑i : Int).toNat * (9 : Nat) + (1 : Nat) + (1 : Nat) + (1 : Nat) + (1 : Nat) + (1 : Nat) + (1 : Nat)).blt (n * (9 : Nat)) then bif
     (vs.getD ((0 : Nat) + (↑i : Int).toNat * (9 : Nat) + (1 : Nat) + (1 : Nat) + (1 : Nat) + (1 : Nat) + (1 : Nat) + (1 : Nat)) (FV.b false)).isB then bif ((0 : Nat) + (↑i : Int).toNat * (9 : Nat) + (1 :
     Nat) + (1 : Nat) + (1 : Nat) + (1 : Nat) + (1 : Nat) + (1 : Nat) + (1 : Nat)).blt (n * (9 : Nat)) then bif FV.isI IntKind.i64 (vs.getD ((0 : Nat) + (↑i : Int).toNat * (9 : Nat) + (1 : Nat) + (1 : Nat)
     + (1 : Nat) + (1 : Nat) + (1 : Nat) + (1 : Nat) + (1 : Nat)) (FV.b false)) then bif ((0 : Nat) + (↑i : Int).toNat * (9 : Nat) + (1 : Nat) + (1 : Nat) + (1 : Nat) + (1 : Nat) + (1 : Nat) + (1 : Nat) +
     (1 : Nat) + (1 : Nat)).blt (n * (9 : Nat)) then bif (vs.getD ((0 : Nat) + (↑i : Int).toNat * (9 : Nat) + (1 : Nat) + (1 : Nat) + (1 : Nat) + (1 : Nat) + (1 : Nat) + (1 : Nat) + (1 : Nat) + (1 : Nat))
     (FV.b false)).isB then bif (vs.getD ((0 : Nat) + (↑i : Int).toNat * (9 : Nat) + (1 : Nat)) (FV.b false)).asB then bif chk (xs.length = (9 : Nat)) then bif chk ((vs.getD ((0 : Nat) + (↑i : Int).toNat *
     (9 : Nat) + (1 : Nat) + (1 : Nat)) (FV.b false)).asI < now) then bif chk ((vs.getD ((0 : Nat) + (↑i : Int).toNat * (9 : Nat) + (1 : Nat) + (1 : Nat)) (FV.b false)).asI < now) then bif chk (ts.length =
     ts.length ∧ ts.length * (10 : Nat) = ts.length * (10 : Nat) ∧ flat ts = flat ts ∧ ts.length ≤ (60 : Nat)) then bif chk (ts.length = ts.length ∧ ts.length * (10 : Nat) = ts.length * (10 : Nat) ∧ flat
     ts = flat ts ∧ ts.length ≤ (60 : Nat) ∧ waitI ts = (↑j : Int)) then on [Value.bool false, Value.pointer (some (Addr.mk (1 : Nat) (0 : Nat) none)), Value.pointer (some (Addr.mk (4 : Nat) (0 : Nat)
     none)), Value.slice (some (Addr.mk (0 : Nat) (0 : Nat) none)) n (2 : Nat), Value.int IntKind.i64 (↑n : Int), Value.int IntKind.i64 (IntKind.i64.wrap ((↑i : Int) + (1 : Int)))] [some (Blk.mk false (9 :
     Nat) [Seg.any (n * (9 : Nat)) vs]), some (Blk.mk true (5 : Nat) [Seg.vals [Value.pointer (some (Addr.mk (2 : Nat) (0 : Nat) none))], Seg.ints IntKind.i64 (2 : Nat) [w, now], Seg.vals [Value.bool t,
     Value.pointer (some (Addr.mk (3 : Nat) (0 : Nat) none))]]), some (Blk.mk true (9 : Nat) [Seg.ints IntKind.i64 (9 : Nat) xs]), some (Blk.mk true (7 : Nat) [Seg.ints IntKind.i64 (1 : Nat) [a], Seg.ints
     IntKind.u8 (1 : Nat) [m.kd], Seg.vals [Value.bool m.u], Seg.ints IntKind.i64 (1 : Nat) [m.s], Seg.vals [Value.bool m.l], Seg.ints IntKind.i64 (1 : Nat) [m.c], Seg.vals [Value.bool m.n]]), some (Blk.mk
     true (2 : Nat) [Seg.ints IntKind.i64 (1 : Nat) [w], Seg.vals [Value.slice (some (Addr.mk (5 : Nat) (0 : Nat) none)) ts.length (1 : Nat)]]), some (Blk.mk true (10 : Nat) [Seg.any (ts.length * (10 :
     Nat)) (flat ts)])] else none else none else none else none else none else none else none else none else none else none else none else none else none else none else none else none else none else none
     else none else none else none else none else none else none else none else none) (by kernel_rfl) (by simp only [-eq_self, Int.toNat_natCast, Nat.zero_add, swrap w1.1 w1.2]; exact (go_t (dec_t h1) (go_t (and_t (dec_t h2) (dec_t h1)) (go_t (blt_t h3) (go_t h4 (go_t (blt_t h5) (go_t h6 (go_t (blt_t h7) (go_t h8 (go_t (blt_t h9) (go_t h10 (go_t (blt_t h11) (go_t h12 (go_t (blt_t h13) (go_t h14 (go_t (blt_t h15) (go_t h16 (go_t (blt_t h17) (go_t h18 (go_t (blt_t h19) (go_t h20 (go_t h21 (go_t (chk_t h22) (go_t (chk_t h23) (go_t (chk_t h23) (go_t (chk_t h24) (go_t (chk_t h25) rfl)))))))))))))))))))))))))))
--CFEND
--CP p6cON (w now a : Int) (t : Bool) (m : Ms) (n i cc j : Nat) (xs : List Int) (vs : List FV) (ts : List Th) (on : List Value → Heap → Out) (out : Exit → List Value → Heap → Out) :: roundK Try.prog ((S6c FCpyS (FDCpy ts) FEdgO FMsgN FWtS (FWaj ts j)).on [(55, true), (84, true), (132, false)]) noL Try.f6.ntmps 1 (loopOf Try.f6 0) live6 [.bool false, pt 1, pt 4, sl 0 n 2, w63 n, w63 i] [opsB n vs, PBe 2 w now t (pt 3), eB true xs, WB true a m, DBe 5 w ts.length cc, rowA true ts.length (flat ts)] on out
theorem p6cON (w now a : Int) (t : Bool) (m : Ms) (n i cc j : Nat) (xs : List Int) (vs : List FV) (ts : List Th) (on : List Value → Heap → Out) (out : Exit → List Value → Heap → Out)
    (w1 : -9223372036854775808 ≤ (↑i : Int) + (1 : Int) ∧ (↑i : Int) + (1 : Int) ≤ 9223372036854775807 := by omega)
    (h1 : (↑i : Int) < (↑n : Int) := by first | omega | assumption | rfl)
    (h2 : (0 : Int) ≤ (↑i : Int) := by first | omega | assumption | rfl)
    (h3 : i * (9 : Nat) < n * (9 : Nat) := by first | omega | assumption | rfl)
    (h4 : (vs.getD (i * (9 : Nat)) (FV.b false)).isB = true := by first | omega | assumption | rfl)
    (h5 : i * (9 : Nat) + (1 : Nat) < n * (9 : Nat) := by first | omega | assumption | rfl)
    (h6 : (vs.getD (i * (9 : Nat) + (1 : Nat)) (FV.b false)).isB = true := by first | omega | assumption | rfl)
    (h7 : i * (9 : Nat) + (2 : Nat) < n * (9 : Nat) := by first | omega | assumption | rfl)
    (h8 : FV.isI IntKind.i64 (vs.getD (i * (9 : Nat) + (2 : Nat)) (FV.b false)) = true := by first | omega | assumption | rfl)
    (h9 : i * (9 : Nat) + (3 : Nat) < n * (9 : Nat) := by first | omega | assumption | rfl)
    (h10 : FV.isI IntKind.u8 (vs.getD (i * (9 : Nat) + (3 : Nat)) (FV.b false)) = true := by first | omega | assumption | rfl)
    (h11 : i * (9 : Nat) + (4 : Nat) < n * (9 : Nat) := by first | omega | assumption | rfl)
    (h12 : (vs.getD (i * (9 : Nat) + (4 : Nat)) (FV.b false)).isB = true := by first | omega | assumption | rfl)
    (h13 : i * (9 : Nat) + (5 : Nat) < n * (9 : Nat) := by first | omega | assumption | rfl)
    (h14 : FV.isI IntKind.i64 (vs.getD (i * (9 : Nat) + (5 : Nat)) (FV.b false)) = true := by first | omega | assumption | rfl)
    (h15 : i * (9 : Nat) + (6 : Nat) < n * (9 : Nat) := by first | omega | assumption | rfl)
    (h16 : (vs.getD (i * (9 : Nat) + (6 : Nat)) (FV.b false)).isB = true := by first | omega | assumption | rfl)
    (h17 : i * (9 : Nat) + (7 : Nat) < n * (9 : Nat) := by first | omega | assumption | rfl)
    (h18 : FV.isI IntKind.i64 (vs.getD (i * (9 : Nat) + (7 : Nat)) (FV.b false)) = true := by first | omega | assumption | rfl)
    (h19 : i * (9 : Nat) + (8 : Nat) < n * (9 : Nat) := by first | omega | assumption | rfl)
    (h20 : (vs.getD (i * (9 : Nat) + (8 : Nat)) (FV.b false)).isB = true := by first | omega | assumption | rfl)
    (h21 : (vs.getD (i * (9 : Nat) + (1 : Nat)) (FV.b false)).asB = true := by first | omega | assumption | rfl)
    (h22 : xs.length = (9 : Nat) := by first | omega | assumption | rfl)
    (h23 : now ≤ (vs.getD (i * (9 : Nat) + (2 : Nat)) (FV.b false)).asI ∧ (0 : Int) ≤ xs.getD (8 : Nat) (0 : Int) ∧ xs.getD (8 : Nat) (0 : Int) ≤ (1000 : Int) ∧ lowB xs (vs.getD (i * (9 : Nat) + (2 : Nat)) (FV.b false)).asI = false ∧ (0 : Int) ≤ a ∧ a ≤ (vs.getD (i * (9 : Nat) + (2 : Nat)) (FV.b false)).asI ∧ w < (vs.getD (i * (9 : Nat) + (2 : Nat)) (FV.b false)).asI - a := by first | omega | assumption | rfl | ((repeat' with_reducible apply And.intro) <;> first | rfl | assumption | omega))
    (h24 : (vs.getD (i * (9 : Nat) + (2 : Nat)) (FV.b false)).asI ≤ (vs.getD (i * (9 : Nat) + (2 : Nat)) (FV.b false)).asI ∧ (vs.getD (i * (9 : Nat) + (8 : Nat)) (FV.b false)).asB = true := by first | omega | assumption | rfl | ((repeat' with_reducible apply And.intro) <;> first | rfl | assumption | omega))
    (h25 : ts.length = ts.length ∧ ts.length * (10 : Nat) = ts.length * (10 : Nat) ∧ flat ts = flat ts ∧ ts.length ≤ (60 : Nat) := by first | omega | assumption | rfl | ((repeat' with_reducible apply And.intro) <;> first | rfl | assumption | omega))
    (h26 : ts.length = ts.length ∧ ts.length * (10 : Nat) = ts.length * (10 : Nat) ∧ flat ts = flat ts ∧ ts.length ≤ (60 : Nat) ∧ waitI ts = (↑j : Int) := by first | omega | assumption | rfl | ((repeat' with_reducible apply And.intro) <;> first | rfl | assumption | omega)) : roundK Try.prog ((S6c FCpyS (FDCpy ts) FEdgO FMsgN FWtS (FWaj ts j)).on [(55, true), (84, true), (132, false)]) noL Try.f6.ntmps 1 (loopOf Try.f6 0) live6 [.bool false, pt 1, pt 4, sl 0 n 2, w63 n, w63 i] [opsB n vs, PBe 2 w now t (pt 3), eB true xs, WB true a m, DBe 5 w ts.length cc, rowA true ts.length (flat ts)] on out =
     (on [Value.bool false, Value.pointer (some (Addr.mk (1 : Nat) (0 : Nat) none)), Value.pointer (some (Addr.mk (4 : Nat) (0 : Nat) none)), Value.slice (some (Addr.mk (0 : Nat) (0 : Nat) none)) n (2 :
     Nat), Value.int IntKind.i64 (↑n : Int), Value.int IntKind.i64 ((↑i : Int) + (1 : Int))] [some (Blk.mk false (9 : Nat) [Seg.any (n * (9 : Nat)) vs]), some (Blk.mk true (5 : Nat) [Seg.vals
     [Value.pointer (some (Addr.mk (2 : Nat) (0 : Nat) none))], Seg.ints IntKind.i64 (2 : Nat) [w, now], Seg.vals [Value.bool t, Value.pointer (some (Addr.mk (3 : Nat) (0 : Nat) none))]]), some (Blk.mk
     true (9 : Nat) [Seg.ints IntKind.i64 (9 : Nat) xs]), some (Blk.mk true (7 : Nat) [Seg.ints IntKind.i64 (1 : Nat) [a], Seg.ints IntKind.u8 (1 : Nat) [m.kd], Seg.vals [Value.bool m.u], Seg.ints
     IntKind.i64 (1 : Nat) [m.s], Seg.vals [Value.bool m.l], Seg.ints IntKind.i64 (1 : Nat) [m.c], Seg.vals [Value.bool m.n]]), some (Blk.mk true (2 : Nat) [Seg.ints IntKind.i64 (1 : Nat) [w], Seg.vals
     [Value.slice (some (Addr.mk (5 : Nat) (0 : Nat) none)) ts.length (1 : Nat)]]), some (Blk.mk true (10 : Nat) [Seg.any (ts.length * (10 : Nat)) (flat ts)])]) :=
  Eq.trans (b :=
     bif decide ((↑i : Int) < (↑n : Int)) then bif decide ((0 : Int) ≤ (↑i : Int)) && decide ((↑i : Int) < (↑n : Int)) then bif ((0 : Nat) + (↑i : Int).toNat * (9 : Nat)).blt (n * (9 : Nat)) then bif
     (vs.getD ((0 : Nat) + (↑i : Int).toNat * (9 : Nat)) (FV.b false)).isB then bif ((0 : Nat) + (↑i : Int).toNat * (9 : Nat) + (1 : Nat)).blt (n * (9 : Nat)) then bif (vs.getD ((0 : Nat) + (↑i :
     Int).toNat * (9 : Nat) + (1 : Nat)) (FV.b false)).isB then bif ((0 : Nat) + (↑i : Int).toNat * (9 : Nat) + (1 : Nat) + (1 : Nat)).blt (n * (9 : Nat)) then bif FV.isI IntKind.i64 (vs.getD ((0 : Nat) +
     (↑i : Int).toNat * (9 : Nat) + (1 : Nat) + (1 : Nat)) (FV.b false)) then bif ((0 : Nat) + (↑i : Int).toNat * (9 : Nat) + (1 : Nat) + (1 : Nat) + (1 : Nat)).blt (n * (9 : Nat)) then bif FV.isI
     IntKind.u8 (vs.getD ((0 : Nat) + (↑i : Int).toNat * (9 : Nat) + (1 : Nat) + (1 : Nat) + (1 : Nat)) (FV.b false)) then bif ((0 : Nat) + (↑i : Int).toNat * (9 : Nat) + (1 : Nat) + (1 : Nat) + (1 : Nat)
     + (1 : Nat)).blt (n * (9 : Nat)) then bif (vs.getD ((0 : Nat) + (↑i : Int).toNat * (9 : Nat) + (1 : Nat) + (1 : Nat) + (1 : Nat) + (1 : Nat)) (FV.b false)).isB then bif ((0 : Nat) + (↑i : Int).toNat *
     (9 : Nat) + (1 : Nat) + (1 : Nat) + (1 : Nat) + (1 : Nat) + (1 : Nat)).blt (n * (9 : Nat)) then bif FV.isI IntKind.i64 (vs.getD ((0 : Nat) + (↑i : Int).toNat * (9 : Nat) + (1 : Nat) + (1 : Nat) + (1 :
     Nat) + (1 : Nat) + (1 : Nat)) (FV.b false)) then bif ((0 : Nat) + (↑i : Int).toNat * (9 : Nat) + (1 : Nat) + (1 : Nat) + (1 : Nat) + (1 : Nat) + (1 : Nat) + (1 : Nat)).blt (n * (9 : Nat)) then bif
     (vs.getD ((0 : Nat) + (↑i : Int).toNat * (9 : Nat) + (1 : Nat) + (1 : Nat) + (1 : Nat) + (1 : Nat) + (1 : Nat) + (1 : Nat)) (FV.b false)).isB then bif ((0 : Nat) + (↑i : Int).toNat * (9 : Nat) + (1 :
     Nat) + (1 : Nat) + (1 : Nat) + (1 : Nat) + (1 : Nat) + (1 : Nat) + (1 : Nat)).blt (n * (9 : Nat)) then bif FV.isI IntKind.i64 (vs.getD ((0 : Nat) + (↑i : Int).toNat * (9 : Nat) + (1 : Nat) + (1 : Nat)
     + (1 : Nat) + (1 : Nat) + (1 : Nat) + (1 : Nat) + (1 : Nat)) (FV.b false)) then bif ((0 : Nat) + (↑i : Int).toNat * (9 : Nat) + (1 : Nat) + (1 : Nat) + (1 : Nat) + (1 : Nat) + (1 : Nat) + (1 : Nat) +
     (1 : Nat) + (1 : Nat)).blt (n * (9 : Nat)) then bif (vs.getD ((0 : Nat) + (↑i : Int).toNat * (9 : Nat) + (1 : Nat) + (1 : Nat) + (1 : Nat) + (1 : Nat) + (1 : Nat) + (1 : Nat) + (1 : Nat) + (1 : Nat))
     (FV.b false)).isB then bif (vs.getD ((0 : Nat) + (↑i : Int).toNat * (9 : Nat) + (1 : Nat)) (FV.b false)).asB then bif chk (xs.length = (9 : Nat)) then bif chk (now ≤ (vs.getD ((0 : Nat) + (↑i :
     Int).toNat * (9 : Nat) + (1 : Nat) + (1 : Nat)) (FV.b false)).asI ∧ (0 : Int) ≤ xs.getD (8 : Nat) (0 : Int) ∧ xs.getD (8 : Nat) (0 : Int) ≤ (1000 : Int) ∧ lowB xs (vs.getD ((0 : Nat) + (↑i :
     Int).toNat * (9 : Nat) + (1 : Nat) + (1 : Nat)) (FV.b false)).asI = false ∧ (0 : Int) ≤ a ∧ a ≤ (vs.getD ((0 : Nat) + (↑i : Int).toNat * (9 : Nat) + (1 : Nat) + (1 : Nat)) (FV.b false)).asI ∧ w <
     (vs.getD ((0 : Nat) + (↑i : Int).toNat * (9 : Nat) + (1 : Nat) + (1 : Nat)) (FV.b false)).asI - a) then bif chk ((vs.getD ((0 : Nat) + (↑i : Int).toNat * (9 : Nat) + (1 : Nat) + (1 : Nat)) (FV.b
     false)).asI ≤ (vs.getD ((0 : Nat) + (↑i : Int).toNat * (9 : Nat) + (1 : Nat) + (1 : Nat)) (FV.b false)).asI ∧ (vs.getD ((0 : Nat) + (↑i : Int).toNat * (9 : Nat) + (1 : Nat) + (1 : Nat) + (1 : Nat) +
     (1 : Nat) + (1 : Nat) + (1 : Nat) + (1 : Nat) + (1 : Nat)) (FV.b false)).asB = true) then bif chk (ts.length = ts.length ∧ ts.length * (10 : Nat) = ts.length * (10 : Nat) ∧ flat ts = flat ts ∧
     ts.length ≤ (60 : Nat)) then bif chk (ts.length = ts.length ∧ ts.length * (10 : Nat) = ts.length * (10 : Nat) ∧ flat ts = flat ts ∧ ts.length ≤ (60 : Nat) ∧ waitI ts = (↑j : Int)) then on [Value.bool
     false, Value.pointer (some (Addr.mk (1 : Nat) (0 : Nat) none)), Value.pointer (some (Addr.mk (4 : Nat) (0 : Nat) none)), Value.slice (some (Addr.mk (0 : Nat) (0 : Nat) none)) n (2 : Nat), Value.int
     IntKind.i64 (↑n : Int), Value.int IntKind.i64 (IntKind.i64.wrap ((↑i : Int) + (1 : Int)))] [some (Blk.mk false (9 : Nat) [Seg.any (n * (9 : Nat)) vs]), some (Blk.mk true (5 : Nat) [Seg.vals
     [Value.pointer (some (Addr.mk (2 : Nat) (0 : Nat) none))], Seg.ints IntKind.i64 (2 : Nat) [w, now], Seg.vals [Value.bool t, Value.pointer (some (Addr.mk (3 : Nat) (0 : Nat) none))]]), some (Blk.mk
     true (9 : Nat) [Seg.ints IntKind.i64 (9 : Nat) xs]), some (Blk.mk true (7 : Nat) [Seg.ints IntKind.i64 (1 : Nat) [a], Seg.ints IntKind.u8 (1 : Nat) [m.kd], Seg.vals [Value.bool m.u], Seg.ints
     IntKind.i64 (1 : Nat) [m.s], Seg.vals [Value.bool m.l], Seg.ints IntKind.i64 (1 : Nat) [m.c], Seg.vals [Value.bool m.n]]), some (Blk.mk true (2 : Nat) [Seg.ints IntKind.i64 (1 : Nat) [w], Seg.vals
     [Value.slice (some (Addr.mk (5 : Nat) (0 : Nat) none)) ts.length (1 : Nat)]]), some (Blk.mk true (10 : Nat) [Seg.any (ts.length * (10 : Nat)) (flat ts)])] else none else none else none else none else
     none else none else none else none else none else none else none else none else none else none else none else none else none else none else none else none else none else none else none else none else
     none else none) (by kernel_rfl) (by simp only [-eq_self, Int.toNat_natCast, Nat.zero_add, swrap w1.1 w1.2]; exact (go_t (dec_t h1) (go_t (and_t (dec_t h2) (dec_t h1)) (go_t (blt_t h3) (go_t h4 (go_t (blt_t h5) (go_t h6 (go_t (blt_t h7) (go_t h8 (go_t (blt_t h9) (go_t h10 (go_t (blt_t h11) (go_t h12 (go_t (blt_t h13) (go_t h14 (go_t (blt_t h15) (go_t h16 (go_t (blt_t h17) (go_t h18 (go_t (blt_t h19) (go_t h20 (go_t h21 (go_t (chk_t h22) (go_t (chk_t h23) (go_t (chk_t h24) (go_t (chk_t h25) (go_t (chk_t h26) rfl)))))))))))))))))))))))))))
--CFEND
--CP p6cOX (w now a : Int) (t : Bool) (m : Ms) (n i cc j : Nat) (xs : List Int) (vs : List FV) (ts : List Th) (on : List Value → Heap → Out) (out : Exit → List Value → Heap → Out) :: roundK Try.prog ((S6c FCpyS (FDCpy ts) FEdgO FMsgX FWtS (FWaj ts j)).on [(55, true), (84, true), (132, false)]) noL Try.f6.ntmps 1 (loopOf Try.f6 0) live6 [.bool false, pt 1, pt 4, sl 0 n 2, w63 n, w63 i] [opsB n vs, PBe 2 w now t (pt 3), eB true xs, WB true a m, DBe 5 w ts.length cc, rowA true ts.length (flat ts)] on out
theorem p6cOX (w now a : Int) (t : Bool) (m : Ms) (n i cc j : Nat) (xs : List Int) (vs : List FV) (ts : List Th) (on : List Value → Heap → Out) (out : Exit → List Value → Heap → Out)
    (w1 : -9223372036854775808 ≤ (↑i : Int) + (1 : Int) ∧ (↑i : Int) + (1 : Int) ≤ 9223372036854775807 := by omega)
    (h1 : (↑i : Int) < (↑n : Int) := by first | omega | assumption | rfl)
    (h2 : (0 : Int) ≤ (↑i : Int) := by first | omega | assumption | rfl)
    (h3 : i * (9 : Nat) < n * (9 : Nat) := by first | omega | assumption | rfl)
    (h4 : (vs.getD (i * (9 : Nat)) (FV.b false)).isB = true := by first | omega | assumption | rfl)
    (h5 : i * (9 : Nat) + (1 : Nat) < n * (9 : Nat) := by first | omega | assumption | rfl)
    (h6 : (vs.getD (i * (9 : Nat) + (1 : Nat)) (FV.b false)).isB = true := by first | omega | assumption | rfl)
    (h7 : i * (9 : Nat) + (2 : Nat) < n * (9 : Nat) := by first | omega | assumption | rfl)
    (h8 : FV.isI IntKind.i64 (vs.getD (i * (9 : Nat) + (2 : Nat)) (FV.b false)) = true := by first | omega | assumption | rfl)
    (h9 : i * (9 : Nat) + (3 : Nat) < n * (9 : Nat) := by first | omega | assumption | rfl)
    (h10 : FV.isI IntKind.u8 (vs.getD (i * (9 : Nat) + (3 : Nat)) (FV.b false)) = true := by first | omega | assumption | rfl)
    (h11 : i * (9 : Nat) + (4 : Nat) < n * (9 : Nat) := by first | omega | assumption | rfl)
    (h12 : (vs.getD (i * (9 : Nat) + (4 : Nat)) (FV.b false)).isB = true := by first | omega | assumption | rfl)
    (h13 : i * (9 : Nat) + (5 : Nat) < n * (9 : Nat) := by first | omega | assumption | rfl)
    (h14 : FV.isI IntKind.i64 (vs.getD (i * (9 : Nat) + (5 : Nat)) (FV.b false)) = true := by first | omega | assumption | rfl)
    (h15 : i * (9 : Nat) + (6 : Nat) < n * (9 : Nat) := by first | omega | assumption | rfl)
    (h16 : (vs.getD (i * (9 : Nat) + (6 : Nat)) (FV.b false)).isB = true := by first | omega | assumption | rfl)
    (h17 : i * (9 : Nat) + (7 : Nat) < n * (9 : Nat) := by first | omega | assumption | rfl)
    (h18 : FV.isI IntKind.i64 (vs.getD (i * (9 : Nat) + (7 : Nat)) (FV.b false)) = true := by first | omega | assumption | rfl)
    (h19 : i * (9 : Nat) + (8 : Nat) < n * (9 : Nat) := by first | omega | assumption | rfl)
    (h20 : (vs.getD (i * (9 : Nat) + (8 : Nat)) (FV.b false)).isB = true := by first | omega | assumption | rfl)
    (h21 : (vs.getD (i * (9 : Nat) + (1 : Nat)) (FV.b false)).asB = true := by first | omega | assumption | rfl)
    (h22 : xs.length = (9 : Nat) := by first | omega | assumption | rfl)
    (h23 : now ≤ (vs.getD (i * (9 : Nat) + (2 : Nat)) (FV.b false)).asI ∧ (0 : Int) ≤ xs.getD (8 : Nat) (0 : Int) ∧ xs.getD (8 : Nat) (0 : Int) ≤ (1000 : Int) ∧ lowB xs (vs.getD (i * (9 : Nat) + (2 : Nat)) (FV.b false)).asI = false ∧ (0 : Int) ≤ a ∧ a ≤ (vs.getD (i * (9 : Nat) + (2 : Nat)) (FV.b false)).asI ∧ w < (vs.getD (i * (9 : Nat) + (2 : Nat)) (FV.b false)).asI - a := by first | omega | assumption | rfl | ((repeat' with_reducible apply And.intro) <;> first | rfl | assumption | omega))
    (h24 : (vs.getD (i * (9 : Nat) + (2 : Nat)) (FV.b false)).asI ≤ (vs.getD (i * (9 : Nat) + (2 : Nat)) (FV.b false)).asI ∧ (vs.getD (i * (9 : Nat) + (8 : Nat)) (FV.b false)).asB = false ∧ (0 : Int) ≤ (vs.getD (i * (9 : Nat) + (2 : Nat)) (FV.b false)).asI ∧ (0 : Int) ≤ w ∧ w ≤ (1000000000 : Int) ∧ (0 : Int) ≤ (pushR xs (vs.getD (i * (9 : Nat) + (2 : Nat)) (FV.b false)).asI).getD (8 : Nat) (0 : Int) ∧ (pushR xs (vs.getD (i * (9 : Nat) + (2 : Nat)) (FV.b false)).asI).getD (8 : Nat) (0 : Int) ≤ (1000 : Int) ∧ ((pushR xs (vs.getD (i * (9 : Nat) + (2 : Nat)) (FV.b false)).asI).getD (8 : Nat) (0 : Int) = (0 : Int) ∨ (0 : Int) ≤ lastR (pushR xs (vs.getD (i * (9 : Nat) + (2 : Nat)) (FV.b false)).asI) ∧ lastR (pushR xs (vs.getD (i * (9 : Nat) + (2 : Nat)) (FV.b false)).asI) ≤ (vs.getD (i * (9 : Nat) + (2 : Nat)) (FV.b false)).asI) ∧ ((pushR xs (vs.getD (i * (9 : Nat) + (2 : Nat)) (FV.b false)).asI).getD (8 : Nat) (0 : Int) = (0 : Int) ∨ false = true ∨ w < (vs.getD (i * (9 : Nat) + (2 : Nat)) (FV.b false)).asI - lastR (pushR xs (vs.getD (i * (9 : Nat) + (2 : Nat)) (FV.b false)).asI) ∨ cnt (allX (pushR xs (vs.getD (i * (9 : Nat) + (2 : Nat)) (FV.b false)).asI)) ((vs.getD (i * (9 : Nat) + (2 : Nat)) (FV.b false)).asI - w) (vs.getD (i * (9 : Nat) + (2 : Nat)) (FV.b false)).asI ≠ (1 : Nat)) := by first | omega | assumption | rfl | ((repeat' with_reducible apply And.intro) <;> first | rfl | assumption | omega))
    (h25 : ts.length = ts.length ∧ ts.length * (10 : Nat) = ts.length * (10 : Nat) ∧ flat ts = flat ts ∧ ts.length ≤ (60 : Nat) := by first | omega | assumption | rfl | ((repeat' with_reducible apply And.intro) <;> first | rfl | assumption | omega))
    (h26 : ts.length = ts.length ∧ ts.length * (10 : Nat) = ts.length * (10 : Nat) ∧ flat ts = flat ts ∧ ts.length ≤ (60 : Nat) ∧ waitI ts = (↑j : Int) := by first | omega | assumption | rfl | ((repeat' with_reducible apply And.intro) <;> first | rfl | assumption | omega)) : roundK Try.prog ((S6c FCpyS (FDCpy ts) FEdgO FMsgX FWtS (FWaj ts j)).on [(55, true), (84, true), (132, false)]) noL Try.f6.ntmps 1 (loopOf Try.f6 0) live6 [.bool false, pt 1, pt 4, sl 0 n 2, w63 n, w63 i] [opsB n vs, PBe 2 w now t (pt 3), eB true xs, WB true a m, DBe 5 w ts.length cc, rowA true ts.length (flat ts)] on out =
     (on [Value.bool false, Value.pointer (some (Addr.mk (1 : Nat) (0 : Nat) none)), Value.pointer (some (Addr.mk (4 : Nat) (0 : Nat) none)), Value.slice (some (Addr.mk (0 : Nat) (0 : Nat) none)) n (2 :
     Nat), Value.int IntKind.i64 (↑n : Int), Value.int IntKind.i64 ((↑i : Int) + (1 : Int))] [some (Blk.mk false (9 : Nat) [Seg.any (n * (9 : Nat)) vs]), some (Blk.mk true (5 : Nat) [Seg.vals
     [Value.pointer (some (Addr.mk (2 : Nat) (0 : Nat) none))], Seg.ints IntKind.i64 (2 : Nat) [w, now], Seg.vals [Value.bool t, Value.pointer (some (Addr.mk (3 : Nat) (0 : Nat) none))]]), some (Blk.mk
     true (9 : Nat) [Seg.ints IntKind.i64 (9 : Nat) xs]), some (Blk.mk true (7 : Nat) [Seg.ints IntKind.i64 (1 : Nat) [a], Seg.ints IntKind.u8 (1 : Nat) [m.kd], Seg.vals [Value.bool m.u], Seg.ints
     IntKind.i64 (1 : Nat) [m.s], Seg.vals [Value.bool m.l], Seg.ints IntKind.i64 (1 : Nat) [m.c], Seg.vals [Value.bool m.n]]), some (Blk.mk true (2 : Nat) [Seg.ints IntKind.i64 (1 : Nat) [w], Seg.vals
     [Value.slice (some (Addr.mk (5 : Nat) (0 : Nat) none)) ts.length (1 : Nat)]]), some (Blk.mk true (10 : Nat) [Seg.any (ts.length * (10 : Nat)) (flat ts)])]) :=
  Eq.trans (b :=
     bif decide ((↑i : Int) < (↑n : Int)) then bif decide ((0 : Int) ≤ (↑i : Int)) && decide ((↑i : Int) < (↑n : Int)) then bif ((0 : Nat) + (↑i : Int).toNat * (9 : Nat)).blt (n * (9 : Nat)) then bif
     (vs.getD ((0 : Nat) + (↑i : Int).toNat * (9 : Nat)) (FV.b false)).isB then bif ((0 : Nat) + (↑i : Int).toNat * (9 : Nat) + (1 : Nat)).blt (n * (9 : Nat)) then bif (vs.getD ((0 : Nat) + (↑i :
     Int).toNat * (9 : Nat) + (1 : Nat)) (FV.b false)).isB then bif ((0 : Nat) + (↑i : Int).toNat * (9 : Nat) + (1 : Nat) + (1 : Nat)).blt (n * (9 : Nat)) then bif FV.isI IntKind.i64 (vs.getD ((0 : Nat) +
     (↑i : Int).toNat * (9 : Nat) + (1 : Nat) + (1 : Nat)) (FV.b false)) then bif ((0 : Nat) + (↑i : Int).toNat * (9 : Nat) + (1 : Nat) + (1 : Nat) + (1 : Nat)).blt (n * (9 : Nat)) then bif FV.isI
     IntKind.u8 (vs.getD ((0 : Nat) + (↑i : Int).toNat * (9 : Nat) + (1 : Nat) + (1 : Nat) + (1 : Nat)) (FV.b false)) then bif ((0 : Nat) + (↑i : Int).toNat * (9 : Nat) + (1 : Nat) + (1 : Nat) + (1 : Nat)
     + (1 : Nat)).blt (n * (9 : Nat)) then bif (vs.getD ((0 : Nat) + (↑i : Int).toNat * (9 : Nat) + (1 : Nat) + (1 : Nat) + (1 : Nat) + (1 : Nat)) (FV.b false)).isB then bif ((0 : Nat) + (↑i : Int).toNat *
     (9 : Nat) + (1 : Nat) + (1 : Nat) + (1 : Nat) + (1 : Nat) + (1 : Nat)).blt (n * (9 : Nat)) then bif FV.isI IntKind.i64 (vs.getD ((0 : Nat) + (↑i : Int).toNat * (9 : Nat) + (1 : Nat) + (1 : Nat) + (1 :
     Nat) + (1 : Nat) + (1 : Nat)) (FV.b false)) then bif ((0 : Nat) + (↑i : Int).toNat * (9 : Nat) + (1 : Nat) + (1 : Nat) + (1 : Nat) + (1 : Nat) + (1 : Nat) + (1 : Nat)).blt (n * (9 : Nat)) then bif
     (vs.getD ((0 : Nat) + (↑i : Int).toNat * (9 : Nat) + (1 : Nat) + (1 : Nat) + (1 : Nat) + (1 : Nat) + (1 : Nat) + (1 : Nat)) (FV.b false)).isB then bif ((0 : Nat) + (↑i : Int).toNat * (9 : Nat) + (1 :
     Nat) + (1 : Nat) + (1 : Nat) + (1 : Nat) + (1 : Nat) + (1 : Nat) + (1 : Nat)).blt (n * (9 : Nat)) then bif FV.isI IntKind.i64 (vs.getD ((0 : Nat) + (↑i : Int).toNat * (9 : Nat) + (1 : Nat) + (1 : Nat)
     + (1 : Nat) + (1 : Nat) + (1 : Nat) + (1 : Nat) + (1 : Nat)) (FV.b false)) then bif ((0 : Nat) + (↑i : Int).toNat * (9 : Nat) + (1 : Nat) + (1 : Nat) + (1 : Nat) + (1 : Nat) + (1 : Nat) + (1 : Nat) +
     (1 : Nat) + (1 : Nat)).blt (n * (9 : Nat)) then bif (vs.getD ((0 : Nat) + (↑i : Int).toNat * (9 : Nat) + (1 : Nat) + (1 : Nat) + (1 : Nat) + (1 : Nat) + (1 : Nat) + (1 : Nat) + (1 : Nat) + (1 : Nat))
     (FV.b false)).isB then bif (vs.getD ((0 : Nat) + (↑i : Int).toNat * (9 : Nat) + (1 : Nat)) (FV.b false)).asB then bif chk (xs.length = (9 : Nat)) then bif chk (now ≤ (vs.getD ((0 : Nat) + (↑i :
     Int).toNat * (9 : Nat) + (1 : Nat) + (1 : Nat)) (FV.b false)).asI ∧ (0 : Int) ≤ xs.getD (8 : Nat) (0 : Int) ∧ xs.getD (8 : Nat) (0 : Int) ≤ (1000 : Int) ∧ lowB xs (vs.getD ((0 : Nat) + (↑i :
     Int).toNat * (9 : Nat) + (1 : Nat) + (1 : Nat)) (FV.b false)).asI = false ∧ (0 : Int) ≤ a ∧ a ≤ (vs.getD ((0 : Nat) + (↑i : Int).toNat * (9 : Nat) + (1 : Nat) + (1 : Nat)) (FV.b false)).asI ∧ w <
     (vs.getD ((0 : Nat) + (↑i : Int).toNat * (9 : Nat) + (1 : Nat) + (1 : Nat)) (FV.b false)).asI - a) then bif chk ((vs.getD ((0 : Nat) + (↑i : Int).toNat * (9 : Nat) + (1 : Nat) + (1 : Nat)) (FV.b
     false)).asI ≤ (vs.getD ((0 : Nat) + (↑i : Int).toNat * (9 : Nat) + (1 : Nat) + (1 : Nat)) (FV.b false)).asI ∧ (vs.getD ((0 : Nat) + (↑i : Int).toNat * (9 : Nat) + (1 : Nat) + (1 : Nat) + (1 : Nat) +
     (1 : Nat) + (1 : Nat) + (1 : Nat) + (1 : Nat) + (1 : Nat)) (FV.b false)).asB = false ∧ (0 : Int) ≤ (vs.getD ((0 : Nat) + (↑i : Int).toNat * (9 : Nat) + (1 : Nat) + (1 : Nat)) (FV.b false)).asI ∧ (0 :
     Int) ≤ w ∧ w ≤ (1000000000 : Int) ∧ (0 : Int) ≤ (pushR xs (vs.getD ((0 : Nat) + (↑i : Int).toNat * (9 : Nat) + (1 : Nat) + (1 : Nat)) (FV.b false)).asI).getD (8 : Nat) (0 : Int) ∧ (pushR xs (vs.getD
     ((0 : Nat) + (↑i : Int).toNat * (9 : Nat) + (1 : Nat) + (1 : Nat)) (FV.b false)).asI).getD (8 : Nat) (0 : Int) ≤ (1000 : Int) ∧ ((pushR xs (vs.getD ((0 : Nat) + (↑i : Int).toNat * (9 : Nat) + (1 :
     Nat) + (1 : Nat)) (FV.b false)).asI).getD (8 : Nat) (0 : Int) = (0 : Int) ∨ (0 : Int) ≤ lastR (pushR xs (vs.getD ((0 : Nat) + (↑i : Int).toNat * (9 : Nat) + (1 : Nat) + (1 : Nat)) (FV.b false)).asI) ∧
     lastR (pushR xs (vs.getD ((0 : Nat) + (↑i : Int).toNat * (9 : Nat) + (1 : Nat) + (1 : Nat)) (FV.b false)).asI) ≤ (vs.getD ((0 : Nat) + (↑i : Int).toNat * (9 : Nat) + (1 : Nat) + (1 : Nat)) (FV.b
     false)).asI) ∧ ((pushR xs (vs.getD ((0 : Nat) + (↑i : Int).toNat * (9 : Nat) + (1 : Nat) + (1 : Nat)) (FV.b false)).asI).getD (8 : Nat) (0 : Int) = (0 : Int) ∨ false = true ∨ w < (vs.getD ((0 : Nat) +
     (↑i : Int).toNat * (9 : Nat) + (1 : Nat) + (1 : Nat)) (FV.b false)).asI - lastR (pushR xs (vs.getD ((0 : Nat) + (↑i : Int).toNat * (9 : Nat) + (1 : Nat) + (1 : Nat)) (FV.b false)).asI) ∨ cnt (allX
     (pushR xs (vs.getD ((0 : Nat) + (↑i : Int).toNat * (9 : Nat) + (1 : Nat) + (1 : Nat)) (FV.b false)).asI)) ((vs.getD ((0 : Nat) + (↑i : Int).toNat * (9 : Nat) + (1 : Nat) + (1 : Nat)) (FV.b false)).asI
     - w) (vs.getD ((0 : Nat) + (↑i : Int).toNat * (9 : Nat) + (1 : Nat) + (1 : Nat)) (FV.b false)).asI ≠ (1 : Nat))) then bif chk (ts.length = ts.length ∧ ts.length * (10 : Nat) = ts.length * (10 : Nat) ∧
     flat ts = flat ts ∧ ts.length ≤ (60 : Nat)) then bif chk (ts.length = ts.length ∧ ts.length * (10 : Nat) = ts.length * (10 : Nat) ∧ flat ts = flat ts ∧ ts.length ≤ (60 : Nat) ∧ waitI ts = (↑j : Int))
     then on [Value.bool false, Value.pointer (some (Addr.mk (1 : Nat) (0 : Nat) none)), Value.pointer (some (Addr.mk (4 : Nat) (0 : Nat) none)), Value.slice (some (Addr.mk (0 : Nat) (0 : Nat) none)) n (2
     : Nat), Value.int IntKind.i64 (↑n : Int), Value.int IntKind.i64 (IntKind.i64.wrap ((↑i : Int) + (1 : Int)))] [some (Blk.mk false (9 : Nat) [Seg.any (n * (9 : Nat)) vs]), some (Blk.mk true (5 : Nat)
     [Seg.vals [Value.pointer (some (Addr.mk (2 : Nat) (0 : Nat) none))], Seg.ints IntKind.i64 (2 : Nat) [w, now], Seg.vals [Value.bool t, Value.pointer (some (Addr.mk (3 : Nat) (0 : Nat) none))]]), some
     (Blk.mk true (9 : Nat) [Seg.ints IntKind.i64 (9 : Nat) xs]), some (Blk.mk true (7 : Nat) [Seg.ints IntKind.i64 (1 : Nat) [a], Seg.ints IntKind.u8 (1 : Nat) [m.kd], Seg.vals [Value.bool m.u], Seg.ints
     IntKind.i64 (1 : Nat) [m.s], Seg.vals [Value.bool m.l], Seg.ints IntKind.i64 (1 : Nat) [m.c], Seg.vals [Value.bool m.n]]), some (Blk.mk true (2 : Nat) [Seg.ints IntKind.i64 (1 : Nat) [w], Seg.vals
     [Value.slice (some (Addr.mk (5 : Nat) (0 : Nat) none)) ts.length (1 : Nat)]]), some (Blk.mk true (10 : Nat) [Seg.any (ts.length * (10 : Nat)) (flat ts)])] else none else none else none else none else
     none else none else none else none else none else none else none else none else none else none else none else none else none else none else none else none else none else none else none else none else
     none else none) (by kernel_rfl) (by simp only [-eq_self, Int.toNat_natCast, Nat.zero_add, swrap w1.1 w1.2]; exact (go_t (dec_t h1) (go_t (and_t (dec_t h2) (dec_t h1)) (go_t (blt_t h3) (go_t h4 (go_t (blt_t h5) (go_t h6 (go_t (blt_t h7) (go_t h8 (go_t (blt_t h9) (go_t h10 (go_t (blt_t h11) (go_t h12 (go_t (blt_t h13) (go_t h14 (go_t (blt_t h15) (go_t h16 (go_t (blt_t h17) (go_t h18 (go_t (blt_t h19) (go_t h20 (go_t h21 (go_t (chk_t h22) (go_t (chk_t h23) (go_t (chk_t h24) (go_t (chk_t h25) (go_t (chk_t h26) rfl)))))))))))))))))))))))))))
--CFEND
--CP p6cOP (w now a : Int) (t : Bool) (m : Ms) (n i cc j : Nat) (xs : List Int) (vs : List FV) (ts : List Th) (on : List Value → Heap → Out) (out : Exit → List Value → Heap → Out) :: roundK Try.prog ((S6c FCpyS (FDCpy ts) FEdgO FMsgP FWtS (FWaj ts j)).on [(55, true), (84, true), (132, false)]) noL Try.f6.ntmps 1 (loopOf Try.f6 0) live6 [.bool false, pt 1, pt 4, sl 0 n 2, w63 n, w63 i] [opsB n vs, PBe 2 w now t (pt 3), eB true xs, WB true a m, DBe 5 w ts.length cc, rowA true ts.length (flat ts)] on out
theorem p6cOP (w now a : Int) (t : Bool) (m : Ms) (n i cc j : Nat) (xs : List Int) (vs : List FV) (ts : List Th) (on : List Value → Heap → Out) (out : Exit → List Value → Heap → Out)
    (w1 : -9223372036854775808 ≤ (↑i : Int) + (1 : Int) ∧ (↑i : Int) + (1 : Int) ≤ 9223372036854775807 := by omega)
    (h1 : (↑i : Int) < (↑n : Int) := by first | omega | assumption | rfl)
    (h2 : (0 : Int) ≤ (↑i : Int) := by first | omega | assumption | rfl)
    (h3 : i * (9 : Nat) < n * (9 : Nat) := by first | omega | assumption | rfl)
    (h4 : (vs.getD (i * (9 : Nat)) (FV.b false)).isB = true := by first | omega | assumption | rfl)
    (h5 : i * (9 : Nat) + (1 : Nat) < n * (9 : Nat) := by first | omega | assumption | rfl)
    (h6 : (vs.getD (i * (9 : Nat) + (1 : Nat)) (FV.b false)).isB = true := by first | omega | assumption | rfl)
    (h7 : i * (9 : Nat) + (2 : Nat) < n * (9 : Nat) := by first | omega | assumption | rfl)
    (h8 : FV.isI IntKind.i64 (vs.getD (i * (9 : Nat) + (2 : Nat)) (FV.b false)) = true := by first | omega | assumption | rfl)
    (h9 : i * (9 : Nat) + (3 : Nat) < n * (9 : Nat) := by first | omega | assumption | rfl)
    (h10 : FV.isI IntKind.u8 (vs.getD (i * (9 : Nat) + (3 : Nat)) (FV.b false)) = true := by first | omega | assumption | rfl)
    (h11 : i * (9 : Nat) + (4 : Nat) < n * (9 : Nat) := by first | omega | assumption | rfl)
    (h12 : (vs.getD (i * (9 : Nat) + (4 : Nat)) (FV.b false)).isB = true := by first | omega | assumption | rfl)
    (h13 : i * (9 : Nat) + (5 : Nat) < n * (9 : Nat) := by first | omega | assumption | rfl)
    (h14 : FV.isI IntKind.i64 (vs.getD (i * (9 : Nat) + (5 : Nat)) (FV.b false)) = true := by first | omega | assumption | rfl)
    (h15 : i * (9 : Nat) + (6 : Nat) < n * (9 : Nat) := by first | omega | assumption | rfl)
    (h16 : (vs.getD (i * (9 : Nat) + (6 : Nat)) (FV.b false)).isB = true := by first | omega | assumption | rfl)
    (h17 : i * (9 : Nat) + (7 : Nat) < n * (9 : Nat) := by first | omega | assumption | rfl)
    (h18 : FV.isI IntKind.i64 (vs.getD (i * (9 : Nat) + (7 : Nat)) (FV.b false)) = true := by first | omega | assumption | rfl)
    (h19 : i * (9 : Nat) + (8 : Nat) < n * (9 : Nat) := by first | omega | assumption | rfl)
    (h20 : (vs.getD (i * (9 : Nat) + (8 : Nat)) (FV.b false)).isB = true := by first | omega | assumption | rfl)
    (h21 : (vs.getD (i * (9 : Nat) + (1 : Nat)) (FV.b false)).asB = true := by first | omega | assumption | rfl)
    (h22 : xs.length = (9 : Nat) := by first | omega | assumption | rfl)
    (h23 : now ≤ (vs.getD (i * (9 : Nat) + (2 : Nat)) (FV.b false)).asI ∧ (0 : Int) ≤ xs.getD (8 : Nat) (0 : Int) ∧ xs.getD (8 : Nat) (0 : Int) ≤ (1000 : Int) ∧ lowB xs (vs.getD (i * (9 : Nat) + (2 : Nat)) (FV.b false)).asI = false ∧ (0 : Int) ≤ a ∧ a ≤ (vs.getD (i * (9 : Nat) + (2 : Nat)) (FV.b false)).asI ∧ w < (vs.getD (i * (9 : Nat) + (2 : Nat)) (FV.b false)).asI - a := by first | omega | assumption | rfl | ((repeat' with_reducible apply And.intro) <;> first | rfl | assumption | omega))
    (h24 : (vs.getD (i * (9 : Nat) + (2 : Nat)) (FV.b false)).asI ≤ (vs.getD (i * (9 : Nat) + (2 : Nat)) (FV.b false)).asI ∧ (vs.getD (i * (9 : Nat) + (8 : Nat)) (FV.b false)).asB = false ∧ (0 : Int) ≤ (vs.getD (i * (9 : Nat) + (2 : Nat)) (FV.b false)).asI ∧ (0 : Int) ≤ w ∧ w ≤ (1000000000 : Int) ∧ (0 : Int) ≤ (pushR xs (vs.getD (i * (9 : Nat) + (2 : Nat)) (FV.b false)).asI).getD (8 : Nat) (0 : Int) ∧ (pushR xs (vs.getD (i * (9 : Nat) + (2 : Nat)) (FV.b false)).asI).getD (8 : Nat) (0 : Int) ≤ (1000 : Int) ∧ ((pushR xs (vs.getD (i * (9 : Nat) + (2 : Nat)) (FV.b false)).asI).getD (8 : Nat) (0 : Int) = (0 : Int) ∨ (0 : Int) ≤ lastR (pushR xs (vs.getD (i * (9 : Nat) + (2 : Nat)) (FV.b false)).asI) ∧ lastR (pushR xs (vs.getD (i * (9 : Nat) + (2 : Nat)) (FV.b false)).asI) ≤ (vs.getD (i * (9 : Nat) + (2 : Nat)) (FV.b false)).asI) ∧ (pushR xs (vs.getD (i * (9 : Nat) + (2 : Nat)) (FV.b false)).asI).getD (8 : Nat) (0 : Int) ≠ (0 : Int) ∧ false = false ∧ (vs.getD (i * (9 : Nat) + (2 : Nat)) (FV.b false)).asI - lastR (pushR xs (vs.getD (i * (9 : Nat) + (2 : Nat)) (FV.b false)).asI) ≤ w ∧ cnt (allX (pushR xs (vs.getD (i * (9 : Nat) + (2 : Nat)) (FV.b false)).asI)) ((vs.getD (i * (9 : Nat) + (2 : Nat)) (FV.b false)).asI - w) (vs.getD (i * (9 : Nat) + (2 : Nat)) (FV.b false)).asI = (1 : Nat) := by first | omega | assumption | rfl | ((repeat' with_reducible apply And.intro) <;> first | rfl | assumption | omega))
    (h25 : ts.length = ts.length ∧ ts.length * (10 : Nat) = ts.length * (10 : Nat) ∧ flat ts = flat ts ∧ ts.length ≤ (60 : Nat) := by first | omega | assumption | rfl | ((repeat' with_reducible apply And.intro) <;> first | rfl | assumption | omega))
    (h26 : ts.length = ts.length ∧ ts.length * (10 : Nat) = ts.length * (10 : Nat) ∧ flat ts = flat ts ∧ ts.length ≤ (60 : Nat) ∧ waitI ts = (↑j : Int) := by first | omega | assumption | rfl | ((repeat' with_reducible apply And.intro) <;> first | rfl | assumption | omega)) : roundK Try.prog ((S6c FCpyS (FDCpy ts) FEdgO FMsgP FWtS (FWaj ts j)).on [(55, true), (84, true), (132, false)]) noL Try.f6.ntmps 1 (loopOf Try.f6 0) live6 [.bool false, pt 1, pt 4, sl 0 n 2, w63 n, w63 i] [opsB n vs, PBe 2 w now t (pt 3), eB true xs, WB true a m, DBe 5 w ts.length cc, rowA true ts.length (flat ts)] on out =
     (on [Value.bool false, Value.pointer (some (Addr.mk (1 : Nat) (0 : Nat) none)), Value.pointer (some (Addr.mk (4 : Nat) (0 : Nat) none)), Value.slice (some (Addr.mk (0 : Nat) (0 : Nat) none)) n (2 :
     Nat), Value.int IntKind.i64 (↑n : Int), Value.int IntKind.i64 ((↑i : Int) + (1 : Int))] [some (Blk.mk false (9 : Nat) [Seg.any (n * (9 : Nat)) vs]), some (Blk.mk true (5 : Nat) [Seg.vals
     [Value.pointer (some (Addr.mk (2 : Nat) (0 : Nat) none))], Seg.ints IntKind.i64 (2 : Nat) [w, now], Seg.vals [Value.bool t, Value.pointer (some (Addr.mk (3 : Nat) (0 : Nat) none))]]), some (Blk.mk
     true (9 : Nat) [Seg.ints IntKind.i64 (9 : Nat) xs]), some (Blk.mk true (7 : Nat) [Seg.ints IntKind.i64 (1 : Nat) [a], Seg.ints IntKind.u8 (1 : Nat) [m.kd], Seg.vals [Value.bool m.u], Seg.ints
     IntKind.i64 (1 : Nat) [m.s], Seg.vals [Value.bool m.l], Seg.ints IntKind.i64 (1 : Nat) [m.c], Seg.vals [Value.bool m.n]]), some (Blk.mk true (2 : Nat) [Seg.ints IntKind.i64 (1 : Nat) [w], Seg.vals
     [Value.slice (some (Addr.mk (5 : Nat) (0 : Nat) none)) ts.length (1 : Nat)]]), some (Blk.mk true (10 : Nat) [Seg.any (ts.length * (10 : Nat)) (flat ts)])]) :=
  Eq.trans (b :=
     bif decide ((↑i : Int) < (↑n : Int)) then bif decide ((0 : Int) ≤ (↑i : Int)) && decide ((↑i : Int) < (↑n : Int)) then bif ((0 : Nat) + (↑i : Int).toNat * (9 : Nat)).blt (n * (9 : Nat)) then bif
     (vs.getD ((0 : Nat) + (↑i : Int).toNat * (9 : Nat)) (FV.b false)).isB then bif ((0 : Nat) + (↑i : Int).toNat * (9 : Nat) + (1 : Nat)).blt (n * (9 : Nat)) then bif (vs.getD ((0 : Nat) + (↑i :
     Int).toNat * (9 : Nat) + (1 : Nat)) (FV.b false)).isB then bif ((0 : Nat) + (↑i : Int).toNat * (9 : Nat) + (1 : Nat) + (1 : Nat)).blt (n * (9 : Nat)) then bif FV.isI IntKind.i64 (vs.getD ((0 : Nat) +
     (↑i : Int).toNat * (9 : Nat) + (1 : Nat) + (1 : Nat)) (FV.b false)) then bif ((0 : Nat) + (↑i : Int).toNat * (9 : Nat) + (1 : Nat) + (1 : Nat) + (1 : Nat)).blt (n * (9 : Nat)) then bif FV.isI
     IntKind.u8 (vs.getD ((0 : Nat) + (↑i : Int).toNat * (9 : Nat) + (1 : Nat) + (1 : Nat) + (1 : Nat)) (FV.b false)) then bif ((0 : Nat) + (↑i : Int).toNat * (9 : Nat) + (1 : Nat) + (1 : Nat) + (1 : Nat)
     + (1 : Nat)).blt (n * (9 : Nat)) then bif (vs.getD ((0 : Nat) + (↑i : Int).toNat * (9 : Nat) + (1 : Nat) + (1 : Nat) + (1 : Nat) + (1 : Nat)) (FV.b false)).isB then bif ((0 : Nat) + (↑i : Int).toNat *
     (9 : Nat) + (1 : Nat) + (1 : Nat) + (1 : Nat) + (1 : Nat) + (1 : Nat)).blt (n * (9 : Nat)) then bif FV.isI IntKind.i64 (vs.getD ((0 : Nat) + (↑i : Int).toNat * (9 : Nat) + (1 : Nat) + (1 : Nat) + (1 :
     Nat) + (1 : Nat) + (1 : Nat)) (FV.b false)) then bif ((0 : Nat) + (↑i : Int).toNat * (9 : Nat) + (1 : Nat) + (1 : Nat) + (1 : Nat) + (1 : Nat) + (1 : Nat) + (1 : Nat)).blt (n * (9 : Nat)) then bif
     (vs.getD ((0 : Nat) + (↑i : Int).toNat * (9 : Nat) + (1 : Nat) + (1 : Nat) + (1 : Nat) + (1 : Nat) + (1 : Nat) + (1 : Nat)) (FV.b false)).isB then bif ((0 : Nat) + (↑i : Int).toNat * (9 : Nat) + (1 :
     Nat) + (1 : Nat) + (1 : Nat) + (1 : Nat) + (1 : Nat) + (1 : Nat) + (1 : Nat)).blt (n * (9 : Nat)) then bif FV.isI IntKind.i64 (vs.getD ((0 : Nat) + (↑i : Int).toNat * (9 : Nat) + (1 : Nat) + (1 : Nat)
     + (1 : Nat) + (1 : Nat) + (1 : Nat) + (1 : Nat) + (1 : Nat)) (FV.b false)) then bif ((0 : Nat) + (↑i : Int).toNat * (9 : Nat) + (1 : Nat) + (1 : Nat) + (1 : Nat) + (1 : Nat) + (1 : Nat) + (1 : Nat) +
     (1 : Nat) + (1 : Nat)).blt (n * (9 : Nat)) then bif (vs.getD ((0 : Nat) + (↑i : Int).toNat * (9 : Nat) + (1 : Nat) + (1 : Nat) + (1 : Nat) + (1 : Nat) + (1 : Nat) + (1 : Nat) + (1 : Nat) + (1 : Nat))
     (FV.b false)).isB then bif (vs.getD ((0 : Nat) + (↑i : Int).toNat * (9 : Nat) + (1 : Nat)) (FV.b false)).asB then bif chk (xs.length = (9 : Nat)) then bif chk (now ≤ (vs.getD ((0 : Nat) + (↑i :
     Int).toNat * (9 : Nat) + (1 : Nat) + (1 : Nat)) (FV.b false)).asI ∧ (0 : Int) ≤ xs.getD (8 : Nat) (0 : Int) ∧ xs.getD (8 : Nat) (0 : Int) ≤ (1000 : Int) ∧ lowB xs (vs.getD ((0 : Nat) + (↑i :
     Int).toNat * (9 : Nat) + (1 : Nat) + (1 : Nat)) (FV.b false)).asI = false ∧ (0 : Int) ≤ a ∧ a ≤ (vs.getD ((0 : Nat) + (↑i : Int).toNat * (9 : Nat) + (1 : Nat) + (1 : Nat)) (FV.b false)).asI ∧ w <
     (vs.getD ((0 : Nat) + (↑i : Int).toNat * (9 : Nat) + (1 : Nat) + (1 : Nat)) (FV.b false)).asI - a) then bif chk ((vs.getD ((0 : Nat) + (↑i : Int).toNat * (9 : Nat) + (1 : Nat) + (1 : Nat)) (FV.b
     false)).asI ≤ (vs.getD ((0 : Nat) + (↑i : Int).toNat * (9 : Nat) + (1 : Nat) + (1 : Nat)) (FV.b false)).asI ∧ (vs.getD ((0 : Nat) + (↑i : Int).toNat * (9 : Nat) + (1 : Nat) + (1 : Nat) + (1 : Nat) +
     (1 : Nat) + (1 : Nat) + (1 : Nat) + (1 : Nat) + (1 : Nat)) (FV.b false)).asB = false ∧ (0 : Int) ≤ (vs.getD ((0 : Nat) + (↑i : Int).toNat * (9 : Nat) + (1 : Nat) + (1 : Nat)) (FV.b false)).asI ∧ (0 :
     Int) ≤ w ∧ w ≤ (1000000000 : Int) ∧ (0 : Int) ≤ (pushR xs (vs.getD ((0 : Nat) + (↑i : Int).toNat * (9 : Nat) + (1 : Nat) + (1 : Nat)) (FV.b false)).asI).getD (8 : Nat) (0 : Int) ∧ (pushR xs (vs.getD
     ((0 : Nat) + (↑i : Int).toNat * (9 : Nat) + (1 : Nat) + (1 : Nat)) (FV.b false)).asI).getD (8 : Nat) (0 : Int) ≤ (1000 : Int) ∧ ((pushR xs (vs.getD ((0 : Nat) + (↑i : Int).toNat * (9 : Nat) + (1 :
     Nat) + (1 : Nat)) (FV.b false)).asI).getD (8 : Nat) (0 : Int) = (0 : Int) ∨ (0 : Int) ≤ lastR (pushR xs (vs.getD ((0 : Nat) + (↑i : Int).toNat * (9 : Nat) + (1 : Nat) + (1 : Nat)) (FV.b false)).asI) ∧
     lastR (pushR xs (vs.getD ((0 : Nat) + (↑i : Int).toNat * (9 : Nat) + (1 : Nat) + (1 : Nat)) (FV.b false)).asI) ≤ (vs.getD ((0 : Nat) + (↑i : Int).toNat * (9 : Nat) + (1 : Nat) + (1 : Nat)) (FV.b
     false)).asI) ∧ (pushR xs (vs.getD ((0 : Nat) + (↑i : Int).toNat * (9 : Nat) + (1 : Nat) + (1 : Nat)) (FV.b false)).asI).getD (8 : Nat) (0 : Int) ≠ (0 : Int) ∧ false = false ∧ (vs.getD ((0 : Nat) + (↑i
     : Int).toNat * (9 : Nat) + (1 : Nat) + (1 : Nat)) (FV.b false)).asI - lastR (pushR xs (vs.getD ((0 : Nat) + (↑i : Int).toNat * (9 : Nat) + (1 : Nat) + (1 : Nat)) (FV.b false)).asI) ≤ w ∧ cnt (allX
     (pushR xs (vs.getD ((0 : Nat) + (↑i : Int).toNat * (9 : Nat) + (1 : Nat) + (1 : Nat)) (FV.b false)).asI)) ((vs.getD ((0 : Nat) + (↑i : Int).toNat * (9 : Nat) + (1 : Nat) + (1 : Nat)) (FV.b false)).asI
     - w) (vs.getD ((0 : Nat) + (↑i : Int).toNat * (9 : Nat) + (1 : Nat) + (1 : Nat)) (FV.b false)).asI = (1 : Nat)) then bif chk (ts.length = ts.length ∧ ts.length * (10 : Nat) = ts.length * (10 : Nat) ∧
     flat ts = flat ts ∧ ts.length ≤ (60 : Nat)) then bif chk (ts.length = ts.length ∧ ts.length * (10 : Nat) = ts.length * (10 : Nat) ∧ flat ts = flat ts ∧ ts.length ≤ (60 : Nat) ∧ waitI ts = (↑j : Int))
     then on [Value.bool false, Value.pointer (some (Addr.mk (1 : Nat) (0 : Nat) none)), Value.pointer (some (Addr.mk (4 : Nat) (0 : Nat) none)), Value.slice (some (Addr.mk (0 : Nat) (0 : Nat) none)) n (2
     : Nat), Value.int IntKind.i64 (↑n : Int), Value.int IntKind.i64 (IntKind.i64.wrap ((↑i : Int) + (1 : Int)))] [some (Blk.mk false (9 : Nat) [Seg.any (n * (9 : Nat)) vs]), some (Blk.mk true (5 : Nat)
     [Seg.vals [Value.pointer (some (Addr.mk (2 : Nat) (0 : Nat) none))], Seg.ints IntKind.i64 (2 : Nat) [w, now], Seg.vals [Value.bool t, Value.pointer (some (Addr.mk (3 : Nat) (0 : Nat) none))]]), some
     (Blk.mk true (9 : Nat) [Seg.ints IntKind.i64 (9 : Nat) xs]), some (Blk.mk true (7 : Nat) [Seg.ints IntKind.i64 (1 : Nat) [a], Seg.ints IntKind.u8 (1 : Nat) [m.kd], Seg.vals [Value.bool m.u], Seg.ints
     IntKind.i64 (1 : Nat) [m.s], Seg.vals [Value.bool m.l], Seg.ints IntKind.i64 (1 : Nat) [m.c], Seg.vals [Value.bool m.n]]), some (Blk.mk true (2 : Nat) [Seg.ints IntKind.i64 (1 : Nat) [w], Seg.vals
     [Value.slice (some (Addr.mk (5 : Nat) (0 : Nat) none)) ts.length (1 : Nat)]]), some (Blk.mk true (10 : Nat) [Seg.any (ts.length * (10 : Nat)) (flat ts)])] else none else none else none else none else
     none else none else none else none else none else none else none else none else none else none else none else none else none else none else none else none else none else none else none else none else
     none else none) (by kernel_rfl) (by simp only [-eq_self, Int.toNat_natCast, Nat.zero_add, swrap w1.1 w1.2]; exact (go_t (dec_t h1) (go_t (and_t (dec_t h2) (dec_t h1)) (go_t (blt_t h3) (go_t h4 (go_t (blt_t h5) (go_t h6 (go_t (blt_t h7) (go_t h8 (go_t (blt_t h9) (go_t h10 (go_t (blt_t h11) (go_t h12 (go_t (blt_t h13) (go_t h14 (go_t (blt_t h15) (go_t h16 (go_t (blt_t h17) (go_t h18 (go_t (blt_t h19) (go_t h20 (go_t h21 (go_t (chk_t h22) (go_t (chk_t h23) (go_t (chk_t h24) (go_t (chk_t h25) (go_t (chk_t h26) rfl)))))))))))))))))))))))))))
--CFEND
--CP p6cIN (w now a : Int) (t : Bool) (m : Ms) (n i cc j : Nat) (xs : List Int) (vs : List FV) (ts : List Th) (on : List Value → Heap → Out) (out : Exit → List Value → Heap → Out) :: roundK Try.prog ((S6c FCpyS (FDCpy ts) FEdgI FMsgN FWtS (FWaj ts j)).on [(55, true), (84, true), (132, false)]) noL Try.f6.ntmps 1 (loopOf Try.f6 0) live6 [.bool false, pt 1, pt 4, sl 0 n 2, w63 n, w63 i] [opsB n vs, PBe 2 w now t (pt 3), eB true xs, WB true a m, DBe 5 w ts.length cc, rowA true ts.length (flat ts)] on out
theorem p6cIN (w now a : Int) (t : Bool) (m : Ms) (n i cc j : Nat) (xs : List Int) (vs : List FV) (ts : List Th) (on : List Value → Heap → Out) (out : Exit → List Value → Heap → Out)
    (w1 : -9223372036854775808 ≤ (↑i : Int) + (1 : Int) ∧ (↑i : Int) + (1 : Int) ≤ 9223372036854775807 := by omega)
    (h1 : (↑i : Int) < (↑n : Int) := by first | omega | assumption | rfl)
    (h2 : (0 : Int) ≤ (↑i : Int) := by first | omega | assumption | rfl)
    (h3 : i * (9 : Nat) < n * (9 : Nat) := by first | omega | assumption | rfl)
    (h4 : (vs.getD (i * (9 : Nat)) (FV.b false)).isB = true := by first | omega | assumption | rfl)
    (h5 : i * (9 : Nat) + (1 : Nat) < n * (9 : Nat) := by first | omega | assumption | rfl)
    (h6 : (vs.getD (i * (9 : Nat) + (1 : Nat)) (FV.b false)).isB = true := by first | omega | assumption | rfl)
    (h7 : i * (9 : Nat) + (2 : Nat) < n * (9 : Nat) := by first | omega | assumption | rfl)
    (h8 : FV.isI IntKind.i64 (vs.getD (i * (9 : Nat) + (2 : Nat)) (FV.b false)) = true := by first | omega | assumption | rfl)
    (h9 : i * (9 : Nat) + (3 : Nat) < n * (9 : Nat) := by first | omega | assumption | rfl)
    (h10 : FV.isI IntKind.u8 (vs.getD (i * (9 : Nat) + (3 : Nat)) (FV.b false)) = true := by first | omega | assumption | rfl)
    (h11 : i * (9 : Nat) + (4 : Nat) < n * (9 : Nat) := by first | omega | assumption | rfl)
    (h12 : (vs.getD (i * (9 : Nat) + (4 : Nat)) (FV.b false)).isB = true := by first | omega | assumption | rfl)
    (h13 : i * (9 : Nat) + (5 : Nat) < n * (9 : Nat) := by first | omega | assumption | rfl)
    (h14 : FV.isI IntKind.i64 (vs.getD (i * (9 : Nat) + (5 : Nat)) (FV.b false)) = true := by first | omega | assumption | rfl)
    (h15 : i * (9 : Nat) + (6 : Nat) < n * (9 : Nat) := by first | omega | assumption | rfl)
    (h16 : (vs.getD (i * (9 : Nat) + (6 : Nat)) (FV.b false)).isB = true := by first | omega | assumption | rfl)
    (h17 : i * (9 : Nat) + (7 : Nat) < n * (9 : Nat) := by first | omega | assumption | rfl)
    (h18 : FV.isI IntKind.i64 (vs.getD (i * (9 : Nat) + (7 : Nat)) (FV.b false)) = true := by first | omega | assumption | rfl)
    (h19 : i * (9 : Nat) + (8 : Nat) < n * (9 : Nat) := by first | omega | assumption | rfl)
    (h20 : (vs.getD (i * (9 : Nat) + (8 : Nat)) (FV.b false)).isB = true := by first | omega | assumption | rfl)
    (h21 : (vs.getD (i * (9 : Nat) + (1 : Nat)) (FV.b false)).asB = true := by first | omega | assumption | rfl)
    (h22 : xs.length = (9 : Nat) := by first | omega | assumption | rfl)
    (h23 : now ≤ (vs.getD (i * (9 : Nat) + (2 : Nat)) (FV.b false)).asI ∧ (0 : Int) ≤ xs.getD (8 : Nat) (0 : Int) ∧ xs.getD (8 : Nat) (0 : Int) ≤ (1000 : Int) ∧ lowB xs (vs.getD (i * (9 : Nat) + (2 : Nat)) (FV.b false)).asI = false ∧ (0 : Int) ≤ a ∧ a ≤ (vs.getD (i * (9 : Nat) + (2 : Nat)) (FV.b false)).asI ∧ (vs.getD (i * (9 : Nat) + (2 : Nat)) (FV.b false)).asI - a ≤ w := by first | omega | assumption | rfl | ((repeat' with_reducible apply And.intro) <;> first | rfl | assumption | omega))
    (h24 : (vs.getD (i * (9 : Nat) + (2 : Nat)) (FV.b false)).asI ≤ (vs.getD (i * (9 : Nat) + (2 : Nat)) (FV.b false)).asI ∧ (vs.getD (i * (9 : Nat) + (8 : Nat)) (FV.b false)).asB = true := by first | omega | assumption | rfl | ((repeat' with_reducible apply And.intro) <;> first | rfl | assumption | omega))
    (h25 : ts.length = ts.length ∧ ts.length * (10 : Nat) = ts.length * (10 : Nat) ∧ flat ts = flat ts ∧ ts.length ≤ (60 : Nat) := by first | omega | assumption | rfl | ((repeat' with_reducible apply And.intro) <;> first | rfl | assumption | omega))
    (h26 : ts.length = ts.length ∧ ts.length * (10 : Nat) = ts.length * (10 : Nat) ∧ flat ts = flat ts ∧ ts.length ≤ (60 : Nat) ∧ waitI ts = (↑j : Int) := by first | omega | assumption | rfl | ((repeat' with_reducible apply And.intro) <;> first | rfl | assumption | omega)) : roundK Try.prog ((S6c FCpyS (FDCpy ts) FEdgI FMsgN FWtS (FWaj ts j)).on [(55, true), (84, true), (132, false)]) noL Try.f6.ntmps 1 (loopOf Try.f6 0) live6 [.bool false, pt 1, pt 4, sl 0 n 2, w63 n, w63 i] [opsB n vs, PBe 2 w now t (pt 3), eB true xs, WB true a m, DBe 5 w ts.length cc, rowA true ts.length (flat ts)] on out =
     (on [Value.bool false, Value.pointer (some (Addr.mk (1 : Nat) (0 : Nat) none)), Value.pointer (some (Addr.mk (4 : Nat) (0 : Nat) none)), Value.slice (some (Addr.mk (0 : Nat) (0 : Nat) none)) n (2 :
     Nat), Value.int IntKind.i64 (↑n : Int), Value.int IntKind.i64 ((↑i : Int) + (1 : Int))] [some (Blk.mk false (9 : Nat) [Seg.any (n * (9 : Nat)) vs]), some (Blk.mk true (5 : Nat) [Seg.vals
     [Value.pointer (some (Addr.mk (2 : Nat) (0 : Nat) none))], Seg.ints IntKind.i64 (2 : Nat) [w, now], Seg.vals [Value.bool t, Value.pointer (some (Addr.mk (3 : Nat) (0 : Nat) none))]]), some (Blk.mk
     true (9 : Nat) [Seg.ints IntKind.i64 (9 : Nat) xs]), some (Blk.mk true (7 : Nat) [Seg.ints IntKind.i64 (1 : Nat) [a], Seg.ints IntKind.u8 (1 : Nat) [m.kd], Seg.vals [Value.bool m.u], Seg.ints
     IntKind.i64 (1 : Nat) [m.s], Seg.vals [Value.bool m.l], Seg.ints IntKind.i64 (1 : Nat) [m.c], Seg.vals [Value.bool m.n]]), some (Blk.mk true (2 : Nat) [Seg.ints IntKind.i64 (1 : Nat) [w], Seg.vals
     [Value.slice (some (Addr.mk (5 : Nat) (0 : Nat) none)) ts.length (1 : Nat)]]), some (Blk.mk true (10 : Nat) [Seg.any (ts.length * (10 : Nat)) (flat ts)])]) :=
  Eq.trans (b :=
     bif decide ((↑i : Int) < (↑n : Int)) then bif decide ((0 : Int) ≤ (↑i : Int)) && decide ((↑i : Int) < (↑n : Int)) then bif ((0 : Nat) + (↑i : Int).toNat * (9 : Nat)).blt (n * (9 : Nat)) then bif
     (vs.getD ((0 : Nat) + (↑i : Int).toNat * (9 : Nat)) (FV.b false)).isB then bif ((0 : Nat) + (↑i : Int).toNat * (9 : Nat) + (1 : Nat)).blt (n * (9 : Nat)) then bif (vs.getD ((0 : Nat) + (↑i :
     Int).toNat * (9 : Nat) + (1 : Nat)) (FV.b false)).isB then bif ((0 : Nat) + (↑i : Int).toNat * (9 : Nat) + (1 : Nat) + (1 : Nat)).blt (n * (9 : Nat)) then bif FV.isI IntKind.i64 (vs.getD ((0 : Nat) +
     (↑i : Int).toNat * (9 : Nat) + (1 : Nat) + (1 : Nat)) (FV.b false)) then bif ((0 : Nat) + (↑i : Int).toNat * (9 : Nat) + (1 : Nat) + (1 : Nat) + (1 : Nat)).blt (n * (9 : Nat)) then bif FV.isI
     IntKind.u8 (vs.getD ((0 : Nat) + (↑i : Int).toNat * (9 : Nat) + (1 : Nat) + (1 : Nat) + (1 : Nat)) (FV.b false)) then bif ((0 : Nat) + (↑i : Int).toNat * (9 : Nat) + (1 : Nat) + (1 : Nat) + (1 : Nat)
     + (1 : Nat)).blt (n * (9 : Nat)) then bif (vs.getD ((0 : Nat) + (↑i : Int).toNat * (9 : Nat) + (1 : Nat) + (1 : Nat) + (1 : Nat) + (1 : Nat)) (FV.b false)).isB then bif ((0 : Nat) + (↑i : Int).toNat *
     (9 : Nat) + (1 : Nat) + (1 : Nat) + (1 : Nat) + (1 : Nat) + (1 : Nat)).blt (n * (9 : Nat)) then bif FV.isI IntKind.i64 (vs.getD ((0 : Nat) + (↑i : Int).toNat * (9 : Nat) + (1 : Nat) + (1 : Nat) + (1 :
     Nat) + (1 : Nat) + (1 : Nat)) (FV.b false)) then bif ((0 : Nat) + (↑i : Int).toNat * (9 : Nat) + (1 : Nat) + (1 : Nat) + (1 : Nat) + (1 : Nat) + (1 : Nat) + (1 : Nat)).blt (n * (9 : Nat)) then bif
     (vs.getD ((0 : Nat) + (↑i : Int).toNat * (9 : Nat) + (1 : Nat) + (1 : Nat) + (1 : Nat) + (1 : Nat) + (1 : Nat) + (1 : Nat)) (FV.b false)).isB then bif ((0 : Nat) + (↑i : Int).toNat * (9 : Nat) + (1 :
     Nat) + (1 : Nat) + (1 : Nat) + (1 : Nat) + (1 : Nat) + (1 : Nat) + (1 : Nat)).blt (n * (9 : Nat)) then bif FV.isI IntKind.i64 (vs.getD ((0 : Nat) + (↑i : Int).toNat * (9 : Nat) + (1 : Nat) + (1 : Nat)
     + (1 : Nat) + (1 : Nat) + (1 : Nat) + (1 : Nat) + (1 : Nat)) (FV.b false)) then bif ((0 : Nat) + (↑i : Int).toNat * (9 : Nat) + (1 : Nat) + (1 : Nat) + (1 : Nat) + (1 : Nat) + (1 : Nat) + (1 : Nat) +
     (1 : Nat) + (1 : Nat)).blt (n * (9 : Nat)) then bif (vs.getD ((0 : Nat) + (↑i : Int).toNat * (9 : Nat) + (1 : Nat) + (1 : Nat) + (1 : Nat) + (1 : Nat) + (1 : Nat) + (1 : Nat) + (1 : Nat) + (1 : Nat))
     (FV.b false)).isB then bif (vs.getD ((0 : Nat) + (↑i : Int).toNat * (9 : Nat) + (1 : Nat)) (FV.b false)).asB then bif chk (xs.length = (9 : Nat)) then bif chk (now ≤ (vs.getD ((0 : Nat) + (↑i :
     Int).toNat * (9 : Nat) + (1 : Nat) + (1 : Nat)) (FV.b false)).asI ∧ (0 : Int) ≤ xs.getD (8 : Nat) (0 : Int) ∧ xs.getD (8 : Nat) (0 : Int) ≤ (1000 : Int) ∧ lowB xs (vs.getD ((0 : Nat) + (↑i :
     Int).toNat * (9 : Nat) + (1 : Nat) + (1 : Nat)) (FV.b false)).asI = false ∧ (0 : Int) ≤ a ∧ a ≤ (vs.getD ((0 : Nat) + (↑i : Int).toNat * (9 : Nat) + (1 : Nat) + (1 : Nat)) (FV.b false)).asI ∧ (vs.getD
     ((0 : Nat) + (↑i : Int).toNat * (9 : Nat) + (1 : Nat) + (1 : Nat)) (FV.b false)).asI - a ≤ w) then bif chk ((vs.getD ((0 : Nat) + (↑i : Int).toNat * (9 : Nat) + (1 : Nat) + (1 : Nat)) (FV.b
     false)).asI ≤ (vs.getD ((0 : Nat) + (↑i : Int).toNat * (9 : Nat) + (1 : Nat) + (1 : Nat)) (FV.b false)).asI ∧ (vs.getD ((0 : Nat) + (↑i : Int).toNat * (9 : Nat) + (1 : Nat) + (1 : Nat) + (1 : Nat) +
     (1 : Nat) + (1 : Nat) + (1 : Nat) + (1 : Nat) + (1 : Nat)) (FV.b false)).asB = true) then bif chk (ts.length = ts.length ∧ ts.length * (10 : Nat) = ts.length * (10 : Nat) ∧ flat ts = flat ts ∧
     ts.length ≤ (60 : Nat)) then bif chk (ts.length = ts.length ∧ ts.length * (10 : Nat) = ts.length * (10 : Nat) ∧ flat ts = flat ts ∧ ts.length ≤ (60 : Nat) ∧ waitI ts = (↑j : Int)) then on [Value.bool
     false, Value.pointer (some (Addr.mk (1 : Nat) (0 : Nat) none)), Value.pointer (some (Addr.mk (4 : Nat) (0 : Nat) none)), Value.slice (some (Addr.mk (0 : Nat) (0 : Nat) none)) n (2 : Nat), Value.int
     IntKind.i64 (↑n : Int), Value.int IntKind.i64 (IntKind.i64.wrap ((↑i : Int) + (1 : Int)))] [some (Blk.mk false (9 : Nat) [Seg.any (n * (9 : Nat)) vs]), some (Blk.mk true (5 : Nat) [Seg.vals
     [Value.pointer (some (Addr.mk (2 : Nat) (0 : Nat) none))], Seg.ints IntKind.i64 (2 : Nat) [w, now], Seg.vals [Value.bool t, Value.pointer (some (Addr.mk (3 : Nat) (0 : Nat) none))]]), some (Blk.mk
     true (9 : Nat) [Seg.ints IntKind.i64 (9 : Nat) xs]), some (Blk.mk true (7 : Nat) [Seg.ints IntKind.i64 (1 : Nat) [a], Seg.ints IntKind.u8 (1 : Nat) [m.kd], Seg.vals [Value.bool m.u], Seg.ints
     IntKind.i64 (1 : Nat) [m.s], Seg.vals [Value.bool m.l], Seg.ints IntKind.i64 (1 : Nat) [m.c], Seg.vals [Value.bool m.n]]), some (Blk.mk true (2 : Nat) [Seg.ints IntKind.i64 (1 : Nat) [w], Seg.vals
     [Value.slice (some (Addr.mk (5 : Nat) (0 : Nat) none)) ts.length (1 : Nat)]]), some (Blk.mk true (10 : Nat) [Seg.any (ts.length * (10 : Nat)) (flat ts)])] else none else none else none else none else
     none else none else none else none else none else none else none else none else none else none else none else none else none else none else none else none else none else none else none else none else
     none else none) (by kernel_rfl) (by simp only [-eq_self, Int.toNat_natCast, Nat.zero_add, swrap w1.1 w1.2]; exact (go_t (dec_t h1) (go_t (and_t (dec_t h2) (dec_t h1)) (go_t (blt_t h3) (go_t h4 (go_t (blt_t h5) (go_t h6 (go_t (blt_t h7) (go_t h8 (go_t (blt_t h9) (go_t h10 (go_t (blt_t h11) (go_t h12 (go_t (blt_t h13) (go_t h14 (go_t (blt_t h15) (go_t h16 (go_t (blt_t h17) (go_t h18 (go_t (blt_t h19) (go_t h20 (go_t h21 (go_t (chk_t h22) (go_t (chk_t h23) (go_t (chk_t h24) (go_t (chk_t h25) (go_t (chk_t h26) rfl)))))))))))))))))))))))))))
--CFEND
--CP p6cIX (w now a : Int) (t : Bool) (m : Ms) (n i cc j : Nat) (xs : List Int) (vs : List FV) (ts : List Th) (on : List Value → Heap → Out) (out : Exit → List Value → Heap → Out) :: roundK Try.prog ((S6c FCpyS (FDCpy ts) FEdgI FMsgX FWtS (FWaj ts j)).on [(55, true), (84, true), (132, false)]) noL Try.f6.ntmps 1 (loopOf Try.f6 0) live6 [.bool false, pt 1, pt 4, sl 0 n 2, w63 n, w63 i] [opsB n vs, PBe 2 w now t (pt 3), eB true xs, WB true a m, DBe 5 w ts.length cc, rowA true ts.length (flat ts)] on out
theorem p6cIX (w now a : Int) (t : Bool) (m : Ms) (n i cc j : Nat) (xs : List Int) (vs : List FV) (ts : List Th) (on : List Value → Heap → Out) (out : Exit → List Value → Heap → Out)
    (w1 : -9223372036854775808 ≤ (↑i : Int) + (1 : Int) ∧ (↑i : Int) + (1 : Int) ≤ 9223372036854775807 := by omega)
    (h1 : (↑i : Int) < (↑n : Int) := by first | omega | assumption | rfl)
    (h2 : (0 : Int) ≤ (↑i : Int) := by first | omega | assumption | rfl)
    (h3 : i * (9 : Nat) < n * (9 : Nat) := by first | omega | assumption | rfl)
    (h4 : (vs.getD (i * (9 : Nat)) (FV.b false)).isB = true := by first | omega | assumption | rfl)
    (h5 : i * (9 : Nat) + (1 : Nat) < n * (9 : Nat) := by first | omega | assumption | rfl)
    (h6 : (vs.getD (i * (9 : Nat) + (1 : Nat)) (FV.b false)).isB = true := by first | omega | assumption | rfl)
    (h7 : i * (9 : Nat) + (2 : Nat) < n * (9 : Nat) := by first | omega | assumption | rfl)
    (h8 : FV.isI IntKind.i64 (vs.getD (i * (9 : Nat) + (2 : Nat)) (FV.b false)) = true := by first | omega | assumption | rfl)
    (h9 : i * (9 : Nat) + (3 : Nat) < n * (9 : Nat) := by first | omega | assumption | rfl)
    (h10 : FV.isI IntKind.u8 (vs.getD (i * (9 : Nat) + (3 : Nat)) (FV.b false)) = true := by first | omega | assumption | rfl)
    (h11 : i * (9 : Nat) + (4 : Nat) < n * (9 : Nat) := by first | omega | assumption | rfl)
    (h12 : (vs.getD (i * (9 : Nat) + (4 : Nat)) (FV.b false)).isB = true := by first | omega | assumption | rfl)
    (h13 : i * (9 : Nat) + (5 : Nat) < n * (9 : Nat) := by first | omega | assumption | rfl)
    (h14 : FV.isI IntKind.i64 (vs.getD (i * (9 : Nat) + (5 : Nat)) (FV.b false)) = true := by first | omega | assumption | rfl)
    (h15 : i * (9 : Nat) + (6 : Nat) < n * (9 : Nat) := by first | omega | assumption | rfl)
    (h16 : (vs.getD (i * (9 : Nat) + (6 : Nat)) (FV.b false)).isB = true := by first | omega | assumption | rfl)
    (h17 : i * (9 : Nat) + (7 : Nat) < n * (9 : Nat) := by first | omega | assumption | rfl)
    (h18 : FV.isI IntKind.i64 (vs.getD (i * (9 : Nat) + (7 : Nat)) (FV.b false)) = true := by first | omega | assumption | rfl)
    (h19 : i * (9 : Nat) + (8 : Nat) < n * (9 : Nat) := by first | omega | assumption | rfl)
    (h20 : (vs.getD (i * (9 : Nat) + (8 : Nat)) (FV.b false)).isB = true := by first | omega | assumption | rfl)
    (h21 : (vs.getD (i * (9 : Nat) + (1 : Nat)) (FV.b false)).asB = true := by first | omega | assumption | rfl)
    (h22 : xs.length = (9 : Nat) := by first | omega | assumption | rfl)
    (h23 : now ≤ (vs.getD (i * (9 : Nat) + (2 : Nat)) (FV.b false)).asI ∧ (0 : Int) ≤ xs.getD (8 : Nat) (0 : Int) ∧ xs.getD (8 : Nat) (0 : Int) ≤ (1000 : Int) ∧ lowB xs (vs.getD (i * (9 : Nat) + (2 : Nat)) (FV.b false)).asI = false ∧ (0 : Int) ≤ a ∧ a ≤ (vs.getD (i * (9 : Nat) + (2 : Nat)) (FV.b false)).asI ∧ (vs.getD (i * (9 : Nat) + (2 : Nat)) (FV.b false)).asI - a ≤ w := by first | omega | assumption | rfl | ((repeat' with_reducible apply And.intro) <;> first | rfl | assumption | omega))
    (h24 : (vs.getD (i * (9 : Nat) + (2 : Nat)) (FV.b false)).asI ≤ (vs.getD (i * (9 : Nat) + (2 : Nat)) (FV.b false)).asI ∧ (vs.getD (i * (9 : Nat) + (8 : Nat)) (FV.b false)).asB = false ∧ (0 : Int) ≤ (vs.getD (i * (9 : Nat) + (2 : Nat)) (FV.b false)).asI ∧ (0 : Int) ≤ w ∧ w ≤ (1000000000 : Int) ∧ (0 : Int) ≤ (pushR xs (vs.getD (i * (9 : Nat) + (2 : Nat)) (FV.b false)).asI).getD (8 : Nat) (0 : Int) ∧ (pushR xs (vs.getD (i * (9 : Nat) + (2 : Nat)) (FV.b false)).asI).getD (8 : Nat) (0 : Int) ≤ (1000 : Int) ∧ ((pushR xs (vs.getD (i * (9 : Nat) + (2 : Nat)) (FV.b false)).asI).getD (8 : Nat) (0 : Int) = (0 : Int) ∨ (0 : Int) ≤ lastR (pushR xs (vs.getD (i * (9 : Nat) + (2 : Nat)) (FV.b false)).asI) ∧ lastR (pushR xs (vs.getD (i * (9 : Nat) + (2 : Nat)) (FV.b false)).asI) ≤ (vs.getD (i * (9 : Nat) + (2 : Nat)) (FV.b false)).asI) ∧ ((pushR xs (vs.getD (i * (9 : Nat) + (2 : Nat)) (FV.b false)).asI).getD (8 : Nat) (0 : Int) = (0 : Int) ∨ true = true ∨ w < (vs.getD (i * (9 : Nat) + (2 : Nat)) (FV.b false)).asI - lastR (pushR xs (vs.getD (i * (9 : Nat) + (2 : Nat)) (FV.b false)).asI) ∨ cnt (allX (pushR xs (vs.getD (i * (9 : Nat) + (2 : Nat)) (FV.b false)).asI)) ((vs.getD (i * (9 : Nat) + (2 : Nat)) (FV.b false)).asI - w) (vs.getD (i * (9 : Nat) + (2 : Nat)) (FV.b false)).asI ≠ (1 : Nat)) := by first | omega | assumption | rfl | ((repeat' with_reducible apply And.intro) <;> first | rfl | assumption | omega))
    (h25 : ts.length = ts.length ∧ ts.length * (10 : Nat) = ts.length * (10 : Nat) ∧ flat ts = flat ts ∧ ts.length ≤ (60 : Nat) := by first | omega | assumption | rfl | ((repeat' with_reducible apply And.intro) <;> first | rfl | assumption | omega))
    (h26 : ts.length = ts.length ∧ ts.length * (10 : Nat) = ts.length * (10 : Nat) ∧ flat ts = flat ts ∧ ts.length ≤ (60 : Nat) ∧ waitI ts = (↑j : Int) := by first | omega | assumption | rfl | ((repeat' with_reducible apply And.intro) <;> first | rfl | assumption | omega)) : roundK Try.prog ((S6c FCpyS (FDCpy ts) FEdgI FMsgX FWtS (FWaj ts j)).on [(55, true), (84, true), (132, false)]) noL Try.f6.ntmps 1 (loopOf Try.f6 0) live6 [.bool false, pt 1, pt 4, sl 0 n 2, w63 n, w63 i] [opsB n vs, PBe 2 w now t (pt 3), eB true xs, WB true a m, DBe 5 w ts.length cc, rowA true ts.length (flat ts)] on out =
     (on [Value.bool false, Value.pointer (some (Addr.mk (1 : Nat) (0 : Nat) none)), Value.pointer (some (Addr.mk (4 : Nat) (0 : Nat) none)), Value.slice (some (Addr.mk (0 : Nat) (0 : Nat) none)) n (2 :
     Nat), Value.int IntKind.i64 (↑n : Int), Value.int IntKind.i64 ((↑i : Int) + (1 : Int))] [some (Blk.mk false (9 : Nat) [Seg.any (n * (9 : Nat)) vs]), some (Blk.mk true (5 : Nat) [Seg.vals
     [Value.pointer (some (Addr.mk (2 : Nat) (0 : Nat) none))], Seg.ints IntKind.i64 (2 : Nat) [w, now], Seg.vals [Value.bool t, Value.pointer (some (Addr.mk (3 : Nat) (0 : Nat) none))]]), some (Blk.mk
     true (9 : Nat) [Seg.ints IntKind.i64 (9 : Nat) xs]), some (Blk.mk true (7 : Nat) [Seg.ints IntKind.i64 (1 : Nat) [a], Seg.ints IntKind.u8 (1 : Nat) [m.kd], Seg.vals [Value.bool m.u], Seg.ints
     IntKind.i64 (1 : Nat) [m.s], Seg.vals [Value.bool m.l], Seg.ints IntKind.i64 (1 : Nat) [m.c], Seg.vals [Value.bool m.n]]), some (Blk.mk true (2 : Nat) [Seg.ints IntKind.i64 (1 : Nat) [w], Seg.vals
     [Value.slice (some (Addr.mk (5 : Nat) (0 : Nat) none)) ts.length (1 : Nat)]]), some (Blk.mk true (10 : Nat) [Seg.any (ts.length * (10 : Nat)) (flat ts)])]) :=
  Eq.trans (b :=
     bif decide ((↑i : Int) < (↑n : Int)) then bif decide ((0 : Int) ≤ (↑i : Int)) && decide ((↑i : Int) < (↑n : Int)) then bif ((0 : Nat) + (↑i : Int).toNat * (9 : Nat)).blt (n * (9 : Nat)) then bif
     (vs.getD ((0 : Nat) + (↑i : Int).toNat * (9 : Nat)) (FV.b false)).isB then bif ((0 : Nat) + (↑i : Int).toNat * (9 : Nat) + (1 : Nat)).blt (n * (9 : Nat)) then bif (vs.getD ((0 : Nat) + (↑i :
     Int).toNat * (9 : Nat) + (1 : Nat)) (FV.b false)).isB then bif ((0 : Nat) + (↑i : Int).toNat * (9 : Nat) + (1 : Nat) + (1 : Nat)).blt (n * (9 : Nat)) then bif FV.isI IntKind.i64 (vs.getD ((0 : Nat) +
     (↑i : Int).toNat * (9 : Nat) + (1 : Nat) + (1 : Nat)) (FV.b false)) then bif ((0 : Nat) + (↑i : Int).toNat * (9 : Nat) + (1 : Nat) + (1 : Nat) + (1 : Nat)).blt (n * (9 : Nat)) then bif FV.isI
     IntKind.u8 (vs.getD ((0 : Nat) + (↑i : Int).toNat * (9 : Nat) + (1 : Nat) + (1 : Nat) + (1 : Nat)) (FV.b false)) then bif ((0 : Nat) + (↑i : Int).toNat * (9 : Nat) + (1 : Nat) + (1 : Nat) + (1 : Nat)
     + (1 : Nat)).blt (n * (9 : Nat)) then bif (vs.getD ((0 : Nat) + (↑i : Int).toNat * (9 : Nat) + (1 : Nat) + (1 : Nat) + (1 : Nat) + (1 : Nat)) (FV.b false)).isB then bif ((0 : Nat) + (↑i : Int).toNat *
     (9 : Nat) + (1 : Nat) + (1 : Nat) + (1 : Nat) + (1 : Nat) + (1 : Nat)).blt (n * (9 : Nat)) then bif FV.isI IntKind.i64 (vs.getD ((0 : Nat) + (↑i : Int).toNat * (9 : Nat) + (1 : Nat) + (1 : Nat) + (1 :
     Nat) + (1 : Nat) + (1 : Nat)) (FV.b false)) then bif ((0 : Nat) + (↑i : Int).toNat * (9 : Nat) + (1 : Nat) + (1 : Nat) + (1 : Nat) + (1 : Nat) + (1 : Nat) + (1 : Nat)).blt (n * (9 : Nat)) then bif
     (vs.getD ((0 : Nat) + (↑i : Int).toNat * (9 : Nat) + (1 : Nat) + (1 : Nat) + (1 : Nat) + (1 : Nat) + (1 : Nat) + (1 : Nat)) (FV.b false)).isB then bif ((0 : Nat) + (↑i : Int).toNat * (9 : Nat) + (1 :
     Nat) + (1 : Nat) + (1 : Nat) + (1 : Nat) + (1 : Nat) + (1 : Nat) + (1 : Nat)).blt (n * (9 : Nat)) then bif FV.isI IntKind.i64 (vs.getD ((0 : Nat) + (↑i : Int).toNat * (9 : Nat) + (1 : Nat) + (1 : Nat)
     + (1 : Nat) + (1 : Nat) + (1 : Nat) + (1 : Nat) + (1 : Nat)) (FV.b false)) then bif ((0 : Nat) + (↑i : Int).toNat * (9 : Nat) + (1 : Nat) + (1 : Nat) + (1 : Nat) + (1 : Nat) + (1 : Nat) + (1 : Nat) +
     (1 : Nat) + (1 : Nat)).blt (n * (9 : Nat)) then bif (vs.getD ((0 : Nat) + (↑i : Int).toNat * (9 : Nat) + (1 : Nat) + (1 : Nat) + (1 : Nat) + (1 : Nat) + (1 : Nat) + (1 : Nat) + (1 : Nat) + (1 : Nat))
     (FV.b false)).isB then bif (vs.getD ((0 : Nat) + (↑i : Int).toNat * (9 : Nat) + (1 : Nat)) (FV.b false)).asB then bif chk (xs.length = (9 : Nat)) then bif chk (now ≤ (vs.getD ((0 : Nat) + (↑i :
     Int).toNat * (9 : Nat) + (1 : Nat) + (1 : Nat)) (FV.b false)).asI ∧ (0 : Int) ≤ xs.getD (8 : Nat) (0 : Int) ∧ xs.getD (8 : Nat) (0 : Int) ≤ (1000 : Int) ∧ lowB xs (vs.getD ((0 : Nat) + (↑i :
     Int).toNat * (9 : Nat) + (1 : Nat) + (1 : Nat)) (FV.b false)).asI = false ∧ (0 : Int) ≤ a ∧ a ≤ (vs.getD ((0 : Nat) + (↑i : Int).toNat * (9 : Nat) + (1 : Nat) + (1 : Nat)) (FV.b false)).asI ∧ (vs.getD
     ((0 : Nat) + (↑i : Int).toNat * (9 : Nat) + (1 : Nat) + (1 : Nat)) (FV.b false)).asI - a ≤ w) then bif chk ((vs.getD ((0 : Nat) + (↑i : Int).toNat * (9 : Nat) + (1 : Nat) + (1 : Nat)) (FV.b
     false)).asI ≤ (vs.getD ((0 : Nat) + (↑i : Int).toNat * (9 : Nat) + (1 : Nat) + (1 : Nat)) (FV.b false)).asI ∧ (vs.getD ((0 : Nat) + (↑i : Int).toNat * (9 : Nat) + (1 : Nat) + (1 : Nat) + (1 : Nat) +
     (1 : Nat) + (1 : Nat) + (1 : Nat) + (1 : Nat) + (1 : Nat)) (FV.b false)).asB = false ∧ (0 : Int) ≤ (vs.getD ((0 : Nat) + (↑i : Int).toNat * (9 : Nat) + (1 : Nat) + (1 : Nat)) (FV.b false)).asI ∧ (0 :
     Int) ≤ w ∧ w ≤ (1000000000 : Int) ∧ (0 : Int) ≤ (pushR xs (vs.getD ((0 : Nat) + (↑i : Int).toNat * (9 : Nat) + (1 : Nat) + (1 : Nat)) (FV.b false)).asI).getD (8 : Nat) (0 : Int) ∧ (pushR xs (vs.getD
     ((0 : Nat) + (↑i : Int).toNat * (9 : Nat) + (1 : Nat) + (1 : Nat)) (FV.b false)).asI).getD (8 : Nat) (0 : Int) ≤ (1000 : Int) ∧ ((pushR xs (vs.getD ((0 : Nat) + (↑i : Int).toNat * (9 : Nat) + (1 :
     Nat) + (1 : Nat)) (FV.b false)).asI).getD (8 : Nat) (0 : Int) = (0 : Int) ∨ (0 : Int) ≤ lastR (pushR xs (vs.getD ((0 : Nat) + (↑i : Int).toNat * (9 : Nat) + (1 : Nat) + (1 : Nat)) (FV.b false)).asI) ∧
     lastR (pushR xs (vs.getD ((0 : Nat) + (↑i : Int).toNat * (9 : Nat) + (1 : Nat) + (1 : Nat)) (FV.b false)).asI) ≤ (vs.getD ((0 : Nat) + (↑i : Int).toNat * (9 : Nat) + (1 : Nat) + (1 : Nat)) (FV.b
     false)).asI) ∧ ((pushR xs (vs.getD ((0 : Nat) + (↑i : Int).toNat * (9 : Nat) + (1 : Nat) + (1 : Nat)) (FV.b false)).asI).getD (8 : Nat) (0 : Int) = (0 : Int) ∨ true = true ∨ w < (vs.getD ((0 : Nat) +
     (↑i : Int).toNat * (9 : Nat) + (1 : Nat) + (1 : Nat)) (FV.b false)).asI - lastR (pushR xs (vs.getD ((0 : Nat) + (↑i : Int).toNat * (9 : Nat) + (1 : Nat) + (1 : Nat)) (FV.b false)).asI) ∨ cnt (allX
     (pushR xs (vs.getD ((0 : Nat) + (↑i : Int).toNat * (9 : Nat) + (1 : Nat) + (1 : Nat)) (FV.b false)).asI)) ((vs.getD ((0 : Nat) + (↑i : Int).toNat * (9 : Nat) + (1 : Nat) + (1 : Nat)) (FV.b false)).asI
     - w) (vs.getD ((0 : Nat) + (↑i : Int).toNat * (9 : Nat) + (1 : Nat) + (1 : Nat)) (FV.b false)).asI ≠ (1 : Nat))) then bif chk (ts.length = ts.length ∧ ts.length * (10 : Nat) = ts.length * (10 : Nat) ∧
     flat ts = flat ts ∧ ts.length ≤ (60 : Nat)) then bif chk (ts.length = ts.length ∧ ts.length * (10 : Nat) = ts.length * (10 : Nat) ∧ flat ts = flat ts ∧ ts.length ≤ (60 : Nat) ∧ waitI ts = (↑j : Int))
     then on [Value.bool false, Value.pointer (some (Addr.mk (1 : Nat) (0 : Nat) none)), Value.pointer (some (Addr.mk (4 : Nat) (0 : Nat) none)), Value.slice (some (Addr.mk (0 : Nat) (0 : Nat) none)) n (2
     : Nat), Value.int IntKind.i64 (↑n : Int), Value.int IntKind.i64 (IntKind.i64.wrap ((↑i : Int) + (1 : Int)))] [some (Blk.mk false (9 : Nat) [Seg.any (n * (9 : Nat)) vs]), some (Blk.mk true (5 : Nat)
     [Seg.vals [Value.pointer (some (Addr.mk (2 : Nat) (0 : Nat) none))], Seg.ints IntKind.i64 (2 : Nat) [w, now], Seg.vals [Value.bool t, Value.pointer (some (Addr.mk (3 : Nat) (0 : Nat) none))]]), some
     (Blk.mk true (9 : Nat) [Seg.ints IntKind.i64 (9 : Nat) xs]), some (Blk.mk true (7 : Nat) [Seg.ints IntKind.i64 (1 : Nat) [a], Seg.ints IntKind.u8 (1 : Nat) [m.kd], Seg.vals [Value.bool m.u], Seg.ints
     IntKind.i64 (1 : Nat) [m.s], Seg.vals [Value.bool m.l], Seg.ints IntKind.i64 (1 : Nat) [m.c], Seg.vals [Value.bool m.n]]), some (Blk.mk true (2 : Nat) [Seg.ints IntKind.i64 (1 : Nat) [w], Seg.vals
     [Value.slice (some (Addr.mk (5 : Nat) (0 : Nat) none)) ts.length (1 : Nat)]]), some (Blk.mk true (10 : Nat) [Seg.any (ts.length * (10 : Nat)) (flat ts)])] else none else none else none else none else
     none else none else none else none else none else none else none else none else none else none else none else none else none else none else none else none else none else none else none else none else
     none else none) (by kernel_rfl) (by simp only [-eq_self, Int.toNat_natCast, Nat.zero_add, swrap w1.1 w1.2]; exact (go_t (dec_t h1) (go_t (and_t (dec_t h2) (dec_t h1)) (go_t (blt_t h3) (go_t h4 (go_t (blt_t h5) (go_t h6 (go_t (blt_t h7) (go_t h8 (go_t (blt_t h9) (go_t h10 (go_t (blt_t h11) (go_t h12 (go_t (blt_t h13) (go_t h14 (go_t (blt_t h15) (go_t h16 (go_t (blt_t h17) (go_t h18 (go_t (blt_t h19) (go_t h20 (go_t h21 (go_t (chk_t h22) (go_t (chk_t h23) (go_t (chk_t h24) (go_t (chk_t h25) (go_t (chk_t h26) rfl)))))))))))))))))))))))))))
--CFEND
--CP p6cIP (w now a : Int) (t : Bool) (m : Ms) (n i cc j : Nat) (xs : List Int) (vs : List FV) (ts : List Th) (on : List Value → Heap → Out) (out : Exit → List Value → Heap → Out) :: roundK Try.prog ((S6c FCpyS (FDCpy ts) FEdgI FMsgP FWtS (FWaj ts j)).on [(55, true), (84, true), (132, false)]) noL Try.f6.ntmps 1 (loopOf Try.f6 0) live6 [.bool false, pt 1, pt 4, sl 0 n 2, w63 n, w63 i] [opsB n vs, PBe 2 w now t (pt 3), eB true xs, WB true a m, DBe 5 w ts.length cc, rowA true ts.length (flat ts)] on out
theorem p6cIP (w now a : Int) (t : Bool) (m : Ms) (n i cc j : Nat) (xs : List Int) (vs : List FV) (ts : List Th) (on : List Value → Heap → Out) (out : Exit → List Value → Heap → Out)
    (w1 : -9223372036854775808 ≤ (↑i : Int) + (1 : Int) ∧ (↑i : Int) + (1 : Int) ≤ 9223372036854775807 := by omega)
    (h1 : (↑i : Int) < (↑n : Int) := by first | omega | assumption | rfl)
    (h2 : (0 : Int) ≤ (↑i : Int) := by first | omega | assumption | rfl)
    (h3 : i * (9 : Nat) < n * (9 : Nat) := by first | omega | assumption | rfl)
    (h4 : (vs.getD (i * (9 : Nat)) (FV.b false)).isB = true := by first | omega | assumption | rfl)
    (h5 : i * (9 : Nat) + (1 : Nat) < n * (9 : Nat) := by first | omega | assumption | rfl)
    (h6 : (vs.getD (i * (9 : Nat) + (1 : Nat)) (FV.b false)).isB = true := by first | omega | assumption | rfl)
    (h7 : i * (9 : Nat) + (2 : Nat) < n * (9 : Nat) := by first | omega | assumption | rfl)
    (h8 : FV.isI IntKind.i64 (vs.getD (i * (9 : Nat) + (2 : Nat)) (FV.b false)) = true := by first | omega | assumption | rfl)
    (h9 : i * (9 : Nat) + (3 : Nat) < n * (9 : Nat) := by first | omega | assumption | rfl)
    (h10 : FV.isI IntKind.u8 (vs.getD (i * (9 : Nat) + (3 : Nat)) (FV.b false)) = true := by first | omega | assumption | rfl)
    (h11 : i * (9 : Nat) + (4 : Nat) < n * (9 : Nat) := by first | omega | assumption | rfl)
    (h12 : (vs.getD (i * (9 : Nat) + (4 : Nat)) (FV.b false)).isB = true := by first | omega | assumption | rfl)
    (h13 : i * (9 : Nat) + (5 : Nat) < n * (9 : Nat) := by first | omega | assumption | rfl)
    (h14 : FV.isI IntKind.i64 (vs.getD (i * (9 : Nat) + (5 : Nat)) (FV.b false)) = true := by first | omega | assumption | rfl)
    (h15 : i * (9 : Nat) + (6 : Nat) < n * (9 : Nat) := by first | omega | assumption | rfl)
    (h16 : (vs.getD (i * (9 : Nat) + (6 : Nat)) (FV.b false)).isB = true := by first | omega | assumption | rfl)
    (h17 : i * (9 : Nat) + (7 : Nat) < n * (9 : Nat) := by first | omega | assumption | rfl)
    (h18 : FV.isI IntKind.i64 (vs.getD (i * (9 : Nat) + (7 : Nat)) (FV.b false)) = true := by first | omega | assumption | rfl)
    (h19 : i * (9 : Nat) + (8 : Nat) < n * (9 : Nat) := by first | omega | assumption | rfl)
    (h20 : (vs.getD (i * (9 : Nat) + (8 : Nat)) (FV.b false)).isB = true := by first | omega | assumption | rfl)
    (h21 : (vs.getD (i * (9 : Nat) + (1 : Nat)) (FV.b false)).asB = true := by first | omega | assumption | rfl)
    (h22 : xs.length = (9 : Nat) := by first | omega | assumption | rfl)
    (h23 : now ≤ (vs.getD (i * (9 : Nat) + (2 : Nat)) (FV.b false)).asI ∧ (0 : Int) ≤ xs.getD (8 : Nat) (0 : Int) ∧ xs.getD (8 : Nat) (0 : Int) ≤ (1000 : Int) ∧ lowB xs (vs.getD (i * (9 : Nat) + (2 : Nat)) (FV.b false)).asI = false ∧ (0 : Int) ≤ a ∧ a ≤ (vs.getD (i * (9 : Nat) + (2 : Nat)) (FV.b false)).asI ∧ (vs.getD (i * (9 : Nat) + (2 : Nat)) (FV.b false)).asI - a ≤ w := by first | omega | assumption | rfl | ((repeat' with_reducible apply And.intro) <;> first | rfl | assumption | omega))
    (h24 : (vs.getD (i * (9 : Nat) + (2 : Nat)) (FV.b false)).asI ≤ (vs.getD (i * (9 : Nat) + (2 : Nat)) (FV.b false)).asI ∧ (vs.getD (i * (9 : Nat) + (8 : Nat)) (FV.b false)).asB = false ∧ (0 : Int) ≤ (vs.getD (i * (9 : Nat) + (2 : Nat)) (FV.b false)).asI ∧ (0 : Int) ≤ w ∧ w ≤ (1000000000 : Int) ∧ (0 : Int) ≤ (pushR xs (vs.getD (i * (9 : Nat) + (2 : Nat)) (FV.b false)).asI).getD (8 : Nat) (0 : Int) ∧ (pushR xs (vs.getD (i * (9 : Nat) + (2 : Nat)) (FV.b false)).asI).getD (8 : Nat) (0 : Int) ≤ (1000 : Int) ∧ ((pushR xs (vs.getD (i * (9 : Nat) + (2 : Nat)) (FV.b false)).asI).getD (8 : Nat) (0 : Int) = (0 : Int) ∨ (0 : Int) ≤ lastR (pushR xs (vs.getD (i * (9 : Nat) + (2 : Nat)) (FV.b false)).asI) ∧ lastR (pushR xs (vs.getD (i * (9 : Nat) + (2 : Nat)) (FV.b false)).asI) ≤ (vs.getD (i * (9 : Nat) + (2 : Nat)) (FV.b false)).asI) ∧ (pushR xs (vs.getD (i * (9 : Nat) + (2 : Nat)) (FV.b false)).asI).getD (8 : Nat) (0 : Int) ≠ (0 : Int) ∧ true = false ∧ (vs.getD (i * (9 : Nat) + (2 : Nat)) (FV.b false)).asI - lastR (pushR xs (vs.getD (i * (9 : Nat) + (2 : Nat)) (FV.b false)).asI) ≤ w ∧ cnt (allX (pushR xs (vs.getD (i * (9 : Nat) + (2 : Nat)) (FV.b false)).asI)) ((vs.getD (i * (9 : Nat) + (2 : Nat)) (FV.b false)).asI - w) (vs.getD (i * (9 : Nat) + (2 : Nat)) (FV.b false)).asI = (1 : Nat) := by first | omega | assumption | rfl | ((repeat' with_reducible apply And.intro) <;> first | rfl | assumption | omega))
    (h25 : ts.length = ts.length ∧ ts.length * (10 : Nat) = ts.length * (10 : Nat) ∧ flat ts = flat ts ∧ ts.length ≤ (60 : Nat) := by first | omega | assumption | rfl | ((repeat' with_reducible apply And.intro) <;> first | rfl | assumption | omega))
    (h26 : ts.length = ts.length ∧ ts.length * (10 : Nat) = ts.length * (10 : Nat) ∧ flat ts = flat ts ∧ ts.length ≤ (60 : Nat) ∧ waitI ts = (↑j : Int) := by first | omega | assumption | rfl | ((repeat' with_reducible apply And.intro) <;> first | rfl | assumption | omega)) : roundK Try.prog ((S6c FCpyS (FDCpy ts) FEdgI FMsgP FWtS (FWaj ts j)).on [(55, true), (84, true), (132, false)]) noL Try.f6.ntmps 1 (loopOf Try.f6 0) live6 [.bool false, pt 1, pt 4, sl 0 n 2, w63 n, w63 i] [opsB n vs, PBe 2 w now t (pt 3), eB true xs, WB true a m, DBe 5 w ts.length cc, rowA true ts.length (flat ts)] on out =
     (on [Value.bool false, Value.pointer (some (Addr.mk (1 : Nat) (0 : Nat) none)), Value.pointer (some (Addr.mk (4 : Nat) (0 : Nat) none)), Value.slice (some (Addr.mk (0 : Nat) (0 : Nat) none)) n (2 :
     Nat), Value.int IntKind.i64 (↑n : Int), Value.int IntKind.i64 ((↑i : Int) + (1 : Int))] [some (Blk.mk false (9 : Nat) [Seg.any (n * (9 : Nat)) vs]), some (Blk.mk true (5 : Nat) [Seg.vals
     [Value.pointer (some (Addr.mk (2 : Nat) (0 : Nat) none))], Seg.ints IntKind.i64 (2 : Nat) [w, now], Seg.vals [Value.bool t, Value.pointer (some (Addr.mk (3 : Nat) (0 : Nat) none))]]), some (Blk.mk
     true (9 : Nat) [Seg.ints IntKind.i64 (9 : Nat) xs]), some (Blk.mk true (7 : Nat) [Seg.ints IntKind.i64 (1 : Nat) [a], Seg.ints IntKind.u8 (1 : Nat) [m.kd], Seg.vals [Value.bool m.u], Seg.ints
     IntKind.i64 (1 : Nat) [m.s], Seg.vals [Value.bool m.l], Seg.ints IntKind.i64 (1 : Nat) [m.c], Seg.vals [Value.bool m.n]]), some (Blk.mk true (2 : Nat) [Seg.ints IntKind.i64 (1 : Nat) [w], Seg.vals
     [Value.slice (some (Addr.mk (5 : Nat) (0 : Nat) none)) ts.length (1 : Nat)]]), some (Blk.mk true (10 : Nat) [Seg.any (ts.length * (10 : Nat)) (flat ts)])]) :=
  Eq.trans (b :=
     bif decide ((↑i : Int) < (↑n : Int)) then bif decide ((0 : Int) ≤ (↑i : Int)) && decide ((↑i : Int) < (↑n : Int)) then bif ((0 : Nat) + (↑i : Int).toNat * (9 : Nat)).blt (n * (9 : Nat)) then bif
     (vs.getD ((0 : Nat) + (↑i : Int).toNat * (9 : Nat)) (FV.b false)).isB then bif ((0 : Nat) + (↑i : Int).toNat * (9 : Nat) + (1 : Nat)).blt (n * (9 : Nat)) then bif (vs.getD ((0 : Nat) + (↑i :
     Int).toNat * (9 : Nat) + (1 : Nat)) (FV.b false)).isB then bif ((0 : Nat) + (↑i : Int).toNat * (9 : Nat) + (1 : Nat) + (1 : Nat)).blt (n * (9 : Nat)) then bif FV.isI IntKind.i64 (vs.getD ((0 : Nat) +
     (↑i : Int).toNat * (9 : Nat) + (1 : Nat) + (1 : Nat)) (FV.b false)) then bif ((0 : Nat) + (↑i : Int).toNat * (9 : Nat) + (1 : Nat) + (1 : Nat) + (1 : Nat)).blt (n * (9 : Nat)) then bif FV.isI
     IntKind.u8 (vs.getD ((0 : Nat) + (↑i : Int).toNat * (9 : Nat) + (1 : Nat) + (1 : Nat) + (1 : Nat)) (FV.b false)) then bif ((0 : Nat) + (↑i : Int).toNat * (9 : Nat) + (1 : Nat) + (1 : Nat) + (1 : Nat)
     + (1 : Nat)).blt (n * (9 : Nat)) then bif (vs.getD ((0 : Nat) + (↑i : Int).toNat * (9 : Nat) + (1 : Nat) + (1 : Nat) + (1 : Nat) + (1 : Nat)) (FV.b false)).isB then bif ((0 : Nat) + (↑i : Int).toNat *
     (9 : Nat) + (1 : Nat) + (1 : Nat) + (1 : Nat) + (1 : Nat) + (1 : Nat)).blt (n * (9 : Nat)) then bif FV.isI IntKind.i64 (vs.getD ((0 : Nat) + (↑i : Int).toNat * (9 : Nat) + (1 : Nat) + (1 : Nat) + (1 :
     Nat) + (1 : Nat) + (1 : Nat)) (FV.b false)) then bif ((0 : Nat) + (↑i : Int).toNat * (9 : Nat) + (1 : Nat) + (1 : Nat) + (1 : Nat) + (1 : Nat) + (1 : Nat) + (1 : Nat)).blt (n * (9 : Nat)) then bif
     (vs.getD ((0 : Nat) + (↑i : Int).toNat * (9 : Nat) + (1 : Nat) + (1 : Nat) + (1 : Nat) + (1 : Nat) + (1 : Nat) + (1 : Nat)) (FV.b false)).isB then bif ((0 : Nat) + (↑i : Int).toNat * (9 : Nat) + (1 :
     Nat) + (1 : Nat) + (1 : Nat) + (1 : Nat) + (1 : Nat) + (1 : Nat) + (1 : Nat)).blt (n * (9 : Nat)) then bif FV.isI IntKind.i64 (vs.getD ((0 : Nat) + (↑i : Int).toNat * (9 : Nat) + (1 : Nat) + (1 : Nat)
     + (1 : Nat) + (1 : Nat) + (1 : Nat) + (1 : Nat) + (1 : Nat)) (FV.b false)) then bif ((0 : Nat) + (↑i : Int).toNat * (9 : Nat) + (1 : Nat) + (1 : Nat) + (1 : Nat) + (1 : Nat) + (1 : Nat) + (1 : Nat) +
     (1 : Nat) + (1 : Nat)).blt (n * (9 : Nat)) then bif (vs.getD ((0 : Nat) + (↑i : Int).toNat * (9 : Nat) + (1 : Nat) + (1 : Nat) + (1 : Nat) + (1 : Nat) + (1 : Nat) + (1 : Nat) + (1 : Nat) + (1 : Nat))
     (FV.b false)).isB then bif (vs.getD ((0 : Nat) + (↑i : Int).toNat * (9 : Nat) + (1 : Nat)) (FV.b false)).asB then bif chk (xs.length = (9 : Nat)) then bif chk (now ≤ (vs.getD ((0 : Nat) + (↑i :
     Int).toNat * (9 : Nat) + (1 : Nat) + (1 : Nat)) (FV.b false)).asI ∧ (0 : Int) ≤ xs.getD (8 : Nat) (0 : Int) ∧ xs.getD (8 : Nat) (0 : Int) ≤ (1000 : Int) ∧ lowB xs (vs.getD ((0 : Nat) + (↑i :
     Int).toNat * (9 : Nat) + (1 : Nat) + (1 : Nat)) (FV.b false)).asI = false ∧ (0 : Int) ≤ a ∧ a ≤ (vs.getD ((0 : Nat) + (↑i : Int).toNat * (9 : Nat) + (1 : Nat) + (1 : Nat)) (FV.b false)).asI ∧ (vs.getD
     ((0 : Nat) + (↑i : Int).toNat * (9 : Nat) + (1 : Nat) + (1 : Nat)) (FV.b false)).asI - a ≤ w) then bif chk ((vs.getD ((0 : Nat) + (↑i : Int).toNat * (9 : Nat) + (1 : Nat) + (1 : Nat)) (FV.b
     false)).asI ≤ (vs.getD ((0 : Nat) + (↑i : Int).toNat * (9 : Nat) + (1 : Nat) + (1 : Nat)) (FV.b false)).asI ∧ (vs.getD ((0 : Nat) + (↑i : Int).toNat * (9 : Nat) + (1 : Nat) + (1 : Nat) + (1 : Nat) +
     (1 : Nat) + (1 : Nat) + (1 : Nat) + (1 : Nat) + (1 : Nat)) (FV.b false)).asB = false ∧ (0 : Int) ≤ (vs.getD ((0 : Nat) + (↑i : Int).toNat * (9 : Nat) + (1 : Nat) + (1 : Nat)) (FV.b false)).asI ∧ (0 :
     Int) ≤ w ∧ w ≤ (1000000000 : Int) ∧ (0 : Int) ≤ (pushR xs (vs.getD ((0 : Nat) + (↑i : Int).toNat * (9 : Nat) + (1 : Nat) + (1 : Nat)) (FV.b false)).asI).getD (8 : Nat) (0 : Int) ∧ (pushR xs (vs.getD
     ((0 : Nat) + (↑i : Int).toNat * (9 : Nat) + (1 : Nat) + (1 : Nat)) (FV.b false)).asI).getD (8 : Nat) (0 : Int) ≤ (1000 : Int) ∧ ((pushR xs (vs.getD ((0 : Nat) + (↑i : Int).toNat * (9 : Nat) + (1 :
     Nat) + (1 : Nat)) (FV.b false)).asI).getD (8 : Nat) (0 : Int) = (0 : Int) ∨ (0 : Int) ≤ lastR (pushR xs (vs.getD ((0 : Nat) + (↑i : Int).toNat * (9 : Nat) + (1 : Nat) + (1 : Nat)) (FV.b false)).asI) ∧
     lastR (pushR xs (vs.getD ((0 : Nat) + (↑i : Int).toNat * (9 : Nat) + (1 : Nat) + (1 : Nat)) (FV.b false)).asI) ≤ (vs.getD ((0 : Nat) + (↑i : Int).toNat * (9 : Nat) + (1 : Nat) + (1 : Nat)) (FV.b
     false)).asI) ∧ (pushR xs (vs.getD ((0 : Nat) + (↑i : Int).toNat * (9 : Nat) + (1 : Nat) + (1 : Nat)) (FV.b false)).asI).getD (8 : Nat) (0 : Int) ≠ (0 : Int) ∧ true = false ∧ (vs.getD ((0 : Nat) + (↑i
     : Int).toNat * (9 : Nat) + (1 : Nat) + (1 : Nat)) (FV.b false)).asI - lastR (pushR xs (vs.getD ((0 : Nat) + (↑i : Int).toNat * (9 : Nat) + (1 : Nat) + (1 : Nat)) (FV.b false)).asI) ≤ w ∧ cnt (allX
     (pushR xs (vs.getD ((0 : Nat) + (↑i : Int).toNat * (9 : Nat) + (1 : Nat) + (1 : Nat)) (FV.b false)).asI)) ((vs.getD ((0 : Nat) + (↑i : Int).toNat * (9 : Nat) + (1 : Nat) + (1 : Nat)) (FV.b false)).asI
     - w) (vs.getD ((0 : Nat) + (↑i : Int).toNat * (9 : Nat) + (1 : Nat) + (1 : Nat)) (FV.b false)).asI = (1 : Nat)) then bif chk (ts.length = ts.length ∧ ts.length * (10 : Nat) = ts.length * (10 : Nat) ∧
     flat ts = flat ts ∧ ts.length ≤ (60 : Nat)) then bif chk (ts.length = ts.length ∧ ts.length * (10 : Nat) = ts.length * (10 : Nat) ∧ flat ts = flat ts ∧ ts.length ≤ (60 : Nat) ∧ waitI ts = (↑j : Int))
     then on [Value.bool false, Value.pointer (some (Addr.mk (1 : Nat) (0 : Nat) none)), Value.pointer (some (Addr.mk (4 : Nat) (0 : Nat) none)), Value.slice (some (Addr.mk (0 : Nat) (0 : Nat) none)) n (2
     : Nat), Value.int IntKind.i64 (↑n : Int), Value.int IntKind.i64 (IntKind.i64.wrap ((↑i : Int) + (1 : Int)))] [some (Blk.mk false (9 : Nat) [Seg.any (n * (9 : Nat)) vs]), some (Blk.mk true (5 : Nat)
     [Seg.vals [Value.pointer (some (Addr.mk (2 : Nat) (0 : Nat) none))], Seg.ints IntKind.i64 (2 : Nat) [w, now], Seg.vals [Value.bool t, Value.pointer (some (Addr.mk (3 : Nat) (0 : Nat) none))]]), some
     (Blk.mk true (9 : Nat) [Seg.ints IntKind.i64 (9 : Nat) xs]), some (Blk.mk true (7 : Nat) [Seg.ints IntKind.i64 (1 : Nat) [a], Seg.ints IntKind.u8 (1 : Nat) [m.kd], Seg.vals [Value.bool m.u], Seg.ints
     IntKind.i64 (1 : Nat) [m.s], Seg.vals [Value.bool m.l], Seg.ints IntKind.i64 (1 : Nat) [m.c], Seg.vals [Value.bool m.n]]), some (Blk.mk true (2 : Nat) [Seg.ints IntKind.i64 (1 : Nat) [w], Seg.vals
     [Value.slice (some (Addr.mk (5 : Nat) (0 : Nat) none)) ts.length (1 : Nat)]]), some (Blk.mk true (10 : Nat) [Seg.any (ts.length * (10 : Nat)) (flat ts)])] else none else none else none else none else
     none else none else none else none else none else none else none else none else none else none else none else none else none else none else none else none else none else none else none else none else
     none else none) (by kernel_rfl) (by simp only [-eq_self, Int.toNat_natCast, Nat.zero_add, swrap w1.1 w1.2]; exact (go_t (dec_t h1) (go_t (and_t (dec_t h2) (dec_t h1)) (go_t (blt_t h3) (go_t h4 (go_t (blt_t h5) (go_t h6 (go_t (blt_t h7) (go_t h8 (go_t (blt_t h9) (go_t h10 (go_t (blt_t h11) (go_t h12 (go_t (blt_t h13) (go_t h14 (go_t (blt_t h15) (go_t h16 (go_t (blt_t h17) (go_t h18 (go_t (blt_t h19) (go_t h20 (go_t h21 (go_t (chk_t h22) (go_t (chk_t h23) (go_t (chk_t h24) (go_t (chk_t h25) (go_t (chk_t h26) rfl)))))))))))))))))))))))))))
--CFEND
--CP p6eO (w now a : Int) (t : Bool) (m : Ms) (n i cc j : Nat) (xs : List Int) (vs : List FV) (ts ts' : List Th) (on : List Value → Heap → Out) (out : Exit → List Value → Heap → Out) :: roundK Try.prog ((S6e FEdgO (FREO ts j) FWtN (FWan ts')).on [(55, true), (84, false), (102, true), (122, false), (126, false), (132, false)]) noL Try.f6.ntmps 1 (loopOf Try.f6 0) live6 [.bool false, pt 1, pt 4, sl 0 n 2, w63 n, w63 i] [opsB n vs, PBe 2 w now t (pt 3), eB true xs, WB true a m, DBe 5 w ts.length cc, rowA true ts.length (flat ts)] on out
theorem p6eO (w now a : Int) (t : Bool) (m : Ms) (n i cc j : Nat) (xs : List Int) (vs : List FV) (ts ts' : List Th) (on : List Value → Heap → Out) (out : Exit → List Value → Heap → Out)
    (w1 : -9223372036854775808 ≤ (↑i : Int) + (1 : Int) ∧ (↑i : Int) + (1 : Int) ≤ 9223372036854775807 := by omega)
    (h1 : (↑i : Int) < (↑n : Int) := by first | omega | assumption | rfl)
    (h2 : (0 : Int) ≤ (↑i : Int) := by first | omega | assumption | rfl)
    (h3 : i * (9 : Nat) < n * (9 : Nat) := by first | omega | assumption | rfl)
    (h4 : (vs.getD (i * (9 : Nat)) (FV.b false)).isB = true := by first | omega | assumption | rfl)
    (h5 : i * (9 : Nat) + (1 : Nat) < n * (9 : Nat) := by first | omega | assumption | rfl)
    (h6 : (vs.getD (i * (9 : Nat) + (1 : Nat)) (FV.b false)).isB = true := by first | omega | assumption | rfl)
    (h7 : i * (9 : Nat) + (2 : Nat) < n * (9 : Nat) := by first | omega | assumption | rfl)
    (h8 : FV.isI IntKind.i64 (vs.getD (i * (9 : Nat) + (2 : Nat)) (FV.b false)) = true := by first | omega | assumption | rfl)
    (h9 : i * (9 : Nat) + (3 : Nat) < n * (9 : Nat) := by first | omega | assumption | rfl)
    (h10 : FV.isI IntKind.u8 (vs.getD (i * (9 : Nat) + (3 : Nat)) (FV.b false)) = true := by first | omega | assumption | rfl)
    (h11 : i * (9 : Nat) + (4 : Nat) < n * (9 : Nat) := by first | omega | assumption | rfl)
    (h12 : (vs.getD (i * (9 : Nat) + (4 : Nat)) (FV.b false)).isB = true := by first | omega | assumption | rfl)
    (h13 : i * (9 : Nat) + (5 : Nat) < n * (9 : Nat) := by first | omega | assumption | rfl)
    (h14 : FV.isI IntKind.i64 (vs.getD (i * (9 : Nat) + (5 : Nat)) (FV.b false)) = true := by first | omega | assumption | rfl)
    (h15 : i * (9 : Nat) + (6 : Nat) < n * (9 : Nat) := by first | omega | assumption | rfl)
    (h16 : (vs.getD (i * (9 : Nat) + (6 : Nat)) (FV.b false)).isB = true := by first | omega | assumption | rfl)
    (h17 : i * (9 : Nat) + (7 : Nat) < n * (9 : Nat) := by first | omega | assumption | rfl)
    (h18 : FV.isI IntKind.i64 (vs.getD (i * (9 : Nat) + (7 : Nat)) (FV.b false)) = true := by first | omega | assumption | rfl)
    (h19 : i * (9 : Nat) + (8 : Nat) < n * (9 : Nat) := by first | omega | assumption | rfl)
    (h20 : (vs.getD (i * (9 : Nat) + (8 : Nat)) (FV.b false)).isB = true := by first | omega | assumption | rfl)
    (h21 : (vs.getD (i * (9 : Nat) + (1 : Nat)) (FV.b false)).asB = false := by first | omega | assumption | rfl)
    (h22 : (vs.getD (i * (9 : Nat)) (FV.b false)).asB = true := by first | omega | assumption | rfl)
    (h23 : now ≤ (vs.getD (i * (9 : Nat) + (2 : Nat)) (FV.b false)).asI ∧ (0 : Int) ≤ xs.getD (8 : Nat) (0 : Int) ∧ xs.getD (8 : Nat) (0 : Int) ≤ (1000 : Int) ∧ lowB xs (vs.getD (i * (9 : Nat) + (2 : Nat)) (FV.b false)).asI = false ∧ (0 : Int) ≤ a ∧ a ≤ (vs.getD (i * (9 : Nat) + (2 : Nat)) (FV.b false)).asI ∧ w < (vs.getD (i * (9 : Nat) + (2 : Nat)) (FV.b false)).asI - a := by first | omega | assumption | rfl | ((repeat' with_reducible apply And.intro) <;> first | rfl | assumption | omega))
    (h24 : ts.length = ts.length ∧ ts.length * (10 : Nat) = ts.length * (10 : Nat) ∧ flat ts = flat ts ∧ ts.length ≤ (60 : Nat) ∧ mayP ts (vs.getD (i * (9 : Nat) + (2 : Nat)) (FV.b false)).asI ∧ waitI ts = (↑j : Int) ∧ j < ts.length ∧ RiseT ts ∧ w < (vs.getD (i * (9 : Nat) + (2 : Nat)) (FV.b false)).asI - (ts.getD j th0).a := by first | omega | assumption | rfl | ((repeat' with_reducible apply And.intro) <;> first | rfl | assumption | omega))
    (h25 : ts.length + (1 : Nat) = ts'.length ∧ (ts.length + (1 : Nat)) * (10 : Nat) = ts'.length * (10 : Nat) ∧ flat ((ts ++ [tE (vs.getD (i * (9 : Nat) + (2 : Nat)) (FV.b false)).asI]).set j (setG (ts.getD j th0))) = flat ts' ∧ ts.length + (1 : Nat) ≤ (60 : Nat) ∧ waitI ts' = (-1 : Int) := by first | omega | assumption | rfl | ((repeat' with_reducible apply And.intro) <;> first | rfl | assumption | omega)) : roundK Try.prog ((S6e FEdgO (FREO ts j) FWtN (FWan ts')).on [(55, true), (84, false), (102, true), (122, false), (126, false), (132, false)]) noL Try.f6.ntmps 1 (loopOf Try.f6 0) live6 [.bool false, pt 1, pt 4, sl 0 n 2, w63 n, w63 i] [opsB n vs, PBe 2 w now t (pt 3), eB true xs, WB true a m, DBe 5 w ts.length cc, rowA true ts.length (flat ts)] on out =
     (on [Value.bool false, Value.pointer (some (Addr.mk (1 : Nat) (0 : Nat) none)), Value.pointer (some (Addr.mk (3 : Nat) (0 : Nat) none)), Value.slice (some (Addr.mk (0 : Nat) (0 : Nat) none)) n (2 :
     Nat), Value.int IntKind.i64 (↑n : Int), Value.int IntKind.i64 ((↑i : Int) + (1 : Int))] [some (Blk.mk false (9 : Nat) [Seg.any (n * (9 : Nat)) vs]), some (Blk.mk true (5 : Nat) [Seg.vals
     [Value.pointer (some (Addr.mk (2 : Nat) (0 : Nat) none))], Seg.ints IntKind.i64 (2 : Nat) [w, (vs.getD (i * (9 : Nat) + (2 : Nat)) (FV.b false)).asI], Seg.vals [Value.bool false, Value.pointer
     none]]), some (Blk.mk true (9 : Nat) [Seg.ints IntKind.i64 (9 : Nat) (pushR xs (vs.getD (i * (9 : Nat) + (2 : Nat)) (FV.b false)).asI)]), some (Blk.mk true (2 : Nat) [Seg.ints IntKind.i64 (1 : Nat)
     [w], Seg.vals [Value.slice (some (Addr.mk (4 : Nat) (0 : Nat) none)) (ts.length + (1 : Nat)) (1 : Nat)]]), some (Blk.mk true (10 : Nat) [Seg.any ((ts.length + (1 : Nat)) * (10 : Nat)) (flat ((ts ++
     [tE (vs.getD (i * (9 : Nat) + (2 : Nat)) (FV.b false)).asI]).set j (setG (ts.getD j th0))))])]) :=
  Eq.trans (b :=
     bif decide ((↑i : Int) < (↑n : Int)) then bif decide ((0 : Int) ≤ (↑i : Int)) && decide ((↑i : Int) < (↑n : Int)) then bif ((0 : Nat) + (↑i : Int).toNat * (9 : Nat)).blt (n * (9 : Nat)) then bif
     (vs.getD ((0 : Nat) + (↑i : Int).toNat * (9 : Nat)) (FV.b false)).isB then bif ((0 : Nat) + (↑i : Int).toNat * (9 : Nat) + (1 : Nat)).blt (n * (9 : Nat)) then bif (vs.getD ((0 : Nat) + (↑i :
     Int).toNat * (9 : Nat) + (1 : Nat)) (FV.b false)).isB then bif ((0 : Nat) + (↑i : Int).toNat * (9 : Nat) + (1 : Nat) + (1 : Nat)).blt (n * (9 : Nat)) then bif FV.isI IntKind.i64 (vs.getD ((0 : Nat) +
     (↑i : Int).toNat * (9 : Nat) + (1 : Nat) + (1 : Nat)) (FV.b false)) then bif ((0 : Nat) + (↑i : Int).toNat * (9 : Nat) + (1 : Nat) + (1 : Nat) + (1 : Nat)).blt (n * (9 : Nat)) then bif FV.isI
     IntKind.u8 (vs.getD ((0 : Nat) + (↑i : Int).toNat * (9 : Nat) + (1 : Nat) + (1 : Nat) + (1 : Nat)) (FV.b false)) then bif ((0 : Nat) + (↑i : Int).toNat * (9 : Nat) + (1 : Nat) + (1 : Nat) + (1 : Nat)
     + (1 : Nat)).blt (n * (9 : Nat)) then bif (vs.getD ((0 : Nat) + (↑i : Int).toNat * (9 : Nat) + (1 : Nat) + (1 : Nat) + (1 : Nat) + (1 : Nat)) (FV.b false)).isB then bif ((0 : Nat) + (↑i : Int).toNat *
     (9 : Nat) + (1 : Nat) + (1 : Nat) + (1 : Nat) + (1 : Nat) + (1 : Nat)).blt (n * (9 : Nat)) then bif FV.isI IntKind.i64 (vs.getD ((0 : Nat) + (↑i : Int).toNat * (9 : Nat) + (1 : Nat) + (1 : Nat) + (1 :
     Nat) + (1 : Nat) + (1 : Nat)) (FV.b false)) then bif ((0 : Nat) + (↑i : Int).toNat * (9 : Nat) + (1 : Nat) + (1 : Nat) + (1 : Nat) + (1 : Nat) + (1 : Nat) + (1 : Nat)).blt (n * (9 : Nat)) then bif
     (vs.getD ((0 : Nat) + (↑i : Int).toNat * (9 : Nat) + (1 : Nat) + (1 : Nat) + (1 : Nat) + (1 : Nat) + (1 : Nat) + (1 : Nat)) (FV.b false)).isB then bif ((0 : Nat) + (↑i : Int).toNat * (9 : Nat) + (1 :
     Nat) + (1 : Nat) + (1 : Nat) + (1 : Nat) + (1 : Nat) + (1 : Nat) + (1 : Nat)).blt (n * (9 : Nat)) then bif FV.isI IntKind.i64 (vs.getD ((0 : Nat) + (↑i : Int).toNat * (9 : Nat) + (1 : Nat) + (1 : Nat)
     + (1 : Nat) + (1 : Nat) + (1 : Nat) + (1 : Nat) + (1 : Nat)) (FV.b false)) then bif ((0 : Nat) + (↑i : Int).toNat * (9 : Nat) + (1 : Nat) + (1 : Nat) + (1 : Nat) + (1 : Nat) + (1 : Nat) + (1 : Nat) +
     (1 : Nat) + (1 : Nat)).blt (n * (9 : Nat)) then bif (vs.getD ((0 : Nat) + (↑i : Int).toNat * (9 : Nat) + (1 : Nat) + (1 : Nat) + (1 : Nat) + (1 : Nat) + (1 : Nat) + (1 : Nat) + (1 : Nat) + (1 : Nat))
     (FV.b false)).isB then bif (vs.getD ((0 : Nat) + (↑i : Int).toNat * (9 : Nat) + (1 : Nat)) (FV.b false)).asB then none else bif (vs.getD ((0 : Nat) + (↑i : Int).toNat * (9 : Nat)) (FV.b false)).asB
     then bif chk (now ≤ (vs.getD ((0 : Nat) + (↑i : Int).toNat * (9 : Nat) + (1 : Nat) + (1 : Nat)) (FV.b false)).asI ∧ (0 : Int) ≤ xs.getD (8 : Nat) (0 : Int) ∧ xs.getD (8 : Nat) (0 : Int) ≤ (1000 : Int)
     ∧ lowB xs (vs.getD ((0 : Nat) + (↑i : Int).toNat * (9 : Nat) + (1 : Nat) + (1 : Nat)) (FV.b false)).asI = false ∧ (0 : Int) ≤ a ∧ a ≤ (vs.getD ((0 : Nat) + (↑i : Int).toNat * (9 : Nat) + (1 : Nat) +
     (1 : Nat)) (FV.b false)).asI ∧ w < (vs.getD ((0 : Nat) + (↑i : Int).toNat * (9 : Nat) + (1 : Nat) + (1 : Nat)) (FV.b false)).asI - a) then bif chk (ts.length = ts.length ∧ ts.length * (10 : Nat) =
     ts.length * (10 : Nat) ∧ flat ts = flat ts ∧ ts.length ≤ (60 : Nat) ∧ mayP ts (vs.getD ((0 : Nat) + (↑i : Int).toNat * (9 : Nat) + (1 : Nat) + (1 : Nat)) (FV.b false)).asI ∧ waitI ts = (↑j : Int) ∧ j
     < ts.length ∧ RiseT ts ∧ w < (vs.getD ((0 : Nat) + (↑i : Int).toNat * (9 : Nat) + (1 : Nat) + (1 : Nat)) (FV.b false)).asI - (ts.getD j th0).a) then bif chk (ts.length + (1 : Nat) = ts'.length ∧
     (ts.length + (1 : Nat)) * (10 : Nat) = ts'.length * (10 : Nat) ∧ flat ((ts ++ [tE (vs.getD ((0 : Nat) + (↑i : Int).toNat * (9 : Nat) + (1 : Nat) + (1 : Nat)) (FV.b false)).asI]).set j (setG (ts.getD j
     th0))) = flat ts' ∧ ts.length + (1 : Nat) ≤ (60 : Nat) ∧ waitI ts' = (-1 : Int)) then on [Value.bool false, Value.pointer (some (Addr.mk (1 : Nat) (0 : Nat) none)), Value.pointer (some (Addr.mk (3 :
     Nat) (0 : Nat) none)), Value.slice (some (Addr.mk (0 : Nat) (0 : Nat) none)) n (2 : Nat), Value.int IntKind.i64 (↑n : Int), Value.int IntKind.i64 (IntKind.i64.wrap ((↑i : Int) + (1 : Int)))] [some
     (Blk.mk false (9 : Nat) [Seg.any (n * (9 : Nat)) vs]), some (Blk.mk true (5 : Nat) [Seg.vals [Value.pointer (some (Addr.mk (2 : Nat) (0 : Nat) none))], Seg.ints IntKind.i64 (2 : Nat) [w, (vs.getD ((0
     : Nat) + (↑i : Int).toNat * (9 : Nat) + (1 : Nat) + (1 : Nat)) (FV.b false)).asI], Seg.vals [Value.bool false, Value.pointer none]]), some (Blk.mk true (9 : Nat) [Seg.ints IntKind.i64 (9 : Nat) (pushR
     xs (vs.getD ((0 : Nat) + (↑i : Int).toNat * (9 : Nat) + (1 : Nat) + (1 : Nat)) (FV.b false)).asI)]), some (Blk.mk true (2 : Nat) [Seg.ints IntKind.i64 (1 : Nat) [w], Seg.vals [Value.slice (some
     (Addr.mk (4 : Nat) (0 : Nat) none)) (ts.length + (1 : Nat)) (1 : Nat)]]), some (Blk.mk true (10 : Nat) [Seg.any ((ts.length + (1 : Nat)) * (10 : Nat)) (flat ((ts ++ [tE (vs.getD ((0 : Nat) + (↑i :
     Int).toNat * (9 : Nat) + (1 : Nat) + (1 : Nat)) (FV.b false)).asI]).set j (setG (ts.getD j th0))))])] else none else none else none else none else none else none else none else none else none else
     none else none else none else none else none else none else none else none else none else none else none else none else none else none else none) (by kernel_rfl) (by simp only [-eq_self, Int.toNat_natCast, Nat.zero_add, swrap w1.1 w1.2]; exact (go_t (dec_t h1) (go_t (and_t (dec_t h2) (dec_t h1)) (go_t (blt_t h3) (go_t h4 (go_t (blt_t h5) (go_t h6 (go_t (blt_t h7) (go_t h8 (go_t (blt_t h9) (go_t h10 (go_t (blt_t h11) (go_t h12 (go_t (blt_t h13) (go_t h14 (go_t (blt_t h15) (go_t h16 (go_t (blt_t h17) (go_t h18 (go_t (blt_t h19) (go_t h20 (go_f h21 (go_t h22 (go_t (chk_t h23) (go_t (chk_t h24) (go_t (chk_t h25) rfl))))))))))))))))))))))))))
--CFEND
--CP p6eI (w now a : Int) (t : Bool) (m : Ms) (n i cc j : Nat) (xs : List Int) (vs : List FV) (ts ts' : List Th) (on : List Value → Heap → Out) (out : Exit → List Value → Heap → Out) :: roundK Try.prog ((S6e FEdgI (FREI ts j) FWtN (FWan ts')).on [(55, true), (84, false), (102, true), (122, false), (126, false), (132, false)]) noL Try.f6.ntmps 1 (loopOf Try.f6 0) live6 [.bool false, pt 1, pt 4, sl 0 n 2, w63 n, w63 i] [opsB n vs, PBe 2 w now t (pt 3), eB true xs, WB true a m, DBe 5 w ts.length cc, rowA true ts.length (flat ts)] on out
theorem p6eI (w now a : Int) (t : Bool) (m : Ms) (n i cc j : Nat) (xs : List Int) (vs : List FV) (ts ts' : List Th) (on : List Value → Heap → Out) (out : Exit → List Value → Heap → Out)
    (w1 : -9223372036854775808 ≤ (↑i : Int) + (1 : Int) ∧ (↑i : Int) + (1 : Int) ≤ 9223372036854775807 := by omega)
    (h1 : (↑i : Int) < (↑n : Int) := by first | omega | assumption | rfl)
    (h2 : (0 : Int) ≤ (↑i : Int) := by first | omega | assumption | rfl)
    (h3 : i * (9 : Nat) < n * (9 : Nat) := by first | omega | assumption | rfl)
    (h4 : (vs.getD (i * (9 : Nat)) (FV.b false)).isB = true := by first | omega | assumption | rfl)
    (h5 : i * (9 : Nat) + (1 : Nat) < n * (9 : Nat) := by first | omega | assumption | rfl)
    (h6 : (vs.getD (i * (9 : Nat) + (1 : Nat)) (FV.b false)).isB = true := by first | omega | assumption | rfl)
    (h7 : i * (9 : Nat) + (2 : Nat) < n * (9 : Nat) := by first | omega | assumption | rfl)
    (h8 : FV.isI IntKind.i64 (vs.getD (i * (9 : Nat) + (2 : Nat)) (FV.b false)) = true := by first | omega | assumption | rfl)
    (h9 : i * (9 : Nat) + (3 : Nat) < n * (9 : Nat) := by first | omega | assumption | rfl)
    (h10 : FV.isI IntKind.u8 (vs.getD (i * (9 : Nat) + (3 : Nat)) (FV.b false)) = true := by first | omega | assumption | rfl)
    (h11 : i * (9 : Nat) + (4 : Nat) < n * (9 : Nat) := by first | omega | assumption | rfl)
    (h12 : (vs.getD (i * (9 : Nat) + (4 : Nat)) (FV.b false)).isB = true := by first | omega | assumption | rfl)
    (h13 : i * (9 : Nat) + (5 : Nat) < n * (9 : Nat) := by first | omega | assumption | rfl)
    (h14 : FV.isI IntKind.i64 (vs.getD (i * (9 : Nat) + (5 : Nat)) (FV.b false)) = true := by first | omega | assumption | rfl)
    (h15 : i * (9 : Nat) + (6 : Nat) < n * (9 : Nat) := by first | omega | assumption | rfl)
    (h16 : (vs.getD (i * (9 : Nat) + (6 : Nat)) (FV.b false)).isB = true := by first | omega | assumption | rfl)
    (h17 : i * (9 : Nat) + (7 : Nat) < n * (9 : Nat) := by first | omega | assumption | rfl)
    (h18 : FV.isI IntKind.i64 (vs.getD (i * (9 : Nat) + (7 : Nat)) (FV.b false)) = true := by first | omega | assumption | rfl)
    (h19 : i * (9 : Nat) + (8 : Nat) < n * (9 : Nat) := by first | omega | assumption | rfl)
    (h20 : (vs.getD (i * (9 : Nat) + (8 : Nat)) (FV.b false)).isB = true := by first | omega | assumption | rfl)
    (h21 : (vs.getD (i * (9 : Nat) + (1 : Nat)) (FV.b false)).asB = false := by first | omega | assumption | rfl)
    (h22 : (vs.getD (i * (9 : Nat)) (FV.b false)).asB = true := by first | omega | assumption | rfl)
    (h23 : now ≤ (vs.getD (i * (9 : Nat) + (2 : Nat)) (FV.b false)).asI ∧ (0 : Int) ≤ xs.getD (8 : Nat) (0 : Int) ∧ xs.getD (8 : Nat) (0 : Int) ≤ (1000 : Int) ∧ lowB xs (vs.getD (i * (9 : Nat) + (2 : Nat)) (FV.b false)).asI = false ∧ (0 : Int) ≤ a ∧ a ≤ (vs.getD (i * (9 : Nat) + (2 : Nat)) (FV.b false)).asI ∧ (vs.getD (i * (9 : Nat) + (2 : Nat)) (FV.b false)).asI - a ≤ w := by first | omega | assumption | rfl | ((repeat' with_reducible apply And.intro) <;> first | rfl | assumption | omega))
    (h24 : ts.length = ts.length ∧ ts.length * (10 : Nat) = ts.length * (10 : Nat) ∧ flat ts = flat ts ∧ ts.length ≤ (60 : Nat) ∧ mayP ts (vs.getD (i * (9 : Nat) + (2 : Nat)) (FV.b false)).asI ∧ waitI ts = (↑j : Int) ∧ j < ts.length ∧ RiseT ts ∧ (vs.getD (i * (9 : Nat) + (2 : Nat)) (FV.b false)).asI - (ts.getD j th0).a ≤ w := by first | omega | assumption | rfl | ((repeat' with_reducible apply And.intro) <;> first | rfl | assumption | omega))
    (h25 : (vs.getD (i * (9 : Nat) + (2 : Nat)) (FV.b false)).asI = (vs.getD (i * (9 : Nat) + (2 : Nat)) (FV.b false)).asI := by first | omega | assumption | rfl)
    (h26 : m.kd = (ts.getD j th0).m.kd := by first | omega | assumption | rfl)
    (h27 : m.u = (ts.getD j th0).m.u := by first | omega | assumption | rfl)
    (h28 : m.s = (ts.getD j th0).m.s := by first | omega | assumption | rfl)
    (h29 : m.l = (ts.getD j th0).m.l := by first | omega | assumption | rfl)
    (h30 : m.c = (ts.getD j th0).m.c := by first | omega | assumption | rfl)
    (h31 : m.n = (ts.getD j th0).m.n := by first | omega | assumption | rfl)
    (h32 : ts.length + (1 : Nat) = ts'.length ∧ (ts.length + (1 : Nat)) * (10 : Nat) = ts'.length * (10 : Nat) ∧ flat (((ts ++ [tE (vs.getD (i * (9 : Nat) + (2 : Nat)) (FV.b false)).asI]).set j (setG (ts.getD j th0))).set ts.length (setI (tE (vs.getD (i * (9 : Nat) + (2 : Nat)) (FV.b false)).asI))) = flat ts' ∧ ts.length + (1 : Nat) ≤ (60 : Nat) ∧ waitI ts' = (-1 : Int) := by first | omega | assumption | rfl | ((repeat' with_reducible apply And.intro) <;> first | rfl | assumption | omega)) : roundK Try.prog ((S6e FEdgI (FREI ts j) FWtN (FWan ts')).on [(55, true), (84, false), (102, true), (122, false), (126, false), (132, false)]) noL Try.f6.ntmps 1 (loopOf Try.f6 0) live6 [.bool false, pt 1, pt 4, sl 0 n 2, w63 n, w63 i] [opsB n vs, PBe 2 w now t (pt 3), eB true xs, WB true a m, DBe 5 w ts.length cc, rowA true ts.length (flat ts)] on out =
     (on [Value.bool false, Value.pointer (some (Addr.mk (1 : Nat) (0 : Nat) none)), Value.pointer (some (Addr.mk (3 : Nat) (0 : Nat) none)), Value.slice (some (Addr.mk (0 : Nat) (0 : Nat) none)) n (2 :
     Nat), Value.int IntKind.i64 (↑n : Int), Value.int IntKind.i64 ((↑i : Int) + (1 : Int))] [some (Blk.mk false (9 : Nat) [Seg.any (n * (9 : Nat)) vs]), some (Blk.mk true (5 : Nat) [Seg.vals
     [Value.pointer (some (Addr.mk (2 : Nat) (0 : Nat) none))], Seg.ints IntKind.i64 (2 : Nat) [w, (vs.getD (i * (9 : Nat) + (2 : Nat)) (FV.b false)).asI], Seg.vals [Value.bool true, Value.pointer none]]),
     some (Blk.mk true (9 : Nat) [Seg.ints IntKind.i64 (9 : Nat) (pushR xs (vs.getD (i * (9 : Nat) + (2 : Nat)) (FV.b false)).asI)]), some (Blk.mk true (2 : Nat) [Seg.ints IntKind.i64 (1 : Nat) [w],
     Seg.vals [Value.slice (some (Addr.mk (4 : Nat) (0 : Nat) none)) (ts.length + (1 : Nat)) (1 : Nat)]]), some (Blk.mk true (10 : Nat) [Seg.any ((ts.length + (1 : Nat)) * (10 : Nat)) (flat (((ts ++ [tE
     (vs.getD (i * (9 : Nat) + (2 : Nat)) (FV.b false)).asI]).set j (setG (ts.getD j th0))).set ts.length (setI (tE (vs.getD (i * (9 : Nat) + (2 : Nat)) (FV.b false)).asI))))])]) :=
  Eq.trans (b :=
     bif decide ((↑i : Int) < (↑n : Int)) then bif decide ((0 : Int) ≤ (↑i : Int)) && decide ((↑i : Int) < (↑n : Int)) then bif ((0 : Nat) + (↑i : Int).toNat * (9 : Nat)).blt (n * (9 : Nat)) then bif
     (vs.getD ((0 : Nat) + (↑i : Int).toNat * (9 : Nat)) (FV.b false)).isB then bif ((0 : Nat) + (↑i : Int).toNat * (9 : Nat) + (1 : Nat)).blt (n * (9 : Nat)) then bif (vs.getD ((0 : Nat) + (↑i :
     Int).toNat * (9 : Nat) + (1 : Nat)) (FV.b false)).isB then bif ((0 : Nat) + (↑i : Int).toNat * (9 : Nat) + (1 : Nat) + (1 : Nat)).blt (n * (9 : Nat)) then bif FV.isI IntKind.i64 (vs.getD ((0 : Nat) +
     (↑i : Int).toNat * (9 : Nat) + (1 : Nat) + (1 : Nat)) (FV.b false)) then bif ((0 : Nat) + (↑i : Int).toNat * (9 : Nat) + (1 : Nat) + (1 : Nat) + (1 : Nat)).blt (n * (9 : Nat)) then bif FV.isI
     IntKind.u8 (vs.getD ((0 : Nat) + (↑i : Int).toNat * (9 : Nat) + (1 : Nat) + (1 : Nat) + (1 : Nat)) (FV.b false)) then bif ((0 : Nat) + (↑i : Int).toNat * (9 : Nat) + (1 : Nat) + (1 : Nat) + (1 : Nat)
     + (1 : Nat)).blt (n * (9 : Nat)) then bif (vs.getD ((0 : Nat) + (↑i : Int).toNat * (9 : Nat) + (1 : Nat) + (1 : Nat) + (1 : Nat) + (1 : Nat)) (FV.b false)).isB then bif ((0 : Nat) + (↑i : Int).toNat *
     (9 : Nat) + (1 : Nat) + (1 : Nat) + (1 : Nat) + (1 : Nat) + (1 : Nat)).blt (n * (9 : Nat)) then bif FV.isI IntKind.i64 (vs.getD ((0 : Nat) + (↑i : Int).toNat * (9 : Nat) + (1 : Nat) + (1 : Nat) + (1 :
     Nat) + (1 : Nat) + (1 : Nat)) (FV.b false)) then bif ((0 : Nat) + (↑i : Int).toNat * (9 : Nat) + (1 : Nat) + (1 : Nat) + (1 : Nat) + (1 : Nat) + (1 : Nat) + (1 : Nat)).blt (n * (9 : Nat)) then bif
     (vs.getD ((0 : Nat) + (↑i : Int).toNat * (9 : Nat) + (1 : Nat) + (1 : Nat) + (1 : Nat) + (1 : Nat) + (1 : Nat) + (1 : Nat)) (FV.b false)).isB then bif ((0 : Nat) + (↑i : Int).toNat * (9 : Nat) + (1 :
     Nat) + (1 : Nat) + (1 : Nat) + (1 : Nat) + (1 : Nat) + (1 : Nat) + (1 : Nat)).blt (n * (9 : Nat)) then bif FV.isI IntKind.i64 (vs.getD ((0 : Nat) + (↑i : Int).toNat * (9 : Nat) + (1 : Nat) + (1 : Nat)
     + (1 : Nat) + (1 : Nat) + (1 : Nat) + (1 : Nat) + (1 : Nat)) (FV.b false)) then bif ((0 : Nat) + (↑i : Int).toNat * (9 : Nat) + (1 : Nat) + (1 : Nat) + (1 : Nat) + (1 : Nat) + (1 : Nat) + (1 : Nat) +
     (1 : Nat) + (1 : Nat)).blt (n * (9 : Nat)) then bif (vs.getD ((0 : Nat) + (↑i : Int).toNat * (9 : Nat) + (1 : Nat) + (1 : Nat) + (1 : Nat) + (1 : Nat) + (1 : Nat) + (1 : Nat) + (1 : Nat) + (1 : Nat))
     (FV.b false)).isB then bif (vs.getD ((0 : Nat) + (↑i : Int).toNat * (9 : Nat) + (1 : Nat)) (FV.b false)).asB then none else bif (vs.getD ((0 : Nat) + (↑i : Int).toNat * (9 : Nat)) (FV.b false)).asB
     then bif chk (now ≤ (vs.getD ((0 : Nat) + (↑i : Int).toNat * (9 : Nat) + (1 : Nat) + (1 : Nat)) (FV.b false)).asI ∧ (0 : Int) ≤ xs.getD (8 : Nat) (0 : Int) ∧ xs.getD (8 : Nat) (0 : Int) ≤ (1000 : Int)
     ∧ lowB xs (vs.getD ((0 : Nat) + (↑i : Int).toNat * (9 : Nat) + (1 : Nat) + (1 : Nat)) (FV.b false)).asI = false ∧ (0 : Int) ≤ a ∧ a ≤ (vs.getD ((0 : Nat) + (↑i : Int).toNat * (9 : Nat) + (1 : Nat) +
     (1 : Nat)) (FV.b false)).asI ∧ (vs.getD ((0 : Nat) + (↑i : Int).toNat * (9 : Nat) + (1 : Nat) + (1 : Nat)) (FV.b false)).asI - a ≤ w) then bif chk (ts.length = ts.length ∧ ts.length * (10 : Nat) =
     ts.length * (10 : Nat) ∧ flat ts = flat ts ∧ ts.length ≤ (60 : Nat) ∧ mayP ts (vs.getD ((0 : Nat) + (↑i : Int).toNat * (9 : Nat) + (1 : Nat) + (1 : Nat)) (FV.b false)).asI ∧ waitI ts = (↑j : Int) ∧ j
     < ts.length ∧ RiseT ts ∧ (vs.getD ((0 : Nat) + (↑i : Int).toNat * (9 : Nat) + (1 : Nat) + (1 : Nat)) (FV.b false)).asI - (ts.getD j th0).a ≤ w) then bif !((vs.getD ((0 : Nat) + (↑i : Int).toNat * (9 :
     Nat) + (1 : Nat) + (1 : Nat)) (FV.b false)).asI == (vs.getD ((0 : Nat) + (↑i : Int).toNat * (9 : Nat) + (1 : Nat) + (1 : Nat)) (FV.b false)).asI && (m.kd == (ts.getD j th0).m.kd && (m.u == (ts.getD j
     th0).m.u && (m.s == (ts.getD j th0).m.s && (m.l == (ts.getD j th0).m.l && (m.c == (ts.getD j th0).m.c && (m.n == (ts.getD j th0).m.n && true))))) && true)) then none else bif chk (ts.length + (1 :
     Nat) = ts'.length ∧ (ts.length + (1 : Nat)) * (10 : Nat) = ts'.length * (10 : Nat) ∧ flat (((ts ++ [tE (vs.getD ((0 : Nat) + (↑i : Int).toNat * (9 : Nat) + (1 : Nat) + (1 : Nat)) (FV.b
     false)).asI]).set j (setG (ts.getD j th0))).set ts.length (setI (tE (vs.getD ((0 : Nat) + (↑i : Int).toNat * (9 : Nat) + (1 : Nat) + (1 : Nat)) (FV.b false)).asI))) = flat ts' ∧ ts.length + (1 : Nat)
     ≤ (60 : Nat) ∧ waitI ts' = (-1 : Int)) then on [Value.bool false, Value.pointer (some (Addr.mk (1 : Nat) (0 : Nat) none)), Value.pointer (some (Addr.mk (3 : Nat) (0 : Nat) none)), Value.slice (some
     (Addr.mk (0 : Nat) (0 : Nat) none)) n (2 : Nat), Value.int IntKind.i64 (↑n : Int), Value.int IntKind.i64 (IntKind.i64.wrap ((↑i : Int) + (1 : Int)))] [some (Blk.mk false (9 : Nat) [Seg.any (n * (9 :
     Nat)) vs]), some (Blk.mk true (5 : Nat) [Seg.vals [Value.pointer (some (Addr.mk (2 : Nat) (0 : Nat) none))], Seg.ints IntKind.i64 (2 : Nat) [w, (vs.getD ((0 : Nat) + (↑i : Int).toNat * (9 : Nat) + (1
     : Nat) + (1 : Nat)) (FV.b false)).asI], Seg.vals [Value.bool true, Value.pointer none]]), some (Blk.mk true (9 : Nat) [Seg.ints IntKind.i64 (9 : Nat) (pushR xs (vs.getD ((0 : Nat) + (↑i : Int).toNat *
     (9 : Nat) + (1 : Nat) + (1 : Nat)) (FV.b false)).asI)]), some (Blk.mk true (2 : Nat) [Seg.ints IntKind.i64 (1 : Nat) [w], Seg.vals [Value.slice (some (Addr.mk (4 : Nat) (0 : Nat) none)) (ts.length +
     (1 : Nat)) (1 : Nat)]]), some (Blk.mk true (10 : Nat) [Seg.any ((ts.length + (1 : Nat)) * (10 : Nat)) (flat (((ts ++ [tE (vs.getD ((0 : Nat) + (↑i : Int).toNat * (9 : Nat) + (1 : Nat) + (1 : Nat))
     (FV.b false)).asI]).set j (setG (ts.getD j th0))).set ts.length (setI (tE (vs.getD ((0 : Nat) + (↑i : Int).toNat * (9 : Nat) + (1 : Nat) + (1 : Nat)) (FV.b false)).asI))))])] else none else none else
     none else none else none else none else none else none else none else none else none else none else none else none else none else none else none else none else none else none else none else none else
     none else none) (by kernel_rfl) (by simp only [-eq_self, Int.toNat_natCast, Nat.zero_add, swrap w1.1 w1.2]; exact (go_t (dec_t h1) (go_t (and_t (dec_t h2) (dec_t h1)) (go_t (blt_t h3) (go_t h4 (go_t (blt_t h5) (go_t h6 (go_t (blt_t h7) (go_t h8 (go_t (blt_t h9) (go_t h10 (go_t (blt_t h11) (go_t h12 (go_t (blt_t h13) (go_t h14 (go_t (blt_t h15) (go_t h16 (go_t (blt_t h17) (go_t h18 (go_t (blt_t h19) (go_t h20 (go_f h21 (go_t h22 (go_t (chk_t h23) (go_t (chk_t h24) (go_f (not_f (and_t (eqb_t h25) (and_t (and_t (eqb_t h26) (and_t (eqb_t h27) (and_t (eqb_t h28) (and_t (eqb_t h29) (and_t (eqb_t h30) (and_t (eqb_t h31) rfl)))))) rfl))) (go_t (chk_t h32) rfl)))))))))))))))))))))))))))
--CFEND
end Go.Proofs.Ytpidmcpnkfgcjaa.VC
