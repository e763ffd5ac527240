/- PairPlays: the document's pairing: closed forms by paths. -/
import Derived.Test.YtpidmcpnkfgcjaaP5D
namespace Go.Proofs.Ytpidmcpnkfgcjaa.VC
open Go Go.Proofs

abbrev slo (id o n c : Nat) : Value := .slice (some ⟨id, o, none⟩) n c
abbrev DB (own : Bool) (w : Int) (n c : Nat) : Option Blk := some ⟨own, 2, [.ints .i64 1 [w], .vals [slo 1 0 n c]]⟩
abbrev rowA (own : Bool) (n : Nat) (vs : List FV) : Option Blk := some ⟨own, 10, [.any (n * 10) vs]⟩
--CP pMayN (c w : Int) (n cc : Nat) (vs : List FV) :: fnK Try.prog ((mkS []).on [(7, false)]) noL Try.f53 [pt 0, w63 c] [DB false w n cc, rowA false n vs]
theorem pMayN (c w : Int) (n cc : Nat) (vs : List FV)
    (h1 : ¬c ≥ (0 : Int) := by first | omega | assumption | rfl) : fnK Try.prog ((mkS []).on [(7, false)]) noL Try.f53 [pt 0, w63 c] [DB false w n cc, rowA false n vs] =
     (some (Res.ret (Value.bool false) [some (Blk.mk false (2 : Nat) [Seg.ints IntKind.i64 (1 : Nat) [w], Seg.vals [Value.slice (some (Addr.mk (1 : Nat) (0 : Nat) none)) n cc]]), some (Blk.mk false (10 :
     Nat) [Seg.any (n * (10 : Nat)) vs])])) :=
  Eq.trans (by kernel_rfl) (go_f (dec_f h1) rfl)
--CFEND
--CP pMayE (c w : Int) (n cc : Nat) (vs : List FV) :: fnK Try.prog ((mkS []).on [(7, true), (14, true)]) noL Try.f53 [pt 0, w63 c] [DB false w n cc, rowA false n vs]
theorem pMayE (c w : Int) (n cc : Nat) (vs : List FV)
    (h1 : c ≥ (0 : Int) := by first | omega | assumption | rfl)
    (h2 : (↑n : Int) = (0 : Int) := by first | omega | assumption | rfl) : fnK Try.prog ((mkS []).on [(7, true), (14, true)]) noL Try.f53 [pt 0, w63 c] [DB false w n cc, rowA false n vs] =
     (some (Res.ret (Value.bool true) [some (Blk.mk false (2 : Nat) [Seg.ints IntKind.i64 (1 : Nat) [w], Seg.vals [Value.slice (some (Addr.mk (1 : Nat) (0 : Nat) none)) n cc]]), some (Blk.mk false (10 :
     Nat) [Seg.any (n * (10 : Nat)) vs])])) :=
  Eq.trans (by kernel_rfl) (go_t (dec_t h1) (go_t (eqb_t h2) rfl))
--CFEND
--CP pMayL (c w : Int) (n cc : Nat) (vs : List FV) :: fnK Try.prog ((mkS []).on [(7, true), (14, false)]) noL Try.f53 [pt 0, w63 c] [DB false w n cc, rowA false n vs]
theorem pMayL (c w : Int) (n cc : Nat) (vs : List FV)
    (w1 : -9223372036854775808 ≤ (↑n : Int) - (1 : Int) ∧ (↑n : Int) - (1 : Int) ≤ 9223372036854775807 := by omega)
    (h1 : c ≥ (0 : Int) := by first | omega | assumption | rfl)
    (h2 : (↑n : Int) ≠ (0 : Int) := by first | omega | assumption | rfl)
    (h3 : (0 : Int) ≤ (↑n : Int) - (1 : Int) := by first | omega | assumption | rfl)
    (h4 : (↑n : Int) - (1 : Int) < (↑n : Int) := by first | omega | assumption | rfl)
    (h5 : ((↑n : Int) - (1 : Int)).toNat * (10 : Nat) < n * (10 : Nat) := by first | omega | assumption | rfl)
    (h6 : FV.isI IntKind.i64 (vs.getD (((↑n : Int) - (1 : Int)).toNat * (10 : Nat)) (FV.b false)) = true := by first | omega | assumption | rfl) : fnK Try.prog ((mkS []).on [(7, true), (14, false)]) noL Try.f53 [pt 0, w63 c] [DB false w n cc, rowA false n vs] =
     (some (Res.ret (Value.bool (decide (c ≥ (vs.getD (((↑n : Int) - (1 : Int)).toNat * (10 : Nat)) (FV.b false)).asI))) [some (Blk.mk false (2 : Nat) [Seg.ints IntKind.i64 (1 : Nat) [w], Seg.vals
     [Value.slice (some (Addr.mk (1 : Nat) (0 : Nat) none)) n cc]]), some (Blk.mk false (10 : Nat) [Seg.any (n * (10 : Nat)) vs])])) :=
  Eq.trans (b :=
     bif decide (c ≥ (0 : Int)) then bif (↑n : Int) == (0 : Int) then none else bif decide ((0 : Int) ≤ IntKind.i64.wrap ((↑n : Int) - (1 : Int))) && decide (IntKind.i64.wrap ((↑n : Int) - (1 : Int)) < (↑n
     : Int)) then bif ((0 : Nat) + (IntKind.i64.wrap ((↑n : Int) - (1 : Int))).toNat * (10 : Nat)).blt (n * (10 : Nat)) then bif FV.isI IntKind.i64 (vs.getD ((0 : Nat) + (IntKind.i64.wrap ((↑n : Int) - (1
     : Int))).toNat * (10 : Nat)) (FV.b false)) then some (Res.ret (Value.bool (decide (c ≥ (vs.getD ((0 : Nat) + (IntKind.i64.wrap ((↑n : Int) - (1 : Int))).toNat * (10 : Nat)) (FV.b false)).asI))) [some
     (Blk.mk false (2 : Nat) [Seg.ints IntKind.i64 (1 : Nat) [w], Seg.vals [Value.slice (some (Addr.mk (1 : Nat) (0 : Nat) none)) n cc]]), some (Blk.mk false (10 : Nat) [Seg.any (n * (10 : Nat)) vs])])
     else none else none else none else none) (by kernel_rfl) (by simp only [-eq_self, Nat.zero_add, swrap w1.1 w1.2]; exact (go_t (dec_t h1) (go_f (eqb_f h2) (go_t (and_t (dec_t h3) (dec_t h4)) (go_t (blt_t h5) (go_t h6 rfl))))))
--CFEND
/-- What came. -/
structure Th where
  a : Int
  e : Bool
  m : Ms
  i : Bool
  g : Bool
abbrev thC (t : Th) : List Value := [w63 t.a, .bool t.e, .int .u8 t.m.kd, .bool t.m.u, w63 t.m.s, .bool t.m.l, w63 t.m.c, .bool t.m.n, .bool t.i, .bool t.g]
def thF (t : Th) : List FV := [.i .i64 t.a, .b t.e, .i .u8 t.m.kd, .b t.m.u, .i .i64 t.m.s, .b t.m.l, .i .i64 t.m.c, .b t.m.n, .b t.i, .b t.g]
--CP pAdd (w : Int) (n cc : Nat) (vs : List FV) (t : Th) :: fnK Try.prog ((mkS []).calm [(1, [7], [2])]) noL Try.f54 [pt 0, .agg ⟨thC t⟩] [DB true w n cc, rowA true n vs]
theorem pAdd (w : Int) (n cc : Nat) (vs : List FV) (t : Th)
    (h1 : n * (10 : Nat) ≤ n * (10 : Nat) := by first | omega | assumption | rfl)
    (h2 : n * (64 : Nat) ≤ (140737488355328 : Nat) := by first | omega | assumption | rfl)
    (h3 : n ≤ (4611686018427387904 : Nat) := by first | omega | assumption | rfl)
    (h4 : (n + (1 : Nat)) * (64 : Nat) ≤ (140737488355328 : Nat) := by first | omega | assumption | rfl)
    (h5 : n + (1 : Nat) ≤ (4611686018427387904 : Nat) := by first | omega | assumption | rfl)
    (h6 : n * (10 : Nat) = segsLen [Seg.any (n * (10 : Nat)) (List.take (n * (10 : Nat)) vs)] := by first | omega | assumption | rfl) : fnK Try.prog ((mkS []).calm [(1, [7], [2])]) noL Try.f54 [pt 0, .agg ⟨thC t⟩] [DB true w n cc, rowA true n vs] =
     (some (Res.ret (Value.tuple (Array.mk [])) [some (Blk.mk true (2 : Nat) [Seg.ints IntKind.i64 (1 : Nat) [w], Seg.vals [Value.slice (some (Addr.mk (2 : Nat) (0 : Nat) none)) (n + (1 : Nat)) (1 :
     Nat)]]), some (Blk.mk true (10 : Nat) [Seg.any (n * (10 : Nat)) vs]), some (Blk.mk true (10 : Nat) [Seg.any (n * (10 : Nat) + (10 : Nat)) ((List.take (((0 : Nat) + n) * 10) (List.drop (0 : Nat) (List.take (n * 10) (List.drop (0 : Nat) vs)))) ++ (List.map (FV.i
     IntKind.i64) [t.a] ++ ([FV.b t.e] ++ (List.map (FV.i IntKind.u8) [t.m.kd] ++ ([FV.b t.m.u] ++ (List.map (FV.i IntKind.i64) [t.m.s] ++ ([FV.b t.m.l] ++ (List.map (FV.i IntKind.i64) [t.m.c] ++ [FV.b
     t.m.n, FV.b t.i, FV.b t.g]))))))))])])) :=
  Eq.trans (b :=
     bif (n * (10 : Nat)).ble (n * (10 : Nat)) then bif decide (((0 : Nat) + n) * (64 : Nat) ≤ (140737488355328 : Nat)) && ((0 : Nat) + n).ble (OfNat.ofNat (4611686018427387904 : Nat)) then bif (((0 : Nat)
     + n) * (10 : Nat)).ble (n * (10 : Nat)) then bif decide (((0 : Nat) + n + (1 : Nat)) * (64 : Nat) ≤ (140737488355328 : Nat)) && ((0 : Nat) + n + (1 : Nat)).ble (OfNat.ofNat (4611686018427387904 :
     Nat)) then bif ((0 : Nat) + ((0 : Nat) + n) * (10 : Nat)).beq (segsLen [Seg.any (n * (10 : Nat)) (List.take (n * (10 : Nat)) vs)]) && true then some (Res.ret (Value.tuple (Array.mk [])) [some (Blk.mk
     true (2 : Nat) [Seg.ints IntKind.i64 (1 : Nat) [w], Seg.vals [Value.slice (some (Addr.mk (2 : Nat) (0 : Nat) none)) ((0 : Nat) + n + (1 : Nat)) (1 : Nat)]]), some (Blk.mk true (10 : Nat) [Seg.any (n *
     (10 : Nat)) vs]), some (Blk.mk true (10 : Nat) [Seg.any (((0 : Nat) + n) * (10 : Nat) + (10 : Nat)) ((List.take (((0 : Nat) + n) *
     10) (List.drop (0 : Nat) (List.take (n * 10) (List.drop (0 : Nat) vs)))) ++ (List.map (FV.i IntKind.i64) [t.a] ++ ([FV.b t.e]
     ++ (List.map (FV.i IntKind.u8) [t.m.kd] ++ ([FV.b t.m.u] ++ (List.map (FV.i IntKind.i64) [t.m.s] ++ ([FV.b t.m.l] ++ (List.map (FV.i IntKind.i64) [t.m.c] ++ [FV.b t.m.n, FV.b t.i, FV.b
     t.g]))))))))])]) else none else none else none else none else none) (by kernel_rfl) (by simp only [-eq_self, Nat.zero_add]; exact (go_t (ble_t h1) (go_t (and_t (dec_t h2) (ble_t h3)) (go_t (ble_t h1) (go_t (and_t (dec_t h4) (ble_t h5)) (go_t (and_t (beq_t h6) rfl) rfl))))))
--CFEND
def live34 : List Nat := [2, 0, 3]
--CP p34e (w : Int) (n cc i : Nat) (vs : List FV) (on : List Value → Heap → Out) (out : Exit → List Value → Heap → Out) :: roundK Try.prog ((mkS []).on [(11, true), (23, false)]) noL Try.f34.ntmps 2 (loopOf Try.f34 0) live34 [w63 0, pt 0, w63 i] [DB false w n cc, rowA false n vs] on out
theorem p34e (w : Int) (n cc i : Nat) (vs : List FV) (on : List Value → Heap → Out) (out : Exit → List Value → Heap → Out)
    (w1 : -9223372036854775808 ≤ (↑i : Int) - (1 : Int) ∧ (↑i : Int) - (1 : Int) ≤ 9223372036854775807 := by omega)
    (h1 : (0 : Int) ≤ (↑i : Int) := by first | omega | assumption | rfl)
    (h2 : (↑i : Int) < (↑n : Int) := by first | omega | assumption | rfl)
    (h3 : i * (10 : Nat) + (1 : Nat) < n * (10 : Nat) := by first | omega | assumption | rfl)
    (h4 : (vs.getD (i * (10 : Nat) + (1 : Nat)) (FV.b false)).isB = true := by first | omega | assumption | rfl)
    (h5 : (vs.getD (i * (10 : Nat) + (1 : Nat)) (FV.b false)).asB = true := by first | omega | assumption | rfl) : roundK Try.prog ((mkS []).on [(11, true), (23, false)]) noL Try.f34.ntmps 2 (loopOf Try.f34 0) live34 [w63 0, pt 0, w63 i] [DB false w n cc, rowA false n vs] on out =
     (on [Value.int IntKind.i64 (0 : Int), Value.pointer (some (Addr.mk (0 : Nat) (0 : Nat) none)), Value.int IntKind.i64 ((↑i : Int) - (1 : Int))] [some (Blk.mk false (2 : Nat) [Seg.ints IntKind.i64 (1 :
     Nat) [w], Seg.vals [Value.slice (some (Addr.mk (1 : Nat) (0 : Nat) none)) n cc]]), some (Blk.mk false (10 : Nat) [Seg.any (n * (10 : Nat)) vs])]) :=
  Eq.trans (b :=
     bif decide ((0 : Int) ≤ (↑i : Int)) && decide ((↑i : Int) < (↑n : Int)) then bif ((0 : Nat) + (↑i : Int).toNat * (10 : Nat) + (1 : Nat)).blt (n * (10 : Nat)) then bif (vs.getD ((0 : Nat) + (↑i :
     Int).toNat * (10 : Nat) + (1 : Nat)) (FV.b false)).isB then bif !(vs.getD ((0 : Nat) + (↑i : Int).toNat * (10 : Nat) + (1 : Nat)) (FV.b false)).asB then none else on [Value.int IntKind.i64 (0 : Int),
     Value.pointer (some (Addr.mk (0 : Nat) (0 : Nat) none)), Value.int IntKind.i64 (IntKind.i64.wrap ((↑i : Int) - (1 : Int)))] [some (Blk.mk false (2 : Nat) [Seg.ints IntKind.i64 (1 : Nat) [w], Seg.vals
     [Value.slice (some (Addr.mk (1 : Nat) (0 : Nat) none)) n cc]]), some (Blk.mk false (10 : Nat) [Seg.any (n * (10 : Nat)) vs])] else none else none else none) (by kernel_rfl) (by simp only [-eq_self, Int.toNat_natCast, Nat.zero_add, swrap w1.1 w1.2]; exact (go_t (and_t (dec_t h1) (dec_t h2)) (go_t (blt_t h3) (go_t h4 (go_f (not_f h5) rfl)))))
--CFEND
--CP p34n (w : Int) (n cc i : Nat) (vs : List FV) (on : List Value → Heap → Out) (out : Exit → List Value → Heap → Out) :: roundK Try.prog ((mkS []).on [(11, true), (23, true), (33, false)]) noL Try.f34.ntmps 2 (loopOf Try.f34 0) live34 [w63 0, pt 0, w63 i] [DB false w n cc, rowA false n vs] on out
theorem p34n (w : Int) (n cc i : Nat) (vs : List FV) (on : List Value → Heap → Out) (out : Exit → List Value → Heap → Out)
    (w1 : -9223372036854775808 ≤ (↑i : Int) - (1 : Int) ∧ (↑i : Int) - (1 : Int) ≤ 9223372036854775807 := by omega)
    (h1 : (0 : Int) ≤ (↑i : Int) := by first | omega | assumption | rfl)
    (h2 : (↑i : Int) < (↑n : Int) := by first | omega | assumption | rfl)
    (h3 : i * (10 : Nat) + (1 : Nat) < n * (10 : Nat) := by first | omega | assumption | rfl)
    (h4 : (vs.getD (i * (10 : Nat) + (1 : Nat)) (FV.b false)).isB = true := by first | omega | assumption | rfl)
    (h5 : (vs.getD (i * (10 : Nat) + (1 : Nat)) (FV.b false)).asB = false := by first | omega | assumption | rfl)
    (h6 : i * (10 : Nat) + (7 : Nat) < n * (10 : Nat) := by first | omega | assumption | rfl)
    (h7 : (vs.getD (i * (10 : Nat) + (7 : Nat)) (FV.b false)).isB = true := by first | omega | assumption | rfl)
    (h8 : (vs.getD (i * (10 : Nat) + (7 : Nat)) (FV.b false)).asB = false := by first | omega | assumption | rfl) : roundK Try.prog ((mkS []).on [(11, true), (23, true), (33, false)]) noL Try.f34.ntmps 2 (loopOf Try.f34 0) live34 [w63 0, pt 0, w63 i] [DB false w n cc, rowA false n vs] on out =
     (on [Value.int IntKind.i64 (0 : Int), Value.pointer (some (Addr.mk (0 : Nat) (0 : Nat) none)), Value.int IntKind.i64 ((↑i : Int) - (1 : Int))] [some (Blk.mk false (2 : Nat) [Seg.ints IntKind.i64 (1 :
     Nat) [w], Seg.vals [Value.slice (some (Addr.mk (1 : Nat) (0 : Nat) none)) n cc]]), some (Blk.mk false (10 : Nat) [Seg.any (n * (10 : Nat)) vs])]) :=
  Eq.trans (b :=
     bif decide ((0 : Int) ≤ (↑i : Int)) && decide ((↑i : Int) < (↑n : Int)) then bif ((0 : Nat) + (↑i : Int).toNat * (10 : Nat) + (1 : Nat)).blt (n * (10 : Nat)) then bif (vs.getD ((0 : Nat) + (↑i :
     Int).toNat * (10 : Nat) + (1 : Nat)) (FV.b false)).isB then bif !(vs.getD ((0 : Nat) + (↑i : Int).toNat * (10 : Nat) + (1 : Nat)) (FV.b false)).asB then bif decide ((0 : Int) ≤ (↑i : Int)) && decide
     ((↑i : Int) < (↑n : Int)) then bif ((0 : Nat) + (↑i : Int).toNat * (10 : Nat) + (2 : Nat) + (5 : Nat)).blt (n * (10 : Nat)) then bif (vs.getD ((0 : Nat) + (↑i : Int).toNat * (10 : Nat) + (2 : Nat) +
     (5 : Nat)) (FV.b false)).isB then bif (vs.getD ((0 : Nat) + (↑i : Int).toNat * (10 : Nat) + (2 : Nat) + (5 : Nat)) (FV.b false)).asB then none else on [Value.int IntKind.i64 (0 : Int), Value.pointer
     (some (Addr.mk (0 : Nat) (0 : Nat) none)), Value.int IntKind.i64 (IntKind.i64.wrap ((↑i : Int) - (1 : Int)))] [some (Blk.mk false (2 : Nat) [Seg.ints IntKind.i64 (1 : Nat) [w], Seg.vals [Value.slice
     (some (Addr.mk (1 : Nat) (0 : Nat) none)) n cc]]), some (Blk.mk false (10 : Nat) [Seg.any (n * (10 : Nat)) vs])] else none else none else none else none else none else none else none) (by kernel_rfl) (by simp only [-eq_self, Int.toNat_natCast, Nat.zero_add, swrap w1.1 w1.2]; exact (go_t (and_t (dec_t h1) (dec_t h2)) (go_t (blt_t h3) (go_t h4 (go_t (not_t h5) (go_t (and_t (dec_t h1) (dec_t h2)) (go_t (blt_t h6) (go_t h7 (go_f h8 rfl)))))))))
--CFEND
--CP p34g (w : Int) (n cc i : Nat) (vs : List FV) (on : List Value → Heap → Out) (out : Exit → List Value → Heap → Out) :: roundK Try.prog ((mkS []).on [(11, true), (23, true), (33, true), (41, true)]) noL Try.f34.ntmps 2 (loopOf Try.f34 0) live34 [w63 0, pt 0, w63 i] [DB false w n cc, rowA false n vs] on out
theorem p34g (w : Int) (n cc i : Nat) (vs : List FV) (on : List Value → Heap → Out) (out : Exit → List Value → Heap → Out)
    (h1 : (0 : Int) ≤ (↑i : Int) := by first | omega | assumption | rfl)
    (h2 : (↑i : Int) < (↑n : Int) := by first | omega | assumption | rfl)
    (h3 : i * (10 : Nat) + (1 : Nat) < n * (10 : Nat) := by first | omega | assumption | rfl)
    (h4 : (vs.getD (i * (10 : Nat) + (1 : Nat)) (FV.b false)).isB = true := by first | omega | assumption | rfl)
    (h5 : (vs.getD (i * (10 : Nat) + (1 : Nat)) (FV.b false)).asB = false := by first | omega | assumption | rfl)
    (h6 : i * (10 : Nat) + (7 : Nat) < n * (10 : Nat) := by first | omega | assumption | rfl)
    (h7 : (vs.getD (i * (10 : Nat) + (7 : Nat)) (FV.b false)).isB = true := by first | omega | assumption | rfl)
    (h8 : (vs.getD (i * (10 : Nat) + (7 : Nat)) (FV.b false)).asB = true := by first | omega | assumption | rfl)
    (h9 : i * (10 : Nat) + (9 : Nat) < n * (10 : Nat) := by first | omega | assumption | rfl)
    (h10 : (vs.getD (i * (10 : Nat) + (9 : Nat)) (FV.b false)).isB = true := by first | omega | assumption | rfl)
    (h11 : (vs.getD (i * (10 : Nat) + (9 : Nat)) (FV.b false)).asB = true := by first | omega | assumption | rfl) : roundK Try.prog ((mkS []).on [(11, true), (23, true), (33, true), (41, true)]) noL Try.f34.ntmps 2 (loopOf Try.f34 0) live34 [w63 0, pt 0, w63 i] [DB false w n cc, rowA false n vs] on out =
     (out Exit.ret [Value.int IntKind.i64 (-1 : Int), Value.pointer (some (Addr.mk (0 : Nat) (0 : Nat) none)), Value.int IntKind.i64 (↑i : Int)] [some (Blk.mk false (2 : Nat) [Seg.ints IntKind.i64 (1 :
     Nat) [w], Seg.vals [Value.slice (some (Addr.mk (1 : Nat) (0 : Nat) none)) n cc]]), some (Blk.mk false (10 : Nat) [Seg.any (n * (10 : Nat)) vs])]) :=
  Eq.trans (b :=
     bif decide ((0 : Int) ≤ (↑i : Int)) && decide ((↑i : Int) < (↑n : Int)) then bif ((0 : Nat) + (↑i : Int).toNat * (10 : Nat) + (1 : Nat)).blt (n * (10 : Nat)) then bif (vs.getD ((0 : Nat) + (↑i :
     Int).toNat * (10 : Nat) + (1 : Nat)) (FV.b false)).isB then bif !(vs.getD ((0 : Nat) + (↑i : Int).toNat * (10 : Nat) + (1 : Nat)) (FV.b false)).asB then bif decide ((0 : Int) ≤ (↑i : Int)) && decide
     ((↑i : Int) < (↑n : Int)) then bif ((0 : Nat) + (↑i : Int).toNat * (10 : Nat) + (2 : Nat) + (5 : Nat)).blt (n * (10 : Nat)) then bif (vs.getD ((0 : Nat) + (↑i : Int).toNat * (10 : Nat) + (2 : Nat) +
     (5 : Nat)) (FV.b false)).isB then bif (vs.getD ((0 : Nat) + (↑i : Int).toNat * (10 : Nat) + (2 : Nat) + (5 : Nat)) (FV.b false)).asB then bif decide ((0 : Int) ≤ (↑i : Int)) && decide ((↑i : Int) <
     (↑n : Int)) then bif ((0 : Nat) + (↑i : Int).toNat * (10 : Nat) + (9 : Nat)).blt (n * (10 : Nat)) then bif (vs.getD ((0 : Nat) + (↑i : Int).toNat * (10 : Nat) + (9 : Nat)) (FV.b false)).isB then bif
     (vs.getD ((0 : Nat) + (↑i : Int).toNat * (10 : Nat) + (9 : Nat)) (FV.b false)).asB then out Exit.ret [Value.int IntKind.i64 (-1 : Int), Value.pointer (some (Addr.mk (0 : Nat) (0 : Nat) none)),
     Value.int IntKind.i64 (↑i : Int)] [some (Blk.mk false (2 : Nat) [Seg.ints IntKind.i64 (1 : Nat) [w], Seg.vals [Value.slice (some (Addr.mk (1 : Nat) (0 : Nat) none)) n cc]]), some (Blk.mk false (10 :
     Nat) [Seg.any (n * (10 : Nat)) vs])] else none else none else none else none else none else none else none else none else none else none else none else none) (by kernel_rfl) (by simp only [-eq_self, Int.toNat_natCast, Nat.zero_add]; exact (go_t (and_t (dec_t h1) (dec_t h2)) (go_t (blt_t h3) (go_t h4 (go_t (not_t h5) (go_t (and_t (dec_t h1) (dec_t h2)) (go_t (blt_t h6) (go_t h7 (go_t h8 (go_t (and_t (dec_t h1) (dec_t h2)) (go_t (blt_t h9) (go_t h10 (go_t h11 rfl)))))))))))))
--CFEND
--CP p34f (w : Int) (n cc i : Nat) (vs : List FV) (on : List Value → Heap → Out) (out : Exit → List Value → Heap → Out) :: roundK Try.prog ((mkS []).on [(11, true), (23, true), (33, true), (41, false)]) noL Try.f34.ntmps 2 (loopOf Try.f34 0) live34 [w63 0, pt 0, w63 i] [DB false w n cc, rowA false n vs] on out
theorem p34f (w : Int) (n cc i : Nat) (vs : List FV) (on : List Value → Heap → Out) (out : Exit → List Value → Heap → Out)
    (h1 : (0 : Int) ≤ (↑i : Int) := by first | omega | assumption | rfl)
    (h2 : (↑i : Int) < (↑n : Int) := by first | omega | assumption | rfl)
    (h3 : i * (10 : Nat) + (1 : Nat) < n * (10 : Nat) := by first | omega | assumption | rfl)
    (h4 : (vs.getD (i * (10 : Nat) + (1 : Nat)) (FV.b false)).isB = true := by first | omega | assumption | rfl)
    (h5 : (vs.getD (i * (10 : Nat) + (1 : Nat)) (FV.b false)).asB = false := by first | omega | assumption | rfl)
    (h6 : i * (10 : Nat) + (7 : Nat) < n * (10 : Nat) := by first | omega | assumption | rfl)
    (h7 : (vs.getD (i * (10 : Nat) + (7 : Nat)) (FV.b false)).isB = true := by first | omega | assumption | rfl)
    (h8 : (vs.getD (i * (10 : Nat) + (7 : Nat)) (FV.b false)).asB = true := by first | omega | assumption | rfl)
    (h9 : i * (10 : Nat) + (9 : Nat) < n * (10 : Nat) := by first | omega | assumption | rfl)
    (h10 : (vs.getD (i * (10 : Nat) + (9 : Nat)) (FV.b false)).isB = true := by first | omega | assumption | rfl)
    (h11 : (vs.getD (i * (10 : Nat) + (9 : Nat)) (FV.b false)).asB = false := by first | omega | assumption | rfl) : roundK Try.prog ((mkS []).on [(11, true), (23, true), (33, true), (41, false)]) noL Try.f34.ntmps 2 (loopOf Try.f34 0) live34 [w63 0, pt 0, w63 i] [DB false w n cc, rowA false n vs] on out =
     (out Exit.ret [Value.int IntKind.i64 (↑i : Int), Value.pointer (some (Addr.mk (0 : Nat) (0 : Nat) none)), Value.int IntKind.i64 (↑i : Int)] [some (Blk.mk false (2 : Nat) [Seg.ints IntKind.i64 (1 :
     Nat) [w], Seg.vals [Value.slice (some (Addr.mk (1 : Nat) (0 : Nat) none)) n cc]]), some (Blk.mk false (10 : Nat) [Seg.any (n * (10 : Nat)) vs])]) :=
  Eq.trans (b :=
     bif decide ((0 : Int) ≤ (↑i : Int)) && decide ((↑i : Int) < (↑n : Int)) then bif ((0 : Nat) + (↑i : Int).toNat * (10 : Nat) + (1 : Nat)).blt (n * (10 : Nat)) then bif (vs.getD ((0 : Nat) + (↑i :
     Int).toNat * (10 : Nat) + (1 : Nat)) (FV.b false)).isB then bif !(vs.getD ((0 : Nat) + (↑i : Int).toNat * (10 : Nat) + (1 : Nat)) (FV.b false)).asB then bif decide ((0 : Int) ≤ (↑i : Int)) && decide
     ((↑i : Int) < (↑n : Int)) then bif ((0 : Nat) + (↑i : Int).toNat * (10 : Nat) + (2 : Nat) + (5 : Nat)).blt (n * (10 : Nat)) then bif (vs.getD ((0 : Nat) + (↑i : Int).toNat * (10 : Nat) + (2 : Nat) +
     (5 : Nat)) (FV.b false)).isB then bif (vs.getD ((0 : Nat) + (↑i : Int).toNat * (10 : Nat) + (2 : Nat) + (5 : Nat)) (FV.b false)).asB then bif decide ((0 : Int) ≤ (↑i : Int)) && decide ((↑i : Int) <
     (↑n : Int)) then bif ((0 : Nat) + (↑i : Int).toNat * (10 : Nat) + (9 : Nat)).blt (n * (10 : Nat)) then bif (vs.getD ((0 : Nat) + (↑i : Int).toNat * (10 : Nat) + (9 : Nat)) (FV.b false)).isB then bif
     (vs.getD ((0 : Nat) + (↑i : Int).toNat * (10 : Nat) + (9 : Nat)) (FV.b false)).asB then none else out Exit.ret [Value.int IntKind.i64 (↑i : Int), Value.pointer (some (Addr.mk (0 : Nat) (0 : Nat)
     none)), Value.int IntKind.i64 (↑i : Int)] [some (Blk.mk false (2 : Nat) [Seg.ints IntKind.i64 (1 : Nat) [w], Seg.vals [Value.slice (some (Addr.mk (1 : Nat) (0 : Nat) none)) n cc]]), some (Blk.mk false
     (10 : Nat) [Seg.any (n * (10 : Nat)) vs])] else none else none else none else none else none else none else none else none else none else none else none) (by kernel_rfl) (by simp only [-eq_self, Int.toNat_natCast, Nat.zero_add]; exact (go_t (and_t (dec_t h1) (dec_t h2)) (go_t (blt_t h3) (go_t h4 (go_t (not_t h5) (go_t (and_t (dec_t h1) (dec_t h2)) (go_t (blt_t h6) (go_t h7 (go_t h8 (go_t (and_t (dec_t h1) (dec_t h2)) (go_t (blt_t h9) (go_t h10 (go_f h11 rfl)))))))))))))
--CFEND
--CP p34x (w : Int) (n cc : Nat) (vs : List FV) (on : List Value → Heap → Out) (out : Exit → List Value → Heap → Out) :: roundK Try.prog ((mkS []).on []) noL Try.f34.ntmps 2 (loopOf Try.f34 0) live34 [w63 0, pt 0, w63 (-1)] [DB false w n cc, rowA false n vs] on out
theorem p34x (w : Int) (n cc : Nat) (vs : List FV) (on : List Value → Heap → Out) (out : Exit → List Value → Heap → Out) : roundK Try.prog ((mkS []).on []) noL Try.f34.ntmps 2 (loopOf Try.f34 0) live34 [w63 0, pt 0, w63 (-1)] [DB false w n cc, rowA false n vs] on out =
     (out (Exit.exit (0 : Nat)) [Value.int IntKind.i64 (0 : Int), Value.pointer (some (Addr.mk (0 : Nat) (0 : Nat) none)), Value.int IntKind.i64 (-1 : Int)] [some (Blk.mk false (2 : Nat) [Seg.ints
     IntKind.i64 (1 : Nat) [w], Seg.vals [Value.slice (some (Addr.mk (1 : Nat) (0 : Nat) none)) n cc]]), some (Blk.mk false (10 : Nat) [Seg.any (n * (10 : Nat)) vs])]) :=
  Eq.trans (by kernel_rfl) rfl
--CFEND
def live55 : List Nat := [2, 0, 3]
--CP p55n (w : Int) (n cc i : Nat) (vs : List FV) (on : List Value → Heap → Out) (out : Exit → List Value → Heap → Out) :: roundK Try.prog ((mkS []).on [(11, true), (21, false)]) noL Try.f55.ntmps 2 (loopOf Try.f55 0) live55 [w63 0, pt 0, w63 i] [DB false w n cc, rowA false n vs] on out
theorem p55n (w : Int) (n cc i : Nat) (vs : List FV) (on : List Value → Heap → Out) (out : Exit → List Value → Heap → Out)
    (w1 : -9223372036854775808 ≤ (↑i : Int) - (1 : Int) ∧ (↑i : Int) - (1 : Int) ≤ 9223372036854775807 := by omega)
    (h1 : (0 : Int) ≤ (↑i : Int) := by first | omega | assumption | rfl)
    (h2 : (↑i : Int) < (↑n : Int) := by first | omega | assumption | rfl)
    (h3 : i * (10 : Nat) + (1 : Nat) < n * (10 : Nat) := by first | omega | assumption | rfl)
    (h4 : (vs.getD (i * (10 : Nat) + (1 : Nat)) (FV.b false)).isB = true := by first | omega | assumption | rfl)
    (h5 : (vs.getD (i * (10 : Nat) + (1 : Nat)) (FV.b false)).asB = false := by first | omega | assumption | rfl) : roundK Try.prog ((mkS []).on [(11, true), (21, false)]) noL Try.f55.ntmps 2 (loopOf Try.f55 0) live55 [w63 0, pt 0, w63 i] [DB false w n cc, rowA false n vs] on out =
     (on [Value.int IntKind.i64 (0 : Int), Value.pointer (some (Addr.mk (0 : Nat) (0 : Nat) none)), Value.int IntKind.i64 ((↑i : Int) - (1 : Int))] [some (Blk.mk false (2 : Nat) [Seg.ints IntKind.i64 (1 :
     Nat) [w], Seg.vals [Value.slice (some (Addr.mk (1 : Nat) (0 : Nat) none)) n cc]]), some (Blk.mk false (10 : Nat) [Seg.any (n * (10 : Nat)) vs])]) :=
  Eq.trans (b :=
     bif decide ((0 : Int) ≤ (↑i : Int)) && decide ((↑i : Int) < (↑n : Int)) then bif ((0 : Nat) + (↑i : Int).toNat * (10 : Nat) + (1 : Nat)).blt (n * (10 : Nat)) then bif (vs.getD ((0 : Nat) + (↑i :
     Int).toNat * (10 : Nat) + (1 : Nat)) (FV.b false)).isB then bif (vs.getD ((0 : Nat) + (↑i : Int).toNat * (10 : Nat) + (1 : Nat)) (FV.b false)).asB then none else on [Value.int IntKind.i64 (0 : Int),
     Value.pointer (some (Addr.mk (0 : Nat) (0 : Nat) none)), Value.int IntKind.i64 (IntKind.i64.wrap ((↑i : Int) - (1 : Int)))] [some (Blk.mk false (2 : Nat) [Seg.ints IntKind.i64 (1 : Nat) [w], Seg.vals
     [Value.slice (some (Addr.mk (1 : Nat) (0 : Nat) none)) n cc]]), some (Blk.mk false (10 : Nat) [Seg.any (n * (10 : Nat)) vs])] else none else none else none) (by kernel_rfl) (by simp only [-eq_self, Int.toNat_natCast, Nat.zero_add, swrap w1.1 w1.2]; exact (go_t (and_t (dec_t h1) (dec_t h2)) (go_t (blt_t h3) (go_t h4 (go_f h5 rfl)))))
--CFEND
--CP p55f (w : Int) (n cc i : Nat) (vs : List FV) (on : List Value → Heap → Out) (out : Exit → List Value → Heap → Out) :: roundK Try.prog ((mkS []).on [(11, true), (21, true)]) noL Try.f55.ntmps 2 (loopOf Try.f55 0) live55 [w63 0, pt 0, w63 i] [DB false w n cc, rowA false n vs] on out
theorem p55f (w : Int) (n cc i : Nat) (vs : List FV) (on : List Value → Heap → Out) (out : Exit → List Value → Heap → Out)
    (h1 : (0 : Int) ≤ (↑i : Int) := by first | omega | assumption | rfl)
    (h2 : (↑i : Int) < (↑n : Int) := by first | omega | assumption | rfl)
    (h3 : i * (10 : Nat) + (1 : Nat) < n * (10 : Nat) := by first | omega | assumption | rfl)
    (h4 : (vs.getD (i * (10 : Nat) + (1 : Nat)) (FV.b false)).isB = true := by first | omega | assumption | rfl)
    (h5 : (vs.getD (i * (10 : Nat) + (1 : Nat)) (FV.b false)).asB = true := by first | omega | assumption | rfl) : roundK Try.prog ((mkS []).on [(11, true), (21, true)]) noL Try.f55.ntmps 2 (loopOf Try.f55 0) live55 [w63 0, pt 0, w63 i] [DB false w n cc, rowA false n vs] on out =
     (out Exit.ret [Value.int IntKind.i64 (↑i : Int), Value.pointer (some (Addr.mk (0 : Nat) (0 : Nat) none)), Value.int IntKind.i64 (↑i : Int)] [some (Blk.mk false (2 : Nat) [Seg.ints IntKind.i64 (1 :
     Nat) [w], Seg.vals [Value.slice (some (Addr.mk (1 : Nat) (0 : Nat) none)) n cc]]), some (Blk.mk false (10 : Nat) [Seg.any (n * (10 : Nat)) vs])]) :=
  Eq.trans (b :=
     bif decide ((0 : Int) ≤ (↑i : Int)) && decide ((↑i : Int) < (↑n : Int)) then bif ((0 : Nat) + (↑i : Int).toNat * (10 : Nat) + (1 : Nat)).blt (n * (10 : Nat)) then bif (vs.getD ((0 : Nat) + (↑i :
     Int).toNat * (10 : Nat) + (1 : Nat)) (FV.b false)).isB then bif (vs.getD ((0 : Nat) + (↑i : Int).toNat * (10 : Nat) + (1 : Nat)) (FV.b false)).asB then out Exit.ret [Value.int IntKind.i64 (↑i : Int),
     Value.pointer (some (Addr.mk (0 : Nat) (0 : Nat) none)), Value.int IntKind.i64 (↑i : Int)] [some (Blk.mk false (2 : Nat) [Seg.ints IntKind.i64 (1 : Nat) [w], Seg.vals [Value.slice (some (Addr.mk (1 :
     Nat) (0 : Nat) none)) n cc]]), some (Blk.mk false (10 : Nat) [Seg.any (n * (10 : Nat)) vs])] else none else none else none else none) (by kernel_rfl) (by simp only [-eq_self, Int.toNat_natCast, Nat.zero_add]; exact (go_t (and_t (dec_t h1) (dec_t h2)) (go_t (blt_t h3) (go_t h4 (go_t h5 rfl)))))
--CFEND
--CP p55x (w : Int) (n cc : Nat) (vs : List FV) (on : List Value → Heap → Out) (out : Exit → List Value → Heap → Out) :: roundK Try.prog ((mkS []).on []) noL Try.f55.ntmps 2 (loopOf Try.f55 0) live55 [w63 0, pt 0, w63 (-1)] [DB false w n cc, rowA false n vs] on out
theorem p55x (w : Int) (n cc : Nat) (vs : List FV) (on : List Value → Heap → Out) (out : Exit → List Value → Heap → Out) : roundK Try.prog ((mkS []).on []) noL Try.f55.ntmps 2 (loopOf Try.f55 0) live55 [w63 0, pt 0, w63 (-1)] [DB false w n cc, rowA false n vs] on out =
     (out (Exit.exit (0 : Nat)) [Value.int IntKind.i64 (0 : Int), Value.pointer (some (Addr.mk (0 : Nat) (0 : Nat) none)), Value.int IntKind.i64 (-1 : Int)] [some (Blk.mk false (2 : Nat) [Seg.ints
     IntKind.i64 (1 : Nat) [w], Seg.vals [Value.slice (some (Addr.mk (1 : Nat) (0 : Nat) none)) n cc]]), some (Blk.mk false (10 : Nat) [Seg.any (n * (10 : Nat)) vs])]) :=
  Eq.trans (by kernel_rfl) rfl
--CFEND
def live56 : List Nat := [0, 3, 4]
noncomputable def S56 : Spec := mkS [(14, true, F14a)]
--CP p56n (w : Int) (n cc i o q cp N : Nat) (l : List Int) (vs : List FV) (on : List Value → Heap → Out) (out : Exit → List Value → Heap → Out) :: roundK Try.prog (S56.on [(13, true), (23, false)]) noL Try.f56.ntmps 2 (loopOf Try.f56 0) live56 [pt 0, pt 2, w63 i] [DB false w n cc, rowA false n vs, wL (slo 3 o q cp), oI N l] on out
theorem p56n (w : Int) (n cc i o q cp N : Nat) (l : List Int) (vs : List FV) (on : List Value → Heap → Out) (out : Exit → List Value → Heap → Out)
    (w1 : -9223372036854775808 ≤ (↑i : Int) + (1 : Int) ∧ (↑i : Int) + (1 : Int) ≤ 9223372036854775807 := by omega)
    (h1 : (↑i : Int) < (↑n : Int) := by first | omega | assumption | rfl)
    (h2 : (0 : Int) ≤ (↑i : Int) := by first | omega | assumption | rfl)
    (h3 : i * (10 : Nat) + (1 : Nat) < n * (10 : Nat) := by first | omega | assumption | rfl)
    (h4 : (vs.getD (i * (10 : Nat) + (1 : Nat)) (FV.b false)).isB = true := by first | omega | assumption | rfl)
    (h5 : (vs.getD (i * (10 : Nat) + (1 : Nat)) (FV.b false)).asB = false := by first | omega | assumption | rfl) : roundK Try.prog (S56.on [(13, true), (23, false)]) noL Try.f56.ntmps 2 (loopOf Try.f56 0) live56 [pt 0, pt 2, w63 i] [DB false w n cc, rowA false n vs, wL (slo 3 o q cp), oI N l] on out =
     (on [Value.pointer (some (Addr.mk (0 : Nat) (0 : Nat) none)), Value.pointer (some (Addr.mk (2 : Nat) (0 : Nat) none)), Value.int IntKind.i64 ((↑i : Int) + (1 : Int))] [some (Blk.mk false (2 : Nat)
     [Seg.ints IntKind.i64 (1 : Nat) [w], Seg.vals [Value.slice (some (Addr.mk (1 : Nat) (0 : Nat) none)) n cc]]), some (Blk.mk false (10 : Nat) [Seg.any (n * (10 : Nat)) vs]), some (Blk.mk true (1 : Nat)
     [Seg.vals [Value.slice (some (Addr.mk (3 : Nat) o none)) q cp]]), some (Blk.mk true (1 : Nat) [Seg.ints IntKind.i64 N l])]) :=
  Eq.trans (b :=
     bif decide ((↑i : Int) < (↑n : Int)) then bif decide ((0 : Int) ≤ (↑i : Int)) && decide ((↑i : Int) < (↑n : Int)) then bif ((0 : Nat) + (↑i : Int).toNat * (10 : Nat) + (1 : Nat)).blt (n * (10 : Nat))
     then bif (vs.getD ((0 : Nat) + (↑i : Int).toNat * (10 : Nat) + (1 : Nat)) (FV.b false)).isB then bif (vs.getD ((0 : Nat) + (↑i : Int).toNat * (10 : Nat) + (1 : Nat)) (FV.b false)).asB then none else
     on [Value.pointer (some (Addr.mk (0 : Nat) (0 : Nat) none)), Value.pointer (some (Addr.mk (2 : Nat) (0 : Nat) none)), Value.int IntKind.i64 (IntKind.i64.wrap ((↑i : Int) + (1 : Int)))] [some (Blk.mk
     false (2 : Nat) [Seg.ints IntKind.i64 (1 : Nat) [w], Seg.vals [Value.slice (some (Addr.mk (1 : Nat) (0 : Nat) none)) n cc]]), some (Blk.mk false (10 : Nat) [Seg.any (n * (10 : Nat)) vs]), some (Blk.mk
     true (1 : Nat) [Seg.vals [Value.slice (some (Addr.mk (3 : Nat) o none)) q cp]]), some (Blk.mk true (1 : Nat) [Seg.ints IntKind.i64 N l])] else none else none else none else none) (by kernel_rfl) (by simp only [-eq_self, Int.toNat_natCast, Nat.zero_add, swrap w1.1 w1.2]; exact (go_t (dec_t h1) (go_t (and_t (dec_t h2) (dec_t h1)) (go_t (blt_t h3) (go_t h4 (go_f h5 rfl))))))
--CFEND
--CP p56e (w : Int) (n cc i o q cp N : Nat) (l : List Int) (vs : List FV) (on : List Value → Heap → Out) (out : Exit → List Value → Heap → Out) :: roundK Try.prog (S56.on [(13, true), (23, true)]) noL Try.f56.ntmps 2 (loopOf Try.f56 0) live56 [pt 0, pt 2, w63 i] [DB false w n cc, rowA false n vs, wL (slo 3 o q cp), oI N l] on out
theorem p56e (w : Int) (n cc i o q cp N : Nat) (l : List Int) (vs : List FV) (on : List Value → Heap → Out) (out : Exit → List Value → Heap → Out)
    (w1 : -9223372036854775808 ≤ (↑i : Int) + (1 : Int) ∧ (↑i : Int) + (1 : Int) ≤ 9223372036854775807 := by omega)
    (h1 : (↑i : Int) < (↑n : Int) := by first | omega | assumption | rfl)
    (h2 : (0 : Int) ≤ (↑i : Int) := by first | omega | assumption | rfl)
    (h3 : i * (10 : Nat) + (1 : Nat) < n * (10 : Nat) := by first | omega | assumption | rfl)
    (h4 : (vs.getD (i * (10 : Nat) + (1 : Nat)) (FV.b false)).isB = true := by first | omega | assumption | rfl)
    (h5 : (vs.getD (i * (10 : Nat) + (1 : Nat)) (FV.b false)).asB = true := by first | omega | assumption | rfl)
    (h6 : i * (10 : Nat) < n * (10 : Nat) := by first | omega | assumption | rfl)
    (h7 : FV.isI IntKind.i64 (vs.getD (i * (10 : Nat)) (FV.b false)) = true := by first | omega | assumption | rfl)
    (h8 : o + q ≤ N ∧ q ≤ (100 : Nat) ∧ (0 : Int) ≤ (vs.getD (i * (10 : Nat)) (FV.b false)).asI ∧ ((0 : Nat) < q → l.getD (o + (q - (1 : Nat))) (0 : Int) ≤ (vs.getD (i * (10 : Nat)) (FV.b false)).asI) := by first | omega | assumption | rfl) : roundK Try.prog (S56.on [(13, true), (23, true)]) noL Try.f56.ntmps 2 (loopOf Try.f56 0) live56 [pt 0, pt 2, w63 i] [DB false w n cc, rowA false n vs, wL (slo 3 o q cp), oI N l] on out =
     (on [Value.pointer (some (Addr.mk (0 : Nat) (0 : Nat) none)), Value.pointer (some (Addr.mk (2 : Nat) (0 : Nat) none)), Value.int IntKind.i64 ((↑i : Int) + (1 : Int))] [some (Blk.mk false (2 : Nat)
     [Seg.ints IntKind.i64 (1 : Nat) [w], Seg.vals [Value.slice (some (Addr.mk (1 : Nat) (0 : Nat) none)) n cc]]), some (Blk.mk false (10 : Nat) [Seg.any (n * (10 : Nat)) vs]), some (Blk.mk true (1 : Nat)
     [Seg.vals [Value.slice (some (Addr.mk (3 : Nat) (offN q) none)) (lenN q) (1 : Nat)]]), some (Blk.mk true (1 : Nat) [Seg.ints IntKind.i64 (q + (1 : Nat)) (curL o q l ++ [(vs.getD (i * (10 : Nat)) (FV.b
     false)).asI])])]) :=
  Eq.trans (b :=
     bif decide ((↑i : Int) < (↑n : Int)) then bif decide ((0 : Int) ≤ (↑i : Int)) && decide ((↑i : Int) < (↑n : Int)) then bif ((0 : Nat) + (↑i : Int).toNat * (10 : Nat) + (1 : Nat)).blt (n * (10 : Nat))
     then bif (vs.getD ((0 : Nat) + (↑i : Int).toNat * (10 : Nat) + (1 : Nat)) (FV.b false)).isB then bif (vs.getD ((0 : Nat) + (↑i : Int).toNat * (10 : Nat) + (1 : Nat)) (FV.b false)).asB then bif decide
     ((0 : Int) ≤ (↑i : Int)) && decide ((↑i : Int) < (↑n : Int)) then bif ((0 : Nat) + (↑i : Int).toNat * (10 : Nat)).blt (n * (10 : Nat)) then bif FV.isI IntKind.i64 (vs.getD ((0 : Nat) + (↑i :
     Int).toNat * (10 : Nat)) (FV.b false)) then bif chk (o + q ≤ N ∧ q ≤ (100 : Nat) ∧ (0 : Int) ≤ (vs.getD ((0 : Nat) + (↑i : Int).toNat * (10 : Nat)) (FV.b false)).asI ∧ ((0 : Nat) < q → l.getD (o + (q
     - (1 : Nat))) (0 : Int) ≤ (vs.getD ((0 : Nat) + (↑i : Int).toNat * (10 : Nat)) (FV.b false)).asI)) then on [Value.pointer (some (Addr.mk (0 : Nat) (0 : Nat) none)), Value.pointer (some (Addr.mk (2 :
     Nat) (0 : Nat) none)), Value.int IntKind.i64 (IntKind.i64.wrap ((↑i : Int) + (1 : Int)))] [some (Blk.mk false (2 : Nat) [Seg.ints IntKind.i64 (1 : Nat) [w], Seg.vals [Value.slice (some (Addr.mk (1 :
     Nat) (0 : Nat) none)) n cc]]), some (Blk.mk false (10 : Nat) [Seg.any (n * (10 : Nat)) vs]), some (Blk.mk true (1 : Nat) [Seg.vals [Value.slice (some (Addr.mk (3 : Nat) (offN q) none)) (lenN q) (1 :
     Nat)]]), some (Blk.mk true (1 : Nat) [Seg.ints IntKind.i64 (q + (1 : Nat)) (curL o q l ++ [(vs.getD ((0 : Nat) + (↑i : Int).toNat * (10 : Nat)) (FV.b false)).asI])])] else none else none else none
     else none else none else none else none else none else none) (by kernel_rfl) (by simp only [-eq_self, Int.toNat_natCast, Nat.zero_add, swrap w1.1 w1.2]; exact (go_t (dec_t h1) (go_t (and_t (dec_t h2) (dec_t h1)) (go_t (blt_t h3) (go_t h4 (go_t h5 (go_t (and_t (dec_t h2) (dec_t h1)) (go_t (blt_t h6) (go_t h7 (go_t (chk_t h8) rfl))))))))))
--CFEND
--CP p56x (w : Int) (n cc o q cp N : Nat) (l : List Int) (vs : List FV) (on : List Value → Heap → Out) (out : Exit → List Value → Heap → Out) :: roundK Try.prog (S56.on [(13, false)]) noL Try.f56.ntmps 2 (loopOf Try.f56 0) live56 [pt 0, pt 2, w63 n] [DB false w n cc, rowA false n vs, wL (slo 3 o q cp), oI N l] on out
theorem p56x (w : Int) (n cc o q cp N : Nat) (l : List Int) (vs : List FV) (on : List Value → Heap → Out) (out : Exit → List Value → Heap → Out)
    (h1 : ¬(↑n : Int) < (↑n : Int) := by first | omega | assumption | rfl) : roundK Try.prog (S56.on [(13, false)]) noL Try.f56.ntmps 2 (loopOf Try.f56 0) live56 [pt 0, pt 2, w63 n] [DB false w n cc, rowA false n vs, wL (slo 3 o q cp), oI N l] on out =
     (out (Exit.exit (0 : Nat)) [Value.pointer (some (Addr.mk (0 : Nat) (0 : Nat) none)), Value.pointer (some (Addr.mk (2 : Nat) (0 : Nat) none)), Value.int IntKind.i64 (↑n : Int)] [some (Blk.mk false (2 :
     Nat) [Seg.ints IntKind.i64 (1 : Nat) [w], Seg.vals [Value.slice (some (Addr.mk (1 : Nat) (0 : Nat) none)) n cc]]), some (Blk.mk false (10 : Nat) [Seg.any (n * (10 : Nat)) vs]), some (Blk.mk true (1 :
     Nat) [Seg.vals [Value.slice (some (Addr.mk (3 : Nat) o none)) q cp]]), some (Blk.mk true (1 : Nat) [Seg.ints IntKind.i64 N l])]) :=
  Eq.trans (by kernel_rfl) (go_f (dec_f h1) rfl)
--CFEND
--CP pDCpy (w : Int) (n cc : Nat) (vs : List FV) :: fnK Try.prog (mkS []) noL Try.f30 [pt 0] [DB false w n cc, rowA false n vs]
theorem pDCpy (w : Int) (n cc : Nat) (vs : List FV)
    (h1 : n * (10 : Nat) ≤ n * (10 : Nat) := by first | omega | assumption | rfl)
    (h2 : n * (64 : Nat) ≤ (140737488355328 : Nat) := by first | omega | assumption | rfl)
    (h3 : n ≤ (4611686018427387904 : Nat) := by first | omega | assumption | rfl) : fnK Try.prog (mkS []) noL Try.f30 [pt 0] [DB false w n cc, rowA false n vs] =
     (some (Res.ret (Value.pointer (some (Addr.mk (2 : Nat) (0 : Nat) none))) [some (Blk.mk false (2 : Nat) [Seg.ints IntKind.i64 (1 : Nat) [w], Seg.vals [Value.slice (some (Addr.mk (1 : Nat) (0 : Nat)
     none)) n cc]]), some (Blk.mk false (10 : Nat) [Seg.any (n * (10 : Nat)) vs]), some (Blk.mk true (2 : Nat) [Seg.ints IntKind.i64 (1 : Nat) [w], Seg.vals [Value.slice (some (Addr.mk (3 : Nat) (0 : Nat)
     none)) n (1 : Nat)]]), some (Blk.mk true (10 : Nat) [Seg.any (n * (10 : Nat)) (List.take (n * 10) vs)])])) :=
  Eq.trans (b :=
     bif (n * (10 : Nat)).ble (n * (10 : Nat)) then bif decide (((0 : Nat) + n) * (64 : Nat) ≤ (140737488355328 : Nat)) && ((0 : Nat) + n).ble (OfNat.ofNat (4611686018427387904 : Nat)) then some (Res.ret
     (Value.pointer (some (Addr.mk (2 : Nat) (0 : Nat) none))) [some (Blk.mk false (2 : Nat) [Seg.ints IntKind.i64 (1 : Nat) [w], Seg.vals [Value.slice (some (Addr.mk (1 : Nat) (0 : Nat) none)) n cc]]),
     some (Blk.mk false (10 : Nat) [Seg.any (n * (10 : Nat)) vs]), some (Blk.mk true (2 : Nat) [Seg.ints IntKind.i64 (1 : Nat) [w], Seg.vals [Value.slice (some (Addr.mk (3 : Nat) (0 : Nat) none)) ((0 :
     Nat) + n) (1 : Nat)]]), some (Blk.mk true (10 : Nat) [Seg.any (n * (10 : Nat)) (List.take (n * 10) vs)])])
     else none else none) (by kernel_rfl) (by simp only [-eq_self, Nat.zero_add]; exact (go_t (ble_t h1) (go_t (and_t (dec_t h2) (ble_t h3)) rfl)))
--CFEND
end Go.Proofs.Ytpidmcpnkfgcjaa.VC
