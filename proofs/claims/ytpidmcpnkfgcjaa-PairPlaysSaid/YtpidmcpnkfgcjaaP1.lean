/- pair: come, Edge, Message: closed forms by paths. -/
import Derived.Test.YtpidmcpnkfgcjaaE6
import Derived.Test.YtpidmcpnkfgcjaaE4
import Derived.Test.YtpidmcpnkfgcjaaNX
namespace Go.Proofs.Ytpidmcpnkfgcjaa.VC
open Go Go.Proofs

/-- A message. -/
structure Ms where
  kd : Int
  u : Bool
  s : Int
  l : Bool
  c : Int
  n : Bool
abbrev msL (m : Ms) : List Value := [.int .u8 m.kd, .bool m.u, w63 m.s, .bool m.l, w63 m.c, .bool m.n]
abbrev msV (m : Ms) : Value := .agg ⟨msL m⟩
abbrev pdV (e : Int) (m : Ms) : Value := .agg ⟨w63 e :: msL m⟩
abbrev ms0 : Ms := ⟨0, false, 0, false, 0, false⟩
/-- A pairing, and a message that waits. -/
abbrev PB (own : Bool) (w now : Int) (t : Bool) (nx : Value) : Option Blk := some ⟨own, 5, [.vals [pt 1], .ints .i64 2 [w, now], .vals [.bool t, nx]]⟩
abbrev WB (own : Bool) (a : Int) (m : Ms) : Option Blk := some ⟨own, 7, [.ints .i64 1 [a], .ints .u8 1 [m.kd], .vals [.bool m.u], .ints .i64 1 [m.s], .vals [.bool m.l], .ints .i64 1 [m.c], .vals [.bool m.n]]⟩
--CP pComeN (c w now : Int) (t : Bool) (xs : List Int) :: fnK Try.prog ((mkS []).on [(7, false), (15, false), (22, false)]) noL Try.f52 [pt 0, w63 c] [PB true w now t (.pointer none), eB true xs]
theorem pComeN (c w now : Int) (t : Bool) (xs : List Int)
    (h1 : ¬c < now := by first | omega | assumption | rfl) : fnK Try.prog ((mkS []).on [(7, false), (15, false), (22, false)]) noL Try.f52 [pt 0, w63 c] [PB true w now t (.pointer none), eB true xs] =
     (some (Res.ret (Value.bool true) [some (Blk.mk true (5 : Nat) [Seg.vals [Value.pointer (some (Addr.mk (1 : Nat) (0 : Nat) none))], Seg.ints IntKind.i64 (2 : Nat) [w, c], Seg.vals [Value.bool t,
     Value.pointer none]]), some (Blk.mk true (9 : Nat) [Seg.ints IntKind.i64 (9 : Nat) xs])])) :=
  Eq.trans (b :=
     bif decide (c < now) then none else some (Res.ret (Value.bool true) [some (Blk.mk true (5 : Nat) [Seg.vals [Value.pointer (some (Addr.mk (1 : Nat) (0 : Nat) none))], Seg.ints IntKind.i64 (2 : Nat) [w,
     c], Seg.vals [Value.bool t, Value.pointer none]]), some (Blk.mk true (9 : Nat) [Seg.ints IntKind.i64 (9 : Nat) xs])])) (by kernel_rfl) (by exact (go_f (dec_f h1) rfl))
--CFEND
--CP pComeS (c w now a : Int) (t : Bool) (m : Ms) (xs : List Int) :: fnK Try.prog ((mkS []).on [(7, false), (15, false), (22, false)]) noL Try.f52 [pt 0, w63 c] [PB true w now t (pt 2), eB true xs, WB true a m]
theorem pComeS (c w now a : Int) (t : Bool) (m : Ms) (xs : List Int)
    (h1 : ¬c < now := by first | omega | assumption | rfl) : fnK Try.prog ((mkS []).on [(7, false), (15, false), (22, false)]) noL Try.f52 [pt 0, w63 c] [PB true w now t (pt 2), eB true xs, WB true a m] =
     (some (Res.ret (Value.bool true) [some (Blk.mk true (5 : Nat) [Seg.vals [Value.pointer (some (Addr.mk (1 : Nat) (0 : Nat) none))], Seg.ints IntKind.i64 (2 : Nat) [w, c], Seg.vals [Value.bool t,
     Value.pointer (some (Addr.mk (2 : Nat) (0 : Nat) none))]]), some (Blk.mk true (9 : Nat) [Seg.ints IntKind.i64 (9 : Nat) xs]), some (Blk.mk true (7 : Nat) [Seg.ints IntKind.i64 (1 : Nat) [a], Seg.ints
     IntKind.u8 (1 : Nat) [m.kd], Seg.vals [Value.bool m.u], Seg.ints IntKind.i64 (1 : Nat) [m.s], Seg.vals [Value.bool m.l], Seg.ints IntKind.i64 (1 : Nat) [m.c], Seg.vals [Value.bool m.n]])])) :=
  Eq.trans (b :=
     bif decide (c < now) then none else some (Res.ret (Value.bool true) [some (Blk.mk true (5 : Nat) [Seg.vals [Value.pointer (some (Addr.mk (1 : Nat) (0 : Nat) none))], Seg.ints IntKind.i64 (2 : Nat) [w,
     c], Seg.vals [Value.bool t, Value.pointer (some (Addr.mk (2 : Nat) (0 : Nat) none))]]), some (Blk.mk true (9 : Nat) [Seg.ints IntKind.i64 (9 : Nat) xs]), some (Blk.mk true (7 : Nat) [Seg.ints
     IntKind.i64 (1 : Nat) [a], Seg.ints IntKind.u8 (1 : Nat) [m.kd], Seg.vals [Value.bool m.u], Seg.ints IntKind.i64 (1 : Nat) [m.s], Seg.vals [Value.bool m.l], Seg.ints IntKind.i64 (1 : Nat) [m.c],
     Seg.vals [Value.bool m.n]])])) (by kernel_rfl) (by exact (go_f (dec_f h1) rfl))
--CFEND
--CP pComeRN (c w now : Int) (t : Bool) (xs : List Int) :: fnK Try.prog ((mkS []).on [(7, false), (15, false), (22, true)]) noL Try.f52 [pt 0, w63 c] [PB true w now t (.pointer none), eB true xs]
theorem pComeRN (c w now : Int) (t : Bool) (xs : List Int)
    (h1 : c < now := by first | omega | assumption | rfl) : fnK Try.prog ((mkS []).on [(7, false), (15, false), (22, true)]) noL Try.f52 [pt 0, w63 c] [PB true w now t (.pointer none), eB true xs] =
     (some (Res.ret (Value.bool false) [some (Blk.mk true (5 : Nat) [Seg.vals [Value.pointer (some (Addr.mk (1 : Nat) (0 : Nat) none))], Seg.ints IntKind.i64 (2 : Nat) [w, now], Seg.vals [Value.bool t,
     Value.pointer none]]), some (Blk.mk true (9 : Nat) [Seg.ints IntKind.i64 (9 : Nat) xs])])) :=
  Eq.trans (b :=
     bif decide (c < now) then some (Res.ret (Value.bool false) [some (Blk.mk true (5 : Nat) [Seg.vals [Value.pointer (some (Addr.mk (1 : Nat) (0 : Nat) none))], Seg.ints IntKind.i64 (2 : Nat) [w, now],
     Seg.vals [Value.bool t, Value.pointer none]]), some (Blk.mk true (9 : Nat) [Seg.ints IntKind.i64 (9 : Nat) xs])]) else none) (by kernel_rfl) (by exact (go_t (dec_t h1) rfl))
--CFEND
--CP pComeRS (c w now a : Int) (t : Bool) (m : Ms) (xs : List Int) :: fnK Try.prog ((mkS []).on [(7, false), (15, false), (22, true)]) noL Try.f52 [pt 0, w63 c] [PB true w now t (pt 2), eB true xs, WB true a m]
theorem pComeRS (c w now a : Int) (t : Bool) (m : Ms) (xs : List Int)
    (h1 : c < now := by first | omega | assumption | rfl) : fnK Try.prog ((mkS []).on [(7, false), (15, false), (22, true)]) noL Try.f52 [pt 0, w63 c] [PB true w now t (pt 2), eB true xs, WB true a m] =
     (some (Res.ret (Value.bool false) [some (Blk.mk true (5 : Nat) [Seg.vals [Value.pointer (some (Addr.mk (1 : Nat) (0 : Nat) none))], Seg.ints IntKind.i64 (2 : Nat) [w, now], Seg.vals [Value.bool t,
     Value.pointer (some (Addr.mk (2 : Nat) (0 : Nat) none))]]), some (Blk.mk true (9 : Nat) [Seg.ints IntKind.i64 (9 : Nat) xs]), some (Blk.mk true (7 : Nat) [Seg.ints IntKind.i64 (1 : Nat) [a], Seg.ints
     IntKind.u8 (1 : Nat) [m.kd], Seg.vals [Value.bool m.u], Seg.ints IntKind.i64 (1 : Nat) [m.s], Seg.vals [Value.bool m.l], Seg.ints IntKind.i64 (1 : Nat) [m.c], Seg.vals [Value.bool m.n]])])) :=
  Eq.trans (b :=
     bif decide (c < now) then some (Res.ret (Value.bool false) [some (Blk.mk true (5 : Nat) [Seg.vals [Value.pointer (some (Addr.mk (1 : Nat) (0 : Nat) none))], Seg.ints IntKind.i64 (2 : Nat) [w, now],
     Seg.vals [Value.bool t, Value.pointer (some (Addr.mk (2 : Nat) (0 : Nat) none))]]), some (Blk.mk true (9 : Nat) [Seg.ints IntKind.i64 (9 : Nat) xs]), some (Blk.mk true (7 : Nat) [Seg.ints IntKind.i64
     (1 : Nat) [a], Seg.ints IntKind.u8 (1 : Nat) [m.kd], Seg.vals [Value.bool m.u], Seg.ints IntKind.i64 (1 : Nat) [m.s], Seg.vals [Value.bool m.l], Seg.ints IntKind.i64 (1 : Nat) [m.c], Seg.vals
     [Value.bool m.n]])]) else none) (by kernel_rfl) (by exact (go_t (dec_t h1) rfl))
--CFEND
end Go.Proofs.Ytpidmcpnkfgcjaa.VC
