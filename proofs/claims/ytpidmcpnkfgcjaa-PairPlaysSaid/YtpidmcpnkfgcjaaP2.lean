/- pair: what come, Edge, Message answer, by paths (printed by gen/p2.py). -/
import Derived.Test.YtpidmcpnkfgcjaaP1
namespace Go.Proofs.Ytpidmcpnkfgcjaa.VC
open Go Go.Proofs

/-- The last edge. -/
def lastR (xs : List Int) : Int := xs.getD ((xs.getD 8 0 - 1) % 8).toNat 0
/-- Add, where the edge is laid. -/
noncomputable def F13a : FSpec := fun args h k => match args, h with
  | [.pointer (some ⟨0, 0, none⟩), .int .i64 c], [some ⟨true, 9, [.ints .i64 9 xs]⟩] =>
    bif chk (0 ≤ xs.getD 8 0 ∧ xs.getD 8 0 ≤ 1000 ∧ lowB xs c = false) then k (w63 0) [eB true (pushR xs c)] else none
  | _, _ => none
theorem ok13a : EntryOK Try.prog 13 F13a := ok13.mono fun args h k out hk => by
  unfold F13a at hk
  split at hk
  · rename_i c xs
    obtain ⟨hb, hk⟩ := bif_t hk
    obtain ⟨h1, h2, h3⟩ := chk_iff.1 hb
    refine (chk_if ⟨h1, h2⟩ ?_ : F13 [.pointer (some ⟨0, 0, none⟩), .int .i64 c] [some ⟨true, 9, [.ints .i64 9 xs]⟩] k = some out)
    rw [h3]; exact hk
  · cases hk
noncomputable def F16l : FSpec := fun args h k => match args, h with
  | [.pointer (some ⟨0, 0, none⟩)], [some ⟨false, 9, [.ints .i64 9 xs]⟩] =>
    bif chk (1 ≤ xs.getD 8 0 ∧ xs.getD 8 0 ≤ 1000) then k (pr2 (lastR xs) true) [eB false xs] else none
  | _, _ => none
theorem ok16l : EntryOK Try.prog 16 F16l := ok16.mono fun args h k out hk => by
  unfold F16l at hk
  split at hk
  · rename_i xs
    obtain ⟨hb, hk⟩ := bif_t hk
    have h1 := chk_iff.1 hb
    show (bif xs.getD 8 0 == 0 then _ else _) = _
    rw [eqb_f (by omega), condF]
    exact chk_if h1 hk
  · cases hk
noncomputable def F16z : FSpec := fun args h k => match args, h with
  | [.pointer (some ⟨0, 0, none⟩)], [some ⟨false, 9, [.ints .i64 9 xs]⟩] => bif chk (xs.getD 8 0 = 0) then k (pr2 0 false) [eB false xs] else none
  | _, _ => none
theorem ok16z : EntryOK Try.prog 16 F16z := ok16.mono fun args h k out hk => by
  unfold F16z at hk
  split at hk
  · rename_i xs
    obtain ⟨hb, hk⟩ := bif_t hk
    have h1 := chk_iff.1 hb
    show (bif xs.getD 8 0 == 0 then _ else _) = _
    rw [eqb_t h1, condT]
    exact hk
  · cases hk
noncomputable def FComeT : FSpec := fun args h k => match args, h with
  | [.pointer (some ⟨0, 0, none⟩), .int .i64 c], [some ⟨true, 5, [.vals [.pointer (some ⟨1, 0, none⟩)], .ints .i64 2 [w, now], .vals [.bool t, .pointer none]]⟩, some ⟨true, 9, [.ints .i64 9 xs]⟩] =>
    bif chk (now ≤ c) then k (.bool true) [PB true w c t (.pointer none), eB true xs] else none
  | [.pointer (some ⟨0, 0, none⟩), .int .i64 c], [some ⟨true, 5, [.vals [.pointer (some ⟨1, 0, none⟩)], .ints .i64 2 [w, now], .vals [.bool t, .pointer (some ⟨2, 0, none⟩)]]⟩, some ⟨true, 9, [.ints .i64 9 xs]⟩, some ⟨true, 7, [.ints .i64 1 [a], .ints .u8 1 [kd], .vals [.bool u], .ints .i64 1 [s], .vals [.bool l], .ints .i64 1 [cy], .vals [.bool n]]⟩] =>
    bif chk (now ≤ c) then k (.bool true) [PB true w c t (pt 2), eB true xs, WB true a ⟨kd, u, s, l, cy, n⟩] else none
  | _, _ => none
noncomputable def FComeF : FSpec := fun args h k => match args, h with
  | [.pointer (some ⟨0, 0, none⟩), .int .i64 c], [some ⟨true, 5, [.vals [.pointer (some ⟨1, 0, none⟩)], .ints .i64 2 [w, now], .vals [.bool t, .pointer none]]⟩, some ⟨true, 9, [.ints .i64 9 xs]⟩] =>
    bif chk (c < now) then k (.bool false) [PB true w now t (.pointer none), eB true xs] else none
  | [.pointer (some ⟨0, 0, none⟩), .int .i64 c], [some ⟨true, 5, [.vals [.pointer (some ⟨1, 0, none⟩)], .ints .i64 2 [w, now], .vals [.bool t, .pointer (some ⟨2, 0, none⟩)]]⟩, some ⟨true, 9, [.ints .i64 9 xs]⟩, some ⟨true, 7, [.ints .i64 1 [a], .ints .u8 1 [kd], .vals [.bool u], .ints .i64 1 [s], .vals [.bool l], .ints .i64 1 [cy], .vals [.bool n]]⟩] =>
    bif chk (c < now) then k (.bool false) [PB true w now t (pt 2), eB true xs, WB true a ⟨kd, u, s, l, cy, n⟩] else none
  | _, _ => none
noncomputable def FEdgR : FSpec := fun args h k => match args, h with
  | [.pointer (some ⟨0, 0, none⟩), .int .i64 c], [some ⟨true, 5, [.vals [.pointer (some ⟨1, 0, none⟩)], .ints .i64 2 [w, now], .vals [.bool t, .pointer none]]⟩, some ⟨true, 9, [.ints .i64 9 xs]⟩] =>
    bif chk (c < now) then k (.tuple ⟨[pdV 0 ms0, .bool false]⟩) [PB true w now t (.pointer none), eB true xs] else none
  | [.pointer (some ⟨0, 0, none⟩), .int .i64 c], [some ⟨true, 5, [.vals [.pointer (some ⟨1, 0, none⟩)], .ints .i64 2 [w, now], .vals [.bool t, .pointer (some ⟨2, 0, none⟩)]]⟩, some ⟨true, 9, [.ints .i64 9 xs]⟩, some ⟨true, 7, [.ints .i64 1 [a], .ints .u8 1 [kd], .vals [.bool u], .ints .i64 1 [s], .vals [.bool l], .ints .i64 1 [cy], .vals [.bool n]]⟩] =>
    bif chk (c < now) then k (.tuple ⟨[pdV 0 ms0, .bool false]⟩) [PB true w now t (pt 2), eB true xs, WB true a ⟨kd, u, s, l, cy, n⟩] else none
  | _, _ => none
noncomputable def FEdgN : FSpec := fun args h k => match args, h with
  | [.pointer (some ⟨0, 0, none⟩), .int .i64 c], [some ⟨true, 5, [.vals [.pointer (some ⟨1, 0, none⟩)], .ints .i64 2 [w, now], .vals [.bool _, .pointer none]]⟩, some ⟨true, 9, [.ints .i64 9 xs]⟩] =>
    bif chk (now ≤ c ∧ 0 ≤ xs.getD 8 0 ∧ xs.getD 8 0 ≤ 1000 ∧ lowB xs c = false) then k (.tuple ⟨[pdV 0 ms0, .bool false]⟩) [PB true w c false (.pointer none), eB true (pushR xs c)] else none
  | _, _ => none
noncomputable def FEdgO : FSpec := fun args h k => match args, h with
  | [.pointer (some ⟨0, 0, none⟩), .int .i64 c], [some ⟨true, 5, [.vals [.pointer (some ⟨1, 0, none⟩)], .ints .i64 2 [w, now], .vals [.bool _, .pointer (some ⟨2, 0, none⟩)]]⟩, some ⟨true, 9, [.ints .i64 9 xs]⟩, some ⟨true, 7, [.ints .i64 1 [a], .ints .u8 1 [kd], .vals [.bool u], .ints .i64 1 [s], .vals [.bool l], .ints .i64 1 [cy], .vals [.bool n]]⟩] =>
    bif chk (now ≤ c ∧ 0 ≤ xs.getD 8 0 ∧ xs.getD 8 0 ≤ 1000 ∧ lowB xs c = false ∧ 0 ≤ a ∧ a ≤ c ∧ w < c - a) then k (.tuple ⟨[pdV 0 ms0, .bool false]⟩) [PB true w c false (.pointer none), eB true (pushR xs c), WB true a ⟨kd, u, s, l, cy, n⟩] else none
  | _, _ => none
noncomputable def FEdgI : FSpec := fun args h k => match args, h with
  | [.pointer (some ⟨0, 0, none⟩), .int .i64 c], [some ⟨true, 5, [.vals [.pointer (some ⟨1, 0, none⟩)], .ints .i64 2 [w, now], .vals [.bool _, .pointer (some ⟨2, 0, none⟩)]]⟩, some ⟨true, 9, [.ints .i64 9 xs]⟩, some ⟨true, 7, [.ints .i64 1 [a], .ints .u8 1 [kd], .vals [.bool u], .ints .i64 1 [s], .vals [.bool l], .ints .i64 1 [cy], .vals [.bool n]]⟩] =>
    bif chk (now ≤ c ∧ 0 ≤ xs.getD 8 0 ∧ xs.getD 8 0 ≤ 1000 ∧ lowB xs c = false ∧ 0 ≤ a ∧ a ≤ c ∧ c - a ≤ w) then k (.tuple ⟨[pdV c ⟨kd, u, s, l, cy, n⟩, .bool true]⟩) [PB true w c true (.pointer none), eB true (pushR xs c), WB true a ⟨kd, u, s, l, cy, n⟩] else none
  | _, _ => none
noncomputable def FMsgR : FSpec := fun args h k => match args, h with
  | [.pointer (some ⟨0, 0, none⟩), .int .i64 c, .agg ⟨[.int .u8 _, .bool _, .int .i64 _, .bool _, .int .i64 _, .bool _]⟩], [some ⟨true, 5, [.vals [.pointer (some ⟨1, 0, none⟩)], .ints .i64 2 [w, now], .vals [.bool t, .pointer none]]⟩, some ⟨true, 9, [.ints .i64 9 xs]⟩] =>
    bif chk (c < now) then k (.tuple ⟨[pdV 0 ms0, .bool false]⟩) [PB true w now t (.pointer none), eB true xs] else none
  | [.pointer (some ⟨0, 0, none⟩), .int .i64 c, .agg ⟨[.int .u8 _, .bool _, .int .i64 _, .bool _, .int .i64 _, .bool _]⟩], [some ⟨true, 5, [.vals [.pointer (some ⟨1, 0, none⟩)], .ints .i64 2 [w, now], .vals [.bool t, .pointer (some ⟨2, 0, none⟩)]]⟩, some ⟨true, 9, [.ints .i64 9 xs]⟩, some ⟨true, 7, [.ints .i64 1 [a], .ints .u8 1 [kd], .vals [.bool u], .ints .i64 1 [s], .vals [.bool l], .ints .i64 1 [cy], .vals [.bool n]]⟩] =>
    bif chk (c < now) then k (.tuple ⟨[pdV 0 ms0, .bool false]⟩) [PB true w now t (pt 2), eB true xs, WB true a ⟨kd, u, s, l, cy, n⟩] else none
  | _, _ => none
noncomputable def FMsgN : FSpec := fun args h k => match args, h with
  | [.pointer (some ⟨0, 0, none⟩), .int .i64 c, .agg ⟨[.int .u8 xk, .bool xu, .int .i64 xs', .bool xl, .int .i64 xc, .bool xn]⟩], [some ⟨true, 5, [.vals [.pointer (some ⟨1, 0, none⟩)], .ints .i64 2 [w, now], .vals [.bool t, .pointer none]]⟩, some ⟨true, 9, [.ints .i64 9 xs]⟩] =>
    bif chk (now ≤ c ∧ xn = true) then k (.tuple ⟨[pdV 0 ms0, .bool false]⟩) [PB true w c t (pt 2), eB true xs, WB true c (⟨xk, xu, xs', xl, xc, xn⟩ : Ms)] else none
  | [.pointer (some ⟨0, 0, none⟩), .int .i64 c, .agg ⟨[.int .u8 xk, .bool xu, .int .i64 xs', .bool xl, .int .i64 xc, .bool xn]⟩], [some ⟨true, 5, [.vals [.pointer (some ⟨1, 0, none⟩)], .ints .i64 2 [w, now], .vals [.bool t, .pointer (some ⟨2, 0, none⟩)]]⟩, some ⟨true, 9, [.ints .i64 9 xs]⟩, some ⟨true, 7, [.ints .i64 1 [a], .ints .u8 1 [kd], .vals [.bool u], .ints .i64 1 [s], .vals [.bool l], .ints .i64 1 [cy], .vals [.bool n]]⟩] =>
    bif chk (now ≤ c ∧ xn = true) then k (.tuple ⟨[pdV 0 ms0, .bool false]⟩) [PB true w c t (pt 3), eB true xs, WB true a ⟨kd, u, s, l, cy, n⟩, WB true c (⟨xk, xu, xs', xl, xc, xn⟩ : Ms)] else none
  | _, _ => none
noncomputable def FMsgX : FSpec := fun args h k => match args, h with
  | [.pointer (some ⟨0, 0, none⟩), .int .i64 c, .agg ⟨[.int .u8 _, .bool _, .int .i64 _, .bool _, .int .i64 _, .bool xn]⟩], [some ⟨true, 5, [.vals [.pointer (some ⟨1, 0, none⟩)], .ints .i64 2 [w, now], .vals [.bool t, .pointer none]]⟩, some ⟨true, 9, [.ints .i64 9 xs]⟩] =>
    bif chk (now ≤ c ∧ xn = false ∧ 0 ≤ now ∧ 0 ≤ w ∧ w ≤ 1000000000 ∧ 0 ≤ xs.getD 8 0 ∧ xs.getD 8 0 ≤ 1000 ∧ (xs.getD 8 0 = 0 ∨ (0 ≤ lastR xs ∧ lastR xs ≤ c)) ∧ (xs.getD 8 0 = 0 ∨ t = true ∨ w < c - lastR xs ∨ cnt (allX xs) (c - w) c ≠ 1)) then k (.tuple ⟨[pdV 0 ms0, .bool false]⟩) [PB true w c t (.pointer none), eB true xs] else none
  | [.pointer (some ⟨0, 0, none⟩), .int .i64 c, .agg ⟨[.int .u8 _, .bool _, .int .i64 _, .bool _, .int .i64 _, .bool xn]⟩], [some ⟨true, 5, [.vals [.pointer (some ⟨1, 0, none⟩)], .ints .i64 2 [w, now], .vals [.bool t, .pointer (some ⟨2, 0, none⟩)]]⟩, some ⟨true, 9, [.ints .i64 9 xs]⟩, some ⟨true, 7, [.ints .i64 1 [a], .ints .u8 1 [kd], .vals [.bool u], .ints .i64 1 [s], .vals [.bool l], .ints .i64 1 [cy], .vals [.bool n]]⟩] =>
    bif chk (now ≤ c ∧ xn = false ∧ 0 ≤ now ∧ 0 ≤ w ∧ w ≤ 1000000000 ∧ 0 ≤ xs.getD 8 0 ∧ xs.getD 8 0 ≤ 1000 ∧ (xs.getD 8 0 = 0 ∨ (0 ≤ lastR xs ∧ lastR xs ≤ c)) ∧ (xs.getD 8 0 = 0 ∨ t = true ∨ w < c - lastR xs ∨ cnt (allX xs) (c - w) c ≠ 1)) then k (.tuple ⟨[pdV 0 ms0, .bool false]⟩) [PB true w c t (pt 2), eB true xs, WB true a ⟨kd, u, s, l, cy, n⟩] else none
  | _, _ => none
noncomputable def FMsgP : FSpec := fun args h k => match args, h with
  | [.pointer (some ⟨0, 0, none⟩), .int .i64 c, .agg ⟨[.int .u8 xk, .bool xu, .int .i64 xs', .bool xl, .int .i64 xc, .bool xn]⟩], [some ⟨true, 5, [.vals [.pointer (some ⟨1, 0, none⟩)], .ints .i64 2 [w, now], .vals [.bool t, .pointer none]]⟩, some ⟨true, 9, [.ints .i64 9 xs]⟩] =>
    bif chk (now ≤ c ∧ xn = false ∧ 0 ≤ now ∧ 0 ≤ w ∧ w ≤ 1000000000 ∧ 0 ≤ xs.getD 8 0 ∧ xs.getD 8 0 ≤ 1000 ∧ (xs.getD 8 0 = 0 ∨ (0 ≤ lastR xs ∧ lastR xs ≤ c)) ∧ xs.getD 8 0 ≠ 0 ∧ t = false ∧ c - lastR xs ≤ w ∧ cnt (allX xs) (c - w) c = 1) then k (.tuple ⟨[pdV (lastR xs) (⟨xk, xu, xs', xl, xc, xn⟩ : Ms), .bool true]⟩) [PB true w c true (.pointer none), eB true xs] else none
  | [.pointer (some ⟨0, 0, none⟩), .int .i64 c, .agg ⟨[.int .u8 xk, .bool xu, .int .i64 xs', .bool xl, .int .i64 xc, .bool xn]⟩], [some ⟨true, 5, [.vals [.pointer (some ⟨1, 0, none⟩)], .ints .i64 2 [w, now], .vals [.bool t, .pointer (some ⟨2, 0, none⟩)]]⟩, some ⟨true, 9, [.ints .i64 9 xs]⟩, some ⟨true, 7, [.ints .i64 1 [a], .ints .u8 1 [kd], .vals [.bool u], .ints .i64 1 [s], .vals [.bool l], .ints .i64 1 [cy], .vals [.bool n]]⟩] =>
    bif chk (now ≤ c ∧ xn = false ∧ 0 ≤ now ∧ 0 ≤ w ∧ w ≤ 1000000000 ∧ 0 ≤ xs.getD 8 0 ∧ xs.getD 8 0 ≤ 1000 ∧ (xs.getD 8 0 = 0 ∨ (0 ≤ lastR xs ∧ lastR xs ≤ c)) ∧ xs.getD 8 0 ≠ 0 ∧ t = false ∧ c - lastR xs ≤ w ∧ cnt (allX xs) (c - w) c = 1) then k (.tuple ⟨[pdV (lastR xs) (⟨xk, xu, xs', xl, xc, xn⟩ : Ms), .bool true]⟩) [PB true w c true (pt 2), eB true xs, WB true a ⟨kd, u, s, l, cy, n⟩] else none
  | _, _ => none
noncomputable def SPT : Spec := mkS [(52, true, FComeT), (13, true, F13a), (16, false, F16l), (18, false, F18)]
noncomputable def SPTn : Spec := mkS [(52, true, FComeT), (16, false, F16z)]
noncomputable def SPF : Spec := mkS [(52, true, FComeF)]
--CP pEdgRN (c w now : Int) (t : Bool) (xs : List Int) :: fnK Try.prog (SPF.on [(10, true)]) noL Try.f28 [pt 0, w63 c] [PB true w now t (.pointer none), eB true xs]
theorem pEdgRN (c w now : Int) (t : Bool) (xs : List Int)
    (h1 : c < now := by first | omega | assumption | rfl) : fnK Try.prog (SPF.on [(10, true)]) noL Try.f28 [pt 0, w63 c] [PB true w now t (.pointer none), eB true xs] =
     (some (Res.ret (Value.tuple (Array.mk [Value.agg (Array.mk [Value.int IntKind.i64 (0 : Int), Value.int IntKind.u8 (0 : Int), Value.bool false, Value.int IntKind.i64 (0 : Int), Value.bool false,
     Value.int IntKind.i64 (0 : Int), Value.bool false]), Value.bool false])) [some (Blk.mk true (5 : Nat) [Seg.vals [Value.pointer (some (Addr.mk (1 : Nat) (0 : Nat) none))], Seg.ints IntKind.i64 (2 :
     Nat) [w, now], Seg.vals [Value.bool t, Value.pointer none]]), some (Blk.mk true (9 : Nat) [Seg.ints IntKind.i64 (9 : Nat) xs])])) :=
  Eq.trans (by kernel_rfl) (go_t (chk_t h1) rfl)
--CFEND
--CP pEdgRS (c w now a : Int) (t : Bool) (m : Ms) (xs : List Int) :: fnK Try.prog (SPF.on [(10, true)]) noL Try.f28 [pt 0, w63 c] [PB true w now t (pt 2), eB true xs, WB true a m]
theorem pEdgRS (c w now a : Int) (t : Bool) (m : Ms) (xs : List Int)
    (h1 : c < now := by first | omega | assumption | rfl) : fnK Try.prog (SPF.on [(10, true)]) noL Try.f28 [pt 0, w63 c] [PB true w now t (pt 2), eB true xs, WB true a m] =
     (some (Res.ret (Value.tuple (Array.mk [Value.agg (Array.mk [Value.int IntKind.i64 (0 : Int), Value.int IntKind.u8 (0 : Int), Value.bool false, Value.int IntKind.i64 (0 : Int), Value.bool false,
     Value.int IntKind.i64 (0 : Int), Value.bool false]), Value.bool false])) [some (Blk.mk true (5 : Nat) [Seg.vals [Value.pointer (some (Addr.mk (1 : Nat) (0 : Nat) none))], Seg.ints IntKind.i64 (2 :
     Nat) [w, now], Seg.vals [Value.bool t, Value.pointer (some (Addr.mk (2 : Nat) (0 : Nat) none))]]), some (Blk.mk true (9 : Nat) [Seg.ints IntKind.i64 (9 : Nat) xs]), some (Blk.mk true (7 : Nat)
     [Seg.ints IntKind.i64 (1 : Nat) [a], Seg.ints IntKind.u8 (1 : Nat) [m.kd], Seg.vals [Value.bool m.u], Seg.ints IntKind.i64 (1 : Nat) [m.s], Seg.vals [Value.bool m.l], Seg.ints IntKind.i64 (1 : Nat)
     [m.c], Seg.vals [Value.bool m.n]])])) :=
  Eq.trans (by kernel_rfl) (go_t (chk_t h1) rfl)
--CFEND
--CP pEdgN (c w now : Int) (t : Bool) (xs : List Int) :: fnK Try.prog (SPT.on [(10, false), (27, false), (48, true)]) noL Try.f28 [pt 0, w63 c] [PB true w now t (.pointer none), eB true xs]
theorem pEdgN (c w now : Int) (t : Bool) (xs : List Int)
    (h1 : now ≤ c := by first | omega | assumption | rfl)
    (h2 : (0 : Int) ≤ xs.getD (8 : Nat) (0 : Int) ∧ xs.getD (8 : Nat) (0 : Int) ≤ (1000 : Int) ∧ lowB xs c = false := by first | omega | assumption | rfl) : fnK Try.prog (SPT.on [(10, false), (27, false), (48, true)]) noL Try.f28 [pt 0, w63 c] [PB true w now t (.pointer none), eB true xs] =
     (some (Res.ret (Value.tuple (Array.mk [Value.agg (Array.mk [Value.int IntKind.i64 (0 : Int), Value.int IntKind.u8 (0 : Int), Value.bool false, Value.int IntKind.i64 (0 : Int), Value.bool false,
     Value.int IntKind.i64 (0 : Int), Value.bool false]), Value.bool false])) [some (Blk.mk true (5 : Nat) [Seg.vals [Value.pointer (some (Addr.mk (1 : Nat) (0 : Nat) none))], Seg.ints IntKind.i64 (2 :
     Nat) [w, c], Seg.vals [Value.bool false, Value.pointer none]]), some (Blk.mk true (9 : Nat) [Seg.ints IntKind.i64 (9 : Nat) (pushR xs c)])])) :=
  Eq.trans (by kernel_rfl) (go_t (chk_t h1) (go_t (chk_t h2) rfl))
--CFEND
--CP pEdgO (c w now a : Int) (t : Bool) (m : Ms) (xs : List Int) :: fnK Try.prog (SPT.on [(10, false), (27, true), (48, true)]) noL Try.f28 [pt 0, w63 c] [PB true w now t (pt 2), eB true xs, WB true a m]
theorem pEdgO (c w now a : Int) (t : Bool) (m : Ms) (xs : List Int)
    (w1 : -9223372036854775808 ≤ c - a ∧ c - a ≤ 9223372036854775807 := by omega)
    (h1 : now ≤ c := by first | omega | assumption | rfl)
    (h2 : (0 : Int) ≤ xs.getD (8 : Nat) (0 : Int) ∧ xs.getD (8 : Nat) (0 : Int) ≤ (1000 : Int) ∧ lowB xs c = false := by first | omega | assumption | rfl)
    (h3 : ¬c - a ≤ w := by first | omega | assumption | rfl) : fnK Try.prog (SPT.on [(10, false), (27, true), (48, true)]) noL Try.f28 [pt 0, w63 c] [PB true w now t (pt 2), eB true xs, WB true a m] =
     (some (Res.ret (Value.tuple (Array.mk [Value.agg (Array.mk [Value.int IntKind.i64 (0 : Int), Value.int IntKind.u8 (0 : Int), Value.bool false, Value.int IntKind.i64 (0 : Int), Value.bool false,
     Value.int IntKind.i64 (0 : Int), Value.bool false]), Value.bool false])) [some (Blk.mk true (5 : Nat) [Seg.vals [Value.pointer (some (Addr.mk (1 : Nat) (0 : Nat) none))], Seg.ints IntKind.i64 (2 :
     Nat) [w, c], Seg.vals [Value.bool (decide (c - a ≤ w)), Value.pointer none]]), some (Blk.mk true (9 : Nat) [Seg.ints IntKind.i64 (9 : Nat) (pushR xs c)]), some (Blk.mk true (7 : Nat) [Seg.ints
     IntKind.i64 (1 : Nat) [a], Seg.ints IntKind.u8 (1 : Nat) [m.kd], Seg.vals [Value.bool m.u], Seg.ints IntKind.i64 (1 : Nat) [m.s], Seg.vals [Value.bool m.l], Seg.ints IntKind.i64 (1 : Nat) [m.c],
     Seg.vals [Value.bool m.n]])])) :=
  Eq.trans (b :=
     bif chk (now ≤ c) then bif chk ((0 : Int) ≤ xs.getD (8 : Nat) (0 : Int) ∧ xs.getD (8 : Nat) (0 : Int) ≤ (1000 : Int) ∧ lowB xs c = false) then bif !decide (IntKind.i64.wrap (c - a) ≤ w) then some
     (Res.ret (Value.tuple (Array.mk [Value.agg (Array.mk [Value.int IntKind.i64 (0 : Int), Value.int IntKind.u8 (0 : Int), Value.bool false, Value.int IntKind.i64 (0 : Int), Value.bool false, Value.int
     IntKind.i64 (0 : Int), Value.bool false]), Value.bool false])) [some (Blk.mk true (5 : Nat) [Seg.vals [Value.pointer (some (Addr.mk (1 : Nat) (0 : Nat) none))], Seg.ints IntKind.i64 (2 : Nat) [w, c],
     Seg.vals [Value.bool (decide (IntKind.i64.wrap (c - a) ≤ w)), Value.pointer none]]), some (Blk.mk true (9 : Nat) [Seg.ints IntKind.i64 (9 : Nat) (pushR xs c)]), some (Blk.mk true (7 : Nat) [Seg.ints
     IntKind.i64 (1 : Nat) [a], Seg.ints IntKind.u8 (1 : Nat) [m.kd], Seg.vals [Value.bool m.u], Seg.ints IntKind.i64 (1 : Nat) [m.s], Seg.vals [Value.bool m.l], Seg.ints IntKind.i64 (1 : Nat) [m.c],
     Seg.vals [Value.bool m.n]])]) else none else none else none) (by kernel_rfl) (by simp only [-eq_self, swrap w1.1 w1.2]; exact (go_t (chk_t h1) (go_t (chk_t h2) (go_t (not_t (dec_f h3)) rfl))))
--CFEND
--CP pEdgI (c w now a : Int) (t : Bool) (m : Ms) (xs : List Int) :: fnK Try.prog (SPT.on [(10, false), (27, true), (48, false)]) noL Try.f28 [pt 0, w63 c] [PB true w now t (pt 2), eB true xs, WB true a m]
theorem pEdgI (c w now a : Int) (t : Bool) (m : Ms) (xs : List Int)
    (w1 : -9223372036854775808 ≤ c - a ∧ c - a ≤ 9223372036854775807 := by omega)
    (h1 : now ≤ c := by first | omega | assumption | rfl)
    (h2 : (0 : Int) ≤ xs.getD (8 : Nat) (0 : Int) ∧ xs.getD (8 : Nat) (0 : Int) ≤ (1000 : Int) ∧ lowB xs c = false := by first | omega | assumption | rfl)
    (h3 : c - a ≤ w := by first | omega | assumption | rfl) : fnK Try.prog (SPT.on [(10, false), (27, true), (48, false)]) noL Try.f28 [pt 0, w63 c] [PB true w now t (pt 2), eB true xs, WB true a m] =
     (some (Res.ret (Value.tuple (Array.mk [Value.agg (Array.mk [Value.int IntKind.i64 c, Value.int IntKind.u8 m.kd, Value.bool m.u, Value.int IntKind.i64 m.s, Value.bool m.l, Value.int IntKind.i64 m.c,
     Value.bool m.n]), Value.bool true])) [some (Blk.mk true (5 : Nat) [Seg.vals [Value.pointer (some (Addr.mk (1 : Nat) (0 : Nat) none))], Seg.ints IntKind.i64 (2 : Nat) [w, c], Seg.vals [Value.bool
     (decide (c - a ≤ w)), Value.pointer none]]), some (Blk.mk true (9 : Nat) [Seg.ints IntKind.i64 (9 : Nat) (pushR xs c)]), some (Blk.mk true (7 : Nat) [Seg.ints IntKind.i64 (1 : Nat) [a], Seg.ints
     IntKind.u8 (1 : Nat) [m.kd], Seg.vals [Value.bool m.u], Seg.ints IntKind.i64 (1 : Nat) [m.s], Seg.vals [Value.bool m.l], Seg.ints IntKind.i64 (1 : Nat) [m.c], Seg.vals [Value.bool m.n]])])) :=
  Eq.trans (b :=
     bif chk (now ≤ c) then bif chk ((0 : Int) ≤ xs.getD (8 : Nat) (0 : Int) ∧ xs.getD (8 : Nat) (0 : Int) ≤ (1000 : Int) ∧ lowB xs c = false) then bif !decide (IntKind.i64.wrap (c - a) ≤ w) then none else
     some (Res.ret (Value.tuple (Array.mk [Value.agg (Array.mk [Value.int IntKind.i64 c, Value.int IntKind.u8 m.kd, Value.bool m.u, Value.int IntKind.i64 m.s, Value.bool m.l, Value.int IntKind.i64 m.c,
     Value.bool m.n]), Value.bool true])) [some (Blk.mk true (5 : Nat) [Seg.vals [Value.pointer (some (Addr.mk (1 : Nat) (0 : Nat) none))], Seg.ints IntKind.i64 (2 : Nat) [w, c], Seg.vals [Value.bool
     (decide (IntKind.i64.wrap (c - a) ≤ w)), Value.pointer none]]), some (Blk.mk true (9 : Nat) [Seg.ints IntKind.i64 (9 : Nat) (pushR xs c)]), some (Blk.mk true (7 : Nat) [Seg.ints IntKind.i64 (1 : Nat)
     [a], Seg.ints IntKind.u8 (1 : Nat) [m.kd], Seg.vals [Value.bool m.u], Seg.ints IntKind.i64 (1 : Nat) [m.s], Seg.vals [Value.bool m.l], Seg.ints IntKind.i64 (1 : Nat) [m.c], Seg.vals [Value.bool
     m.n]])]) else none else none) (by kernel_rfl) (by simp only [-eq_self, swrap w1.1 w1.2]; exact (go_t (chk_t h1) (go_t (chk_t h2) (go_f (not_f (dec_t h3)) rfl))))
--CFEND
--CP pMsgRN (c w now : Int) (t : Bool) (xs : List Int) (x : Ms) :: fnK Try.prog (SPF.on [(13, true)]) noL Try.f29 [pt 0, w63 c, msV x] [PB true w now t (.pointer none), eB true xs]
theorem pMsgRN (c w now : Int) (t : Bool) (xs : List Int) (x : Ms)
    (h1 : c < now := by first | omega | assumption | rfl) : fnK Try.prog (SPF.on [(13, true)]) noL Try.f29 [pt 0, w63 c, msV x] [PB true w now t (.pointer none), eB true xs] =
     (some (Res.ret (Value.tuple (Array.mk [Value.agg (Array.mk [Value.int IntKind.i64 (0 : Int), Value.int IntKind.u8 (0 : Int), Value.bool false, Value.int IntKind.i64 (0 : Int), Value.bool false,
     Value.int IntKind.i64 (0 : Int), Value.bool false]), Value.bool false])) [some (Blk.mk true (5 : Nat) [Seg.vals [Value.pointer (some (Addr.mk (1 : Nat) (0 : Nat) none))], Seg.ints IntKind.i64 (2 :
     Nat) [w, now], Seg.vals [Value.bool t, Value.pointer none]]), some (Blk.mk true (9 : Nat) [Seg.ints IntKind.i64 (9 : Nat) xs])])) :=
  Eq.trans (by kernel_rfl) (go_t (chk_t h1) rfl)
--CFEND
--CP pMsgNN (c w now : Int) (t : Bool) (xs : List Int) (x : Ms) :: fnK Try.prog (SPT.on [(13, false), (16, true)]) noL Try.f29 [pt 0, w63 c, msV x] [PB true w now t (.pointer none), eB true xs]
theorem pMsgNN (c w now : Int) (t : Bool) (xs : List Int) (x : Ms)
    (h1 : now ≤ c := by first | omega | assumption | rfl)
    (h2 : x.n = true := by first | omega | assumption | rfl) : fnK Try.prog (SPT.on [(13, false), (16, true)]) noL Try.f29 [pt 0, w63 c, msV x] [PB true w now t (.pointer none), eB true xs] =
     (some (Res.ret (Value.tuple (Array.mk [Value.agg (Array.mk [Value.int IntKind.i64 (0 : Int), Value.int IntKind.u8 (0 : Int), Value.bool false, Value.int IntKind.i64 (0 : Int), Value.bool false,
     Value.int IntKind.i64 (0 : Int), Value.bool false]), Value.bool false])) [some (Blk.mk true (5 : Nat) [Seg.vals [Value.pointer (some (Addr.mk (1 : Nat) (0 : Nat) none))], Seg.ints IntKind.i64 (2 :
     Nat) [w, c], Seg.vals [Value.bool t, Value.pointer (some (Addr.mk (2 : Nat) (0 : Nat) none))]]), some (Blk.mk true (9 : Nat) [Seg.ints IntKind.i64 (9 : Nat) xs]), some (Blk.mk true (7 : Nat) [Seg.ints
     IntKind.i64 (1 : Nat) [c], Seg.ints IntKind.u8 (1 : Nat) [x.kd], Seg.vals [Value.bool x.u], Seg.ints IntKind.i64 (1 : Nat) [x.s], Seg.vals [Value.bool x.l], Seg.ints IntKind.i64 (1 : Nat) [x.c],
     Seg.vals [Value.bool x.n]])])) :=
  Eq.trans (by kernel_rfl) (go_t (chk_t h1) (go_t h2 rfl))
--CFEND
--CP pMsgX0N (c w now : Int) (t : Bool) (xs : List Int) (x : Ms) :: fnK Try.prog (SPTn.on [(13, false), (16, false), (36, true)]) noL Try.f29 [pt 0, w63 c, msV x] [PB true w now t (.pointer none), eB true xs]
theorem pMsgX0N (c w now : Int) (t : Bool) (xs : List Int) (x : Ms)
    (h1 : now ≤ c := by first | omega | assumption | rfl)
    (h2 : x.n = false := by first | omega | assumption | rfl)
    (h3 : xs.getD (8 : Nat) (0 : Int) = (0 : Int) := by first | omega | assumption | rfl) : fnK Try.prog (SPTn.on [(13, false), (16, false), (36, true)]) noL Try.f29 [pt 0, w63 c, msV x] [PB true w now t (.pointer none), eB true xs] =
     (some (Res.ret (Value.tuple (Array.mk [Value.agg (Array.mk [Value.int IntKind.i64 (0 : Int), Value.int IntKind.u8 (0 : Int), Value.bool false, Value.int IntKind.i64 (0 : Int), Value.bool false,
     Value.int IntKind.i64 (0 : Int), Value.bool false]), Value.bool false])) [some (Blk.mk true (5 : Nat) [Seg.vals [Value.pointer (some (Addr.mk (1 : Nat) (0 : Nat) none))], Seg.ints IntKind.i64 (2 :
     Nat) [w, c], Seg.vals [Value.bool t, Value.pointer none]]), some (Blk.mk true (9 : Nat) [Seg.ints IntKind.i64 (9 : Nat) xs])])) :=
  Eq.trans (by kernel_rfl) (go_t (chk_t h1) (go_f h2 (go_t (chk_t h3) rfl)))
--CFEND
--CP pMsgX1N (c w now : Int) (t : Bool) (xs : List Int) (x : Ms) :: fnK Try.prog (SPT.on [(13, false), (16, false), (36, false), (42, true)]) noL Try.f29 [pt 0, w63 c, msV x] [PB true w now t (.pointer none), eB true xs]
theorem pMsgX1N (c w now : Int) (t : Bool) (xs : List Int) (x : Ms)
    (h1 : now ≤ c := by first | omega | assumption | rfl)
    (h2 : x.n = false := by first | omega | assumption | rfl)
    (h3 : (1 : Int) ≤ xs.getD (8 : Nat) (0 : Int) ∧ xs.getD (8 : Nat) (0 : Int) ≤ (1000 : Int) := by first | omega | assumption | rfl)
    (h4 : t = true := by first | omega | assumption | rfl) : fnK Try.prog (SPT.on [(13, false), (16, false), (36, false), (42, true)]) noL Try.f29 [pt 0, w63 c, msV x] [PB true w now t (.pointer none), eB true xs] =
     (some (Res.ret (Value.tuple (Array.mk [Value.agg (Array.mk [Value.int IntKind.i64 (0 : Int), Value.int IntKind.u8 (0 : Int), Value.bool false, Value.int IntKind.i64 (0 : Int), Value.bool false,
     Value.int IntKind.i64 (0 : Int), Value.bool false]), Value.bool false])) [some (Blk.mk true (5 : Nat) [Seg.vals [Value.pointer (some (Addr.mk (1 : Nat) (0 : Nat) none))], Seg.ints IntKind.i64 (2 :
     Nat) [w, c], Seg.vals [Value.bool t, Value.pointer none]]), some (Blk.mk true (9 : Nat) [Seg.ints IntKind.i64 (9 : Nat) xs])])) :=
  Eq.trans (by kernel_rfl) (go_t (chk_t h1) (go_f h2 (go_t (chk_t h3) (go_t h4 rfl))))
--CFEND
--CP pMsgX2N (c w now : Int) (t : Bool) (xs : List Int) (x : Ms) :: fnK Try.prog (SPT.on [(13, false), (16, false), (36, false), (42, false), (52, true)]) noL Try.f29 [pt 0, w63 c, msV x] [PB true w now t (.pointer none), eB true xs]
theorem pMsgX2N (c w now : Int) (t : Bool) (xs : List Int) (x : Ms)
    (w1 : -9223372036854775808 ≤ c - lastR xs ∧ c - lastR xs ≤ 9223372036854775807 := by omega)
    (h1 : now ≤ c := by first | omega | assumption | rfl)
    (h2 : x.n = false := by first | omega | assumption | rfl)
    (h3 : (1 : Int) ≤ xs.getD (8 : Nat) (0 : Int) ∧ xs.getD (8 : Nat) (0 : Int) ≤ (1000 : Int) := by first | omega | assumption | rfl)
    (h4 : t = false := by first | omega | assumption | rfl)
    (h5 : c - lastR xs > w := by first | omega | assumption | rfl) : fnK Try.prog (SPT.on [(13, false), (16, false), (36, false), (42, false), (52, true)]) noL Try.f29 [pt 0, w63 c, msV x] [PB true w now t (.pointer none), eB true xs] =
     (some (Res.ret (Value.tuple (Array.mk [Value.agg (Array.mk [Value.int IntKind.i64 (0 : Int), Value.int IntKind.u8 (0 : Int), Value.bool false, Value.int IntKind.i64 (0 : Int), Value.bool false,
     Value.int IntKind.i64 (0 : Int), Value.bool false]), Value.bool false])) [some (Blk.mk true (5 : Nat) [Seg.vals [Value.pointer (some (Addr.mk (1 : Nat) (0 : Nat) none))], Seg.ints IntKind.i64 (2 :
     Nat) [w, c], Seg.vals [Value.bool t, Value.pointer none]]), some (Blk.mk true (9 : Nat) [Seg.ints IntKind.i64 (9 : Nat) xs])])) :=
  Eq.trans (b :=
     bif chk (now ≤ c) then bif x.n then none else bif chk ((1 : Int) ≤ xs.getD (8 : Nat) (0 : Int) ∧ xs.getD (8 : Nat) (0 : Int) ≤ (1000 : Int)) then bif t then none else bif decide (IntKind.i64.wrap (c -
     lastR xs) > w) then some (Res.ret (Value.tuple (Array.mk [Value.agg (Array.mk [Value.int IntKind.i64 (0 : Int), Value.int IntKind.u8 (0 : Int), Value.bool false, Value.int IntKind.i64 (0 : Int),
     Value.bool false, Value.int IntKind.i64 (0 : Int), Value.bool false]), Value.bool false])) [some (Blk.mk true (5 : Nat) [Seg.vals [Value.pointer (some (Addr.mk (1 : Nat) (0 : Nat) none))], Seg.ints
     IntKind.i64 (2 : Nat) [w, c], Seg.vals [Value.bool t, Value.pointer none]]), some (Blk.mk true (9 : Nat) [Seg.ints IntKind.i64 (9 : Nat) xs])]) else none else none else none) (by kernel_rfl) (by simp only [-eq_self, swrap w1.1 w1.2]; exact (go_t (chk_t h1) (go_f h2 (go_t (chk_t h3) (go_f h4 (go_t (dec_t h5) rfl))))))
--CFEND
--CP pMsgX3N (c w now : Int) (t : Bool) (xs : List Int) (x : Ms) :: fnK Try.prog (SPT.on [(13, false), (16, false), (36, false), (42, false), (52, false), (67, true)]) noL Try.f29 [pt 0, w63 c, msV x] [PB true w now t (.pointer none), eB true xs]
theorem pMsgX3N (c w now : Int) (t : Bool) (xs : List Int) (x : Ms)
    (w1 : -9223372036854775808 ≤ c - lastR xs ∧ c - lastR xs ≤ 9223372036854775807 := by omega)
    (w2 : -9223372036854775808 ≤ c - w ∧ c - w ≤ 9223372036854775807 := by omega)
    (h1 : now ≤ c := by first | omega | assumption | rfl)
    (h2 : x.n = false := by first | omega | assumption | rfl)
    (h3 : (1 : Int) ≤ xs.getD (8 : Nat) (0 : Int) ∧ xs.getD (8 : Nat) (0 : Int) ≤ (1000 : Int) := by first | omega | assumption | rfl)
    (h4 : t = false := by first | omega | assumption | rfl)
    (h5 : ¬c - lastR xs > w := by first | omega | assumption | rfl)
    (h6 : (0 : Int) ≤ xs.getD (8 : Nat) (0 : Int) ∧ xs.getD (8 : Nat) (0 : Int) ≤ (1000 : Int) := by first | omega | assumption | rfl)
    (h7 : (↑(cnt (allX xs) (c - w) c) : Int) ≠ (1 : Int) := by first | omega | assumption | rfl) : fnK Try.prog (SPT.on [(13, false), (16, false), (36, false), (42, false), (52, false), (67, true)]) noL Try.f29 [pt 0, w63 c, msV x] [PB true w now t (.pointer none), eB true xs] =
     (some (Res.ret (Value.tuple (Array.mk [Value.agg (Array.mk [Value.int IntKind.i64 (0 : Int), Value.int IntKind.u8 (0 : Int), Value.bool false, Value.int IntKind.i64 (0 : Int), Value.bool false,
     Value.int IntKind.i64 (0 : Int), Value.bool false]), Value.bool false])) [some (Blk.mk true (5 : Nat) [Seg.vals [Value.pointer (some (Addr.mk (1 : Nat) (0 : Nat) none))], Seg.ints IntKind.i64 (2 :
     Nat) [w, c], Seg.vals [Value.bool t, Value.pointer none]]), some (Blk.mk true (9 : Nat) [Seg.ints IntKind.i64 (9 : Nat) xs])])) :=
  Eq.trans (b :=
     bif chk (now ≤ c) then bif x.n then none else bif chk ((1 : Int) ≤ xs.getD (8 : Nat) (0 : Int) ∧ xs.getD (8 : Nat) (0 : Int) ≤ (1000 : Int)) then bif t then none else bif decide (IntKind.i64.wrap (c -
     lastR xs) > w) then none else bif chk ((0 : Int) ≤ xs.getD (8 : Nat) (0 : Int) ∧ xs.getD (8 : Nat) (0 : Int) ≤ (1000 : Int)) then bif (↑(cnt (allX xs) (IntKind.i64.wrap (c - w)) c) : Int) != (1 : Int)
     then some (Res.ret (Value.tuple (Array.mk [Value.agg (Array.mk [Value.int IntKind.i64 (0 : Int), Value.int IntKind.u8 (0 : Int), Value.bool false, Value.int IntKind.i64 (0 : Int), Value.bool false,
     Value.int IntKind.i64 (0 : Int), Value.bool false]), Value.bool false])) [some (Blk.mk true (5 : Nat) [Seg.vals [Value.pointer (some (Addr.mk (1 : Nat) (0 : Nat) none))], Seg.ints IntKind.i64 (2 :
     Nat) [w, c], Seg.vals [Value.bool t, Value.pointer none]]), some (Blk.mk true (9 : Nat) [Seg.ints IntKind.i64 (9 : Nat) xs])]) else none else none else none else none) (by kernel_rfl) (by simp only [-eq_self, swrap w1.1 w1.2, swrap w2.1 w2.2]; exact (go_t (chk_t h1) (go_f h2 (go_t (chk_t h3) (go_f h4 (go_f (dec_f h5) (go_t (chk_t h6) (go_t (bne_t h7) rfl))))))))
--CFEND
--CP pMsgPN (c w now : Int) (t : Bool) (xs : List Int) (x : Ms) :: fnK Try.prog (SPT.on [(13, false), (16, false), (36, false), (42, false), (52, false), (67, false)]) noL Try.f29 [pt 0, w63 c, msV x] [PB true w now t (.pointer none), eB true xs]
theorem pMsgPN (c w now : Int) (t : Bool) (xs : List Int) (x : Ms)
    (w1 : -9223372036854775808 ≤ c - lastR xs ∧ c - lastR xs ≤ 9223372036854775807 := by omega)
    (w2 : -9223372036854775808 ≤ c - w ∧ c - w ≤ 9223372036854775807 := by omega)
    (h1 : now ≤ c := by first | omega | assumption | rfl)
    (h2 : x.n = false := by first | omega | assumption | rfl)
    (h3 : (1 : Int) ≤ xs.getD (8 : Nat) (0 : Int) ∧ xs.getD (8 : Nat) (0 : Int) ≤ (1000 : Int) := by first | omega | assumption | rfl)
    (h4 : t = false := by first | omega | assumption | rfl)
    (h5 : ¬c - lastR xs > w := by first | omega | assumption | rfl)
    (h6 : (0 : Int) ≤ xs.getD (8 : Nat) (0 : Int) ∧ xs.getD (8 : Nat) (0 : Int) ≤ (1000 : Int) := by first | omega | assumption | rfl)
    (h7 : (↑(cnt (allX xs) (c - w) c) : Int) = (1 : Int) := by first | omega | assumption | rfl) : fnK Try.prog (SPT.on [(13, false), (16, false), (36, false), (42, false), (52, false), (67, false)]) noL Try.f29 [pt 0, w63 c, msV x] [PB true w now t (.pointer none), eB true xs] =
     (some (Res.ret (Value.tuple (Array.mk [Value.agg (Array.mk [Value.int IntKind.i64 (lastR xs), Value.int IntKind.u8 x.kd, Value.bool x.u, Value.int IntKind.i64 x.s, Value.bool x.l, Value.int
     IntKind.i64 x.c, Value.bool x.n]), Value.bool true])) [some (Blk.mk true (5 : Nat) [Seg.vals [Value.pointer (some (Addr.mk (1 : Nat) (0 : Nat) none))], Seg.ints IntKind.i64 (2 : Nat) [w, c], Seg.vals
     [Value.bool true, Value.pointer none]]), some (Blk.mk true (9 : Nat) [Seg.ints IntKind.i64 (9 : Nat) xs])])) :=
  Eq.trans (b :=
     bif chk (now ≤ c) then bif x.n then none else bif chk ((1 : Int) ≤ xs.getD (8 : Nat) (0 : Int) ∧ xs.getD (8 : Nat) (0 : Int) ≤ (1000 : Int)) then bif t then none else bif decide (IntKind.i64.wrap (c -
     lastR xs) > w) then none else bif chk ((0 : Int) ≤ xs.getD (8 : Nat) (0 : Int) ∧ xs.getD (8 : Nat) (0 : Int) ≤ (1000 : Int)) then bif (↑(cnt (allX xs) (IntKind.i64.wrap (c - w)) c) : Int) != (1 : Int)
     then none else some (Res.ret (Value.tuple (Array.mk [Value.agg (Array.mk [Value.int IntKind.i64 (lastR xs), Value.int IntKind.u8 x.kd, Value.bool x.u, Value.int IntKind.i64 x.s, Value.bool x.l,
     Value.int IntKind.i64 x.c, Value.bool x.n]), Value.bool true])) [some (Blk.mk true (5 : Nat) [Seg.vals [Value.pointer (some (Addr.mk (1 : Nat) (0 : Nat) none))], Seg.ints IntKind.i64 (2 : Nat) [w, c],
     Seg.vals [Value.bool true, Value.pointer none]]), some (Blk.mk true (9 : Nat) [Seg.ints IntKind.i64 (9 : Nat) xs])]) else none else none else none) (by kernel_rfl) (by simp only [-eq_self, swrap w1.1 w1.2, swrap w2.1 w2.2]; exact (go_t (chk_t h1) (go_f h2 (go_t (chk_t h3) (go_f h4 (go_f (dec_f h5) (go_t (chk_t h6) (go_f (bne_f h7) rfl))))))))
--CFEND
--CP pMsgRS (c w now a : Int) (t : Bool) (m : Ms) (xs : List Int) (x : Ms) :: fnK Try.prog (SPF.on [(13, true)]) noL Try.f29 [pt 0, w63 c, msV x] [PB true w now t (pt 2), eB true xs, WB true a m]
theorem pMsgRS (c w now a : Int) (t : Bool) (m : Ms) (xs : List Int) (x : Ms)
    (h1 : c < now := by first | omega | assumption | rfl) : fnK Try.prog (SPF.on [(13, true)]) noL Try.f29 [pt 0, w63 c, msV x] [PB true w now t (pt 2), eB true xs, WB true a m] =
     (some (Res.ret (Value.tuple (Array.mk [Value.agg (Array.mk [Value.int IntKind.i64 (0 : Int), Value.int IntKind.u8 (0 : Int), Value.bool false, Value.int IntKind.i64 (0 : Int), Value.bool false,
     Value.int IntKind.i64 (0 : Int), Value.bool false]), Value.bool false])) [some (Blk.mk true (5 : Nat) [Seg.vals [Value.pointer (some (Addr.mk (1 : Nat) (0 : Nat) none))], Seg.ints IntKind.i64 (2 :
     Nat) [w, now], Seg.vals [Value.bool t, Value.pointer (some (Addr.mk (2 : Nat) (0 : Nat) none))]]), some (Blk.mk true (9 : Nat) [Seg.ints IntKind.i64 (9 : Nat) xs]), some (Blk.mk true (7 : Nat)
     [Seg.ints IntKind.i64 (1 : Nat) [a], Seg.ints IntKind.u8 (1 : Nat) [m.kd], Seg.vals [Value.bool m.u], Seg.ints IntKind.i64 (1 : Nat) [m.s], Seg.vals [Value.bool m.l], Seg.ints IntKind.i64 (1 : Nat)
     [m.c], Seg.vals [Value.bool m.n]])])) :=
  Eq.trans (by kernel_rfl) (go_t (chk_t h1) rfl)
--CFEND
--CP pMsgNS (c w now a : Int) (t : Bool) (m : Ms) (xs : List Int) (x : Ms) :: fnK Try.prog (SPT.on [(13, false), (16, true)]) noL Try.f29 [pt 0, w63 c, msV x] [PB true w now t (pt 2), eB true xs, WB true a m]
theorem pMsgNS (c w now a : Int) (t : Bool) (m : Ms) (xs : List Int) (x : Ms)
    (h1 : now ≤ c := by first | omega | assumption | rfl)
    (h2 : x.n = true := by first | omega | assumption | rfl) : fnK Try.prog (SPT.on [(13, false), (16, true)]) noL Try.f29 [pt 0, w63 c, msV x] [PB true w now t (pt 2), eB true xs, WB true a m] =
     (some (Res.ret (Value.tuple (Array.mk [Value.agg (Array.mk [Value.int IntKind.i64 (0 : Int), Value.int IntKind.u8 (0 : Int), Value.bool false, Value.int IntKind.i64 (0 : Int), Value.bool false,
     Value.int IntKind.i64 (0 : Int), Value.bool false]), Value.bool false])) [some (Blk.mk true (5 : Nat) [Seg.vals [Value.pointer (some (Addr.mk (1 : Nat) (0 : Nat) none))], Seg.ints IntKind.i64 (2 :
     Nat) [w, c], Seg.vals [Value.bool t, Value.pointer (some (Addr.mk (3 : Nat) (0 : Nat) none))]]), some (Blk.mk true (9 : Nat) [Seg.ints IntKind.i64 (9 : Nat) xs]), some (Blk.mk true (7 : Nat) [Seg.ints
     IntKind.i64 (1 : Nat) [a], Seg.ints IntKind.u8 (1 : Nat) [m.kd], Seg.vals [Value.bool m.u], Seg.ints IntKind.i64 (1 : Nat) [m.s], Seg.vals [Value.bool m.l], Seg.ints IntKind.i64 (1 : Nat) [m.c],
     Seg.vals [Value.bool m.n]]), some (Blk.mk true (7 : Nat) [Seg.ints IntKind.i64 (1 : Nat) [c], Seg.ints IntKind.u8 (1 : Nat) [x.kd], Seg.vals [Value.bool x.u], Seg.ints IntKind.i64 (1 : Nat) [x.s],
     Seg.vals [Value.bool x.l], Seg.ints IntKind.i64 (1 : Nat) [x.c], Seg.vals [Value.bool x.n]])])) :=
  Eq.trans (by kernel_rfl) (go_t (chk_t h1) (go_t h2 rfl))
--CFEND
--CP pMsgX0S (c w now a : Int) (t : Bool) (m : Ms) (xs : List Int) (x : Ms) :: fnK Try.prog (SPTn.on [(13, false), (16, false), (36, true)]) noL Try.f29 [pt 0, w63 c, msV x] [PB true w now t (pt 2), eB true xs, WB true a m]
theorem pMsgX0S (c w now a : Int) (t : Bool) (m : Ms) (xs : List Int) (x : Ms)
    (h1 : now ≤ c := by first | omega | assumption | rfl)
    (h2 : x.n = false := by first | omega | assumption | rfl)
    (h3 : xs.getD (8 : Nat) (0 : Int) = (0 : Int) := by first | omega | assumption | rfl) : fnK Try.prog (SPTn.on [(13, false), (16, false), (36, true)]) noL Try.f29 [pt 0, w63 c, msV x] [PB true w now t (pt 2), eB true xs, WB true a m] =
     (some (Res.ret (Value.tuple (Array.mk [Value.agg (Array.mk [Value.int IntKind.i64 (0 : Int), Value.int IntKind.u8 (0 : Int), Value.bool false, Value.int IntKind.i64 (0 : Int), Value.bool false,
     Value.int IntKind.i64 (0 : Int), Value.bool false]), Value.bool false])) [some (Blk.mk true (5 : Nat) [Seg.vals [Value.pointer (some (Addr.mk (1 : Nat) (0 : Nat) none))], Seg.ints IntKind.i64 (2 :
     Nat) [w, c], Seg.vals [Value.bool t, Value.pointer (some (Addr.mk (2 : Nat) (0 : Nat) none))]]), some (Blk.mk true (9 : Nat) [Seg.ints IntKind.i64 (9 : Nat) xs]), some (Blk.mk true (7 : Nat) [Seg.ints
     IntKind.i64 (1 : Nat) [a], Seg.ints IntKind.u8 (1 : Nat) [m.kd], Seg.vals [Value.bool m.u], Seg.ints IntKind.i64 (1 : Nat) [m.s], Seg.vals [Value.bool m.l], Seg.ints IntKind.i64 (1 : Nat) [m.c],
     Seg.vals [Value.bool m.n]])])) :=
  Eq.trans (by kernel_rfl) (go_t (chk_t h1) (go_f h2 (go_t (chk_t h3) rfl)))
--CFEND
--CP pMsgX1S (c w now a : Int) (t : Bool) (m : Ms) (xs : List Int) (x : Ms) :: fnK Try.prog (SPT.on [(13, false), (16, false), (36, false), (42, true)]) noL Try.f29 [pt 0, w63 c, msV x] [PB true w now t (pt 2), eB true xs, WB true a m]
theorem pMsgX1S (c w now a : Int) (t : Bool) (m : Ms) (xs : List Int) (x : Ms)
    (h1 : now ≤ c := by first | omega | assumption | rfl)
    (h2 : x.n = false := by first | omega | assumption | rfl)
    (h3 : (1 : Int) ≤ xs.getD (8 : Nat) (0 : Int) ∧ xs.getD (8 : Nat) (0 : Int) ≤ (1000 : Int) := by first | omega | assumption | rfl)
    (h4 : t = true := by first | omega | assumption | rfl) : fnK Try.prog (SPT.on [(13, false), (16, false), (36, false), (42, true)]) noL Try.f29 [pt 0, w63 c, msV x] [PB true w now t (pt 2), eB true xs, WB true a m] =
     (some (Res.ret (Value.tuple (Array.mk [Value.agg (Array.mk [Value.int IntKind.i64 (0 : Int), Value.int IntKind.u8 (0 : Int), Value.bool false, Value.int IntKind.i64 (0 : Int), Value.bool false,
     Value.int IntKind.i64 (0 : Int), Value.bool false]), Value.bool false])) [some (Blk.mk true (5 : Nat) [Seg.vals [Value.pointer (some (Addr.mk (1 : Nat) (0 : Nat) none))], Seg.ints IntKind.i64 (2 :
     Nat) [w, c], Seg.vals [Value.bool t, Value.pointer (some (Addr.mk (2 : Nat) (0 : Nat) none))]]), some (Blk.mk true (9 : Nat) [Seg.ints IntKind.i64 (9 : Nat) xs]), some (Blk.mk true (7 : Nat) [Seg.ints
     IntKind.i64 (1 : Nat) [a], Seg.ints IntKind.u8 (1 : Nat) [m.kd], Seg.vals [Value.bool m.u], Seg.ints IntKind.i64 (1 : Nat) [m.s], Seg.vals [Value.bool m.l], Seg.ints IntKind.i64 (1 : Nat) [m.c],
     Seg.vals [Value.bool m.n]])])) :=
  Eq.trans (by kernel_rfl) (go_t (chk_t h1) (go_f h2 (go_t (chk_t h3) (go_t h4 rfl))))
--CFEND
--CP pMsgX2S (c w now a : Int) (t : Bool) (m : Ms) (xs : List Int) (x : Ms) :: fnK Try.prog (SPT.on [(13, false), (16, false), (36, false), (42, false), (52, true)]) noL Try.f29 [pt 0, w63 c, msV x] [PB true w now t (pt 2), eB true xs, WB true a m]
theorem pMsgX2S (c w now a : Int) (t : Bool) (m : Ms) (xs : List Int) (x : Ms)
    (w1 : -9223372036854775808 ≤ c - lastR xs ∧ c - lastR xs ≤ 9223372036854775807 := by omega)
    (h1 : now ≤ c := by first | omega | assumption | rfl)
    (h2 : x.n = false := by first | omega | assumption | rfl)
    (h3 : (1 : Int) ≤ xs.getD (8 : Nat) (0 : Int) ∧ xs.getD (8 : Nat) (0 : Int) ≤ (1000 : Int) := by first | omega | assumption | rfl)
    (h4 : t = false := by first | omega | assumption | rfl)
    (h5 : c - lastR xs > w := by first | omega | assumption | rfl) : fnK Try.prog (SPT.on [(13, false), (16, false), (36, false), (42, false), (52, true)]) noL Try.f29 [pt 0, w63 c, msV x] [PB true w now t (pt 2), eB true xs, WB true a m] =
     (some (Res.ret (Value.tuple (Array.mk [Value.agg (Array.mk [Value.int IntKind.i64 (0 : Int), Value.int IntKind.u8 (0 : Int), Value.bool false, Value.int IntKind.i64 (0 : Int), Value.bool false,
     Value.int IntKind.i64 (0 : Int), Value.bool false]), Value.bool false])) [some (Blk.mk true (5 : Nat) [Seg.vals [Value.pointer (some (Addr.mk (1 : Nat) (0 : Nat) none))], Seg.ints IntKind.i64 (2 :
     Nat) [w, c], Seg.vals [Value.bool t, Value.pointer (some (Addr.mk (2 : Nat) (0 : Nat) none))]]), some (Blk.mk true (9 : Nat) [Seg.ints IntKind.i64 (9 : Nat) xs]), some (Blk.mk true (7 : Nat) [Seg.ints
     IntKind.i64 (1 : Nat) [a], Seg.ints IntKind.u8 (1 : Nat) [m.kd], Seg.vals [Value.bool m.u], Seg.ints IntKind.i64 (1 : Nat) [m.s], Seg.vals [Value.bool m.l], Seg.ints IntKind.i64 (1 : Nat) [m.c],
     Seg.vals [Value.bool m.n]])])) :=
  Eq.trans (b :=
     bif chk (now ≤ c) then bif x.n then none else bif chk ((1 : Int) ≤ xs.getD (8 : Nat) (0 : Int) ∧ xs.getD (8 : Nat) (0 : Int) ≤ (1000 : Int)) then bif t then none else bif decide (IntKind.i64.wrap (c -
     lastR xs) > w) then some (Res.ret (Value.tuple (Array.mk [Value.agg (Array.mk [Value.int IntKind.i64 (0 : Int), Value.int IntKind.u8 (0 : Int), Value.bool false, Value.int IntKind.i64 (0 : Int),
     Value.bool false, Value.int IntKind.i64 (0 : Int), Value.bool false]), Value.bool false])) [some (Blk.mk true (5 : Nat) [Seg.vals [Value.pointer (some (Addr.mk (1 : Nat) (0 : Nat) none))], Seg.ints
     IntKind.i64 (2 : Nat) [w, c], Seg.vals [Value.bool t, Value.pointer (some (Addr.mk (2 : Nat) (0 : Nat) none))]]), some (Blk.mk true (9 : Nat) [Seg.ints IntKind.i64 (9 : Nat) xs]), some (Blk.mk true (7
     : Nat) [Seg.ints IntKind.i64 (1 : Nat) [a], Seg.ints IntKind.u8 (1 : Nat) [m.kd], Seg.vals [Value.bool m.u], Seg.ints IntKind.i64 (1 : Nat) [m.s], Seg.vals [Value.bool m.l], Seg.ints IntKind.i64 (1 :
     Nat) [m.c], Seg.vals [Value.bool m.n]])]) else none else none else none) (by kernel_rfl) (by simp only [-eq_self, swrap w1.1 w1.2]; exact (go_t (chk_t h1) (go_f h2 (go_t (chk_t h3) (go_f h4 (go_t (dec_t h5) rfl))))))
--CFEND
--CP pMsgX3S (c w now a : Int) (t : Bool) (m : Ms) (xs : List Int) (x : Ms) :: fnK Try.prog (SPT.on [(13, false), (16, false), (36, false), (42, false), (52, false), (67, true)]) noL Try.f29 [pt 0, w63 c, msV x] [PB true w now t (pt 2), eB true xs, WB true a m]
theorem pMsgX3S (c w now a : Int) (t : Bool) (m : Ms) (xs : List Int) (x : Ms)
    (w1 : -9223372036854775808 ≤ c - lastR xs ∧ c - lastR xs ≤ 9223372036854775807 := by omega)
    (w2 : -9223372036854775808 ≤ c - w ∧ c - w ≤ 9223372036854775807 := by omega)
    (h1 : now ≤ c := by first | omega | assumption | rfl)
    (h2 : x.n = false := by first | omega | assumption | rfl)
    (h3 : (1 : Int) ≤ xs.getD (8 : Nat) (0 : Int) ∧ xs.getD (8 : Nat) (0 : Int) ≤ (1000 : Int) := by first | omega | assumption | rfl)
    (h4 : t = false := by first | omega | assumption | rfl)
    (h5 : ¬c - lastR xs > w := by first | omega | assumption | rfl)
    (h6 : (0 : Int) ≤ xs.getD (8 : Nat) (0 : Int) ∧ xs.getD (8 : Nat) (0 : Int) ≤ (1000 : Int) := by first | omega | assumption | rfl)
    (h7 : (↑(cnt (allX xs) (c - w) c) : Int) ≠ (1 : Int) := by first | omega | assumption | rfl) : fnK Try.prog (SPT.on [(13, false), (16, false), (36, false), (42, false), (52, false), (67, true)]) noL Try.f29 [pt 0, w63 c, msV x] [PB true w now t (pt 2), eB true xs, WB true a m] =
     (some (Res.ret (Value.tuple (Array.mk [Value.agg (Array.mk [Value.int IntKind.i64 (0 : Int), Value.int IntKind.u8 (0 : Int), Value.bool false, Value.int IntKind.i64 (0 : Int), Value.bool false,
     Value.int IntKind.i64 (0 : Int), Value.bool false]), Value.bool false])) [some (Blk.mk true (5 : Nat) [Seg.vals [Value.pointer (some (Addr.mk (1 : Nat) (0 : Nat) none))], Seg.ints IntKind.i64 (2 :
     Nat) [w, c], Seg.vals [Value.bool t, Value.pointer (some (Addr.mk (2 : Nat) (0 : Nat) none))]]), some (Blk.mk true (9 : Nat) [Seg.ints IntKind.i64 (9 : Nat) xs]), some (Blk.mk true (7 : Nat) [Seg.ints
     IntKind.i64 (1 : Nat) [a], Seg.ints IntKind.u8 (1 : Nat) [m.kd], Seg.vals [Value.bool m.u], Seg.ints IntKind.i64 (1 : Nat) [m.s], Seg.vals [Value.bool m.l], Seg.ints IntKind.i64 (1 : Nat) [m.c],
     Seg.vals [Value.bool m.n]])])) :=
  Eq.trans (b :=
     bif chk (now ≤ c) then bif x.n then none else bif chk ((1 : Int) ≤ xs.getD (8 : Nat) (0 : Int) ∧ xs.getD (8 : Nat) (0 : Int) ≤ (1000 : Int)) then bif t then none else bif decide (IntKind.i64.wrap (c -
     lastR xs) > w) then none else bif chk ((0 : Int) ≤ xs.getD (8 : Nat) (0 : Int) ∧ xs.getD (8 : Nat) (0 : Int) ≤ (1000 : Int)) then bif (↑(cnt (allX xs) (IntKind.i64.wrap (c - w)) c) : Int) != (1 : Int)
     then some (Res.ret (Value.tuple (Array.mk [Value.agg (Array.mk [Value.int IntKind.i64 (0 : Int), Value.int IntKind.u8 (0 : Int), Value.bool false, Value.int IntKind.i64 (0 : Int), Value.bool false,
     Value.int IntKind.i64 (0 : Int), Value.bool false]), Value.bool false])) [some (Blk.mk true (5 : Nat) [Seg.vals [Value.pointer (some (Addr.mk (1 : Nat) (0 : Nat) none))], Seg.ints IntKind.i64 (2 :
     Nat) [w, c], Seg.vals [Value.bool t, Value.pointer (some (Addr.mk (2 : Nat) (0 : Nat) none))]]), some (Blk.mk true (9 : Nat) [Seg.ints IntKind.i64 (9 : Nat) xs]), some (Blk.mk true (7 : Nat) [Seg.ints
     IntKind.i64 (1 : Nat) [a], Seg.ints IntKind.u8 (1 : Nat) [m.kd], Seg.vals [Value.bool m.u], Seg.ints IntKind.i64 (1 : Nat) [m.s], Seg.vals [Value.bool m.l], Seg.ints IntKind.i64 (1 : Nat) [m.c],
     Seg.vals [Value.bool m.n]])]) else none else none else none else none) (by kernel_rfl) (by simp only [-eq_self, swrap w1.1 w1.2, swrap w2.1 w2.2]; exact (go_t (chk_t h1) (go_f h2 (go_t (chk_t h3) (go_f h4 (go_f (dec_f h5) (go_t (chk_t h6) (go_t (bne_t h7) rfl))))))))
--CFEND
--CP pMsgPS (c w now a : Int) (t : Bool) (m : Ms) (xs : List Int) (x : Ms) :: fnK Try.prog (SPT.on [(13, false), (16, false), (36, false), (42, false), (52, false), (67, false)]) noL Try.f29 [pt 0, w63 c, msV x] [PB true w now t (pt 2), eB true xs, WB true a m]
theorem pMsgPS (c w now a : Int) (t : Bool) (m : Ms) (xs : List Int) (x : Ms)
    (w1 : -9223372036854775808 ≤ c - lastR xs ∧ c - lastR xs ≤ 9223372036854775807 := by omega)
    (w2 : -9223372036854775808 ≤ c - w ∧ c - w ≤ 9223372036854775807 := by omega)
    (h1 : now ≤ c := by first | omega | assumption | rfl)
    (h2 : x.n = false := by first | omega | assumption | rfl)
    (h3 : (1 : Int) ≤ xs.getD (8 : Nat) (0 : Int) ∧ xs.getD (8 : Nat) (0 : Int) ≤ (1000 : Int) := by first | omega | assumption | rfl)
    (h4 : t = false := by first | omega | assumption | rfl)
    (h5 : ¬c - lastR xs > w := by first | omega | assumption | rfl)
    (h6 : (0 : Int) ≤ xs.getD (8 : Nat) (0 : Int) ∧ xs.getD (8 : Nat) (0 : Int) ≤ (1000 : Int) := by first | omega | assumption | rfl)
    (h7 : (↑(cnt (allX xs) (c - w) c) : Int) = (1 : Int) := by first | omega | assumption | rfl) : fnK Try.prog (SPT.on [(13, false), (16, false), (36, false), (42, false), (52, false), (67, false)]) noL Try.f29 [pt 0, w63 c, msV x] [PB true w now t (pt 2), eB true xs, WB true a m] =
     (some (Res.ret (Value.tuple (Array.mk [Value.agg (Array.mk [Value.int IntKind.i64 (lastR xs), Value.int IntKind.u8 x.kd, Value.bool x.u, Value.int IntKind.i64 x.s, Value.bool x.l, Value.int
     IntKind.i64 x.c, Value.bool x.n]), Value.bool true])) [some (Blk.mk true (5 : Nat) [Seg.vals [Value.pointer (some (Addr.mk (1 : Nat) (0 : Nat) none))], Seg.ints IntKind.i64 (2 : Nat) [w, c], Seg.vals
     [Value.bool true, Value.pointer (some (Addr.mk (2 : Nat) (0 : Nat) none))]]), some (Blk.mk true (9 : Nat) [Seg.ints IntKind.i64 (9 : Nat) xs]), some (Blk.mk true (7 : Nat) [Seg.ints IntKind.i64 (1 :
     Nat) [a], Seg.ints IntKind.u8 (1 : Nat) [m.kd], Seg.vals [Value.bool m.u], Seg.ints IntKind.i64 (1 : Nat) [m.s], Seg.vals [Value.bool m.l], Seg.ints IntKind.i64 (1 : Nat) [m.c], Seg.vals [Value.bool
     m.n]])])) :=
  Eq.trans (b :=
     bif chk (now ≤ c) then bif x.n then none else bif chk ((1 : Int) ≤ xs.getD (8 : Nat) (0 : Int) ∧ xs.getD (8 : Nat) (0 : Int) ≤ (1000 : Int)) then bif t then none else bif decide (IntKind.i64.wrap (c -
     lastR xs) > w) then none else bif chk ((0 : Int) ≤ xs.getD (8 : Nat) (0 : Int) ∧ xs.getD (8 : Nat) (0 : Int) ≤ (1000 : Int)) then bif (↑(cnt (allX xs) (IntKind.i64.wrap (c - w)) c) : Int) != (1 : Int)
     then none else some (Res.ret (Value.tuple (Array.mk [Value.agg (Array.mk [Value.int IntKind.i64 (lastR xs), Value.int IntKind.u8 x.kd, Value.bool x.u, Value.int IntKind.i64 x.s, Value.bool x.l,
     Value.int IntKind.i64 x.c, Value.bool x.n]), Value.bool true])) [some (Blk.mk true (5 : Nat) [Seg.vals [Value.pointer (some (Addr.mk (1 : Nat) (0 : Nat) none))], Seg.ints IntKind.i64 (2 : Nat) [w, c],
     Seg.vals [Value.bool true, Value.pointer (some (Addr.mk (2 : Nat) (0 : Nat) none))]]), some (Blk.mk true (9 : Nat) [Seg.ints IntKind.i64 (9 : Nat) xs]), some (Blk.mk true (7 : Nat) [Seg.ints
     IntKind.i64 (1 : Nat) [a], Seg.ints IntKind.u8 (1 : Nat) [m.kd], Seg.vals [Value.bool m.u], Seg.ints IntKind.i64 (1 : Nat) [m.s], Seg.vals [Value.bool m.l], Seg.ints IntKind.i64 (1 : Nat) [m.c],
     Seg.vals [Value.bool m.n]])]) else none else none else none) (by kernel_rfl) (by simp only [-eq_self, swrap w1.1 w1.2, swrap w2.1 w2.2]; exact (go_t (chk_t h1) (go_f h2 (go_t (chk_t h3) (go_f h4 (go_f (dec_f h5) (go_t (chk_t h6) (go_f (bne_f h7) rfl))))))))
--CFEND
end Go.Proofs.Ytpidmcpnkfgcjaa.VC
