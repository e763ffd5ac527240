/- PairPlays: rounds (printed by gen/p14.py). -/
import Derived.Test.YtpidmcpnkfgcjaaP13
namespace Go.Proofs.Ytpidmcpnkfgcjaa.VC
open Go Go.Proofs

noncomputable def FWtN : FSpec := fun args h k => match args, h with
  | [.pointer (some ⟨0, 0, none⟩)], [some ⟨false, 5, [.vals [.pointer (some ⟨1, 0, none⟩)], .ints .i64 2 [w, now], .vals [.bool t, .pointer none]]⟩, some ⟨false, 9, [.ints .i64 9 xs]⟩] =>
    k (.bool false) [PB false w now t (.pointer none), eB false xs]
  | _, _ => none
noncomputable def FWtS : FSpec := fun args h k => match args, h with
  | [.pointer (some ⟨0, 0, none⟩)], [some ⟨false, 5, [.vals [.pointer (some ⟨1, 0, none⟩)], .ints .i64 2 [w, now], .vals [.bool t, .pointer (some ⟨2, 0, none⟩)]]⟩, some ⟨false, 9, [.ints .i64 9 xs]⟩, some ⟨false, 7, [.ints .i64 1 [a], .ints .u8 1 [kd], .vals [.bool u], .ints .i64 1 [s], .vals [.bool l], .ints .i64 1 [cy], .vals [.bool n]]⟩] =>
    k (.bool true) [PB false w now t (pt 2), eB false xs, WB false a ⟨kd, u, s, l, cy, n⟩]
  | _, _ => none
noncomputable def FCpyN : FSpec := fun args h k => match args, h with
  | [.pointer (some ⟨0, 0, none⟩)], [some ⟨false, 5, [.vals [.pointer (some ⟨1, 0, none⟩)], .ints .i64 2 [w, now], .vals [.bool t, .pointer none]]⟩, some ⟨false, 9, [.ints .i64 9 xs]⟩] =>
    bif chk (xs.length = 9) then k (pt 2) [PB false w now t (.pointer none), eB false xs, some ⟨true, 5, [.vals [pt 3], .ints .i64 2 [w, now], .vals [.bool t, .pointer none]]⟩, eB true xs] else none
  | _, _ => none
noncomputable def FCpyS : FSpec := fun args h k => match args, h with
  | [.pointer (some ⟨0, 0, none⟩)], [some ⟨false, 5, [.vals [.pointer (some ⟨1, 0, none⟩)], .ints .i64 2 [w, now], .vals [.bool t, .pointer (some ⟨2, 0, none⟩)]]⟩, some ⟨false, 9, [.ints .i64 9 xs]⟩, some ⟨false, 7, [.ints .i64 1 [a], .ints .u8 1 [kd], .vals [.bool u], .ints .i64 1 [s], .vals [.bool l], .ints .i64 1 [cy], .vals [.bool n]]⟩] =>
    bif chk (xs.length = 9) then k (pt 3) [PB false w now t (pt 2), eB false xs, WB false a ⟨kd, u, s, l, cy, n⟩, some ⟨true, 5, [.vals [pt 4], .ints .i64 2 [w, now], .vals [.bool t, pt 2]]⟩, eB true xs] else none
  | _, _ => none
theorem okWtN : EntryOK Try.prog 33 FWtN := by
  refine EntryOK.of_paths (fn := Try.f33) follows_ok Try.func33 (by kernel_rfl) (by kernel_rfl) ?_
  intro args h k out hF
  unfold FWtN at hF
  split at hF
  · exact ⟨_, _, hF, fun _ => ⟨_, noL, mk0, noL_ok, pWtN _ _ _ _⟩⟩
  · cases hF
theorem okWtS : EntryOK Try.prog 33 FWtS := by
  refine EntryOK.of_paths (fn := Try.f33) follows_ok Try.func33 (by kernel_rfl) (by kernel_rfl) ?_
  intro args h k out hF
  unfold FWtS at hF
  split at hF
  · rename_i w now t xs a kd u s l cy n
    exact ⟨_, _, hF, fun _ => ⟨_, noL, mk0, noL_ok, pWtS w now a t ⟨kd, u, s, l, cy, n⟩ xs⟩⟩
  · cases hF
theorem SCpy_ok : SpecOK Try.prog SCpy := mkS_cons ok12 (mkS_nil _)
theorem okCpyN : EntryOK Try.prog 27 FCpyN := by
  refine EntryOK.of_paths (fn := Try.f27) follows_ok Try.func27 (by kernel_rfl) (by kernel_rfl) ?_
  intro args h k out hF
  unfold FCpyN at hF
  split at hF
  · rename_i w now t xs
    obtain ⟨hb, hF2⟩ := bif_t hF
    have hx := chk_iff.1 hb
    refine ⟨_, _, hF2, fun _ => ⟨_, noL, SCpy_ok, noL_ok, (pCpyN w now t xs).trans ?_⟩⟩
    rw [copy9 hx]
  · cases hF
theorem okCpyS : EntryOK Try.prog 27 FCpyS := by
  refine EntryOK.of_paths (fn := Try.f27) follows_ok Try.func27 (by kernel_rfl) (by kernel_rfl) ?_
  intro args h k out hF
  unfold FCpyS at hF
  split at hF
  · rename_i w now t xs a kd u s l cy n
    obtain ⟨hb, hF2⟩ := bif_t hF
    have hx := chk_iff.1 hb
    refine ⟨_, _, hF2, fun _ => ⟨_, noL, SCpy_ok, noL_ok, (pCpyS w now a t ⟨kd, u, s, l, cy, n⟩ xs).trans ?_⟩⟩
    rw [copy9 hx]
  · cases hF
noncomputable def S6e (fe re wt wa : FSpec) : Spec := mkS [(28, true, fe), (31, true, re), (33, false, wt), (34, false, wa)]
noncomputable def S6m (fe re wt wa : FSpec) : Spec := mkS [(29, true, fe), (32, true, re), (33, false, wt), (34, false, wa)]
noncomputable def S6c (cp dc fe fm wt wa : FSpec) : Spec := mkS [(27, false, cp), (30, false, dc), (28, true, fe), (29, true, fm), (33, false, wt), (34, false, wa)]
abbrev DBe (r : Nat) (w : Int) (n c : Nat) : Option Blk := some ⟨true, 2, [.ints .i64 1 [w], .vals [slo r 0 n c]]⟩
def live6 : List Nat := [4, 5, 7, 52, 53, 54]
--CP p6xN (w now : Int) (t : Bool) (n i cc : Nat) (xs : List Int) (vs : List FV) (ts : List Th) (on : List Value → Heap → Out) (out : Exit → List Value → Heap → Out) :: roundK Try.prog ((mkS []).on [(55, false)]) noL Try.f6.ntmps 1 (loopOf Try.f6 0) live6 [.bool false, pt 1, pt 3, sl 0 n 2, w63 n, w63 i] [opsB n vs, PBe 2 w now t (.pointer none), eB true xs, DBe 4 w ts.length cc, rowA true ts.length (flat ts)] on out
theorem p6xN (w now : Int) (t : Bool) (n i cc : Nat) (xs : List Int) (vs : List FV) (ts : List Th) (on : List Value → Heap → Out) (out : Exit → List Value → Heap → Out)
    (h1 : ¬(↑i : Int) < (↑n : Int) := by first | omega | assumption | rfl) : roundK Try.prog ((mkS []).on [(55, false)]) noL Try.f6.ntmps 1 (loopOf Try.f6 0) live6 [.bool false, pt 1, pt 3, sl 0 n 2, w63 n, w63 i] [opsB n vs, PBe 2 w now t (.pointer none), eB true xs, DBe 4 w ts.length cc, rowA true ts.length (flat ts)] on out =
     (out (Exit.exit (0 : Nat)) [Value.bool false, Value.pointer (some (Addr.mk (1 : Nat) (0 : Nat) none)), Value.pointer (some (Addr.mk (3 : Nat) (0 : Nat) none)), Value.slice (some (Addr.mk (0 : Nat) (0
     : Nat) none)) n (2 : Nat), Value.int IntKind.i64 (↑n : Int), Value.int IntKind.i64 (↑i : Int)] [some (Blk.mk false (9 : Nat) [Seg.any (n * (9 : Nat)) vs]), some (Blk.mk true (5 : Nat) [Seg.vals
     [Value.pointer (some (Addr.mk (2 : Nat) (0 : Nat) none))], Seg.ints IntKind.i64 (2 : Nat) [w, now], Seg.vals [Value.bool t, Value.pointer none]]), some (Blk.mk true (9 : Nat) [Seg.ints IntKind.i64 (9
     : Nat) xs]), some (Blk.mk true (2 : Nat) [Seg.ints IntKind.i64 (1 : Nat) [w], Seg.vals [Value.slice (some (Addr.mk (4 : Nat) (0 : Nat) none)) ts.length cc]]), some (Blk.mk true (10 : Nat) [Seg.any
     (ts.length * (10 : Nat)) (flat ts)])]) :=
  Eq.trans (by kernel_rfl) (go_f (dec_f h1) rfl)
--CFEND
--CP p6eRN (w now : Int) (t : Bool) (n i cc : Nat) (xs : List Int) (vs : List FV) (ts : List Th) (on : List Value → Heap → Out) (out : Exit → List Value → Heap → Out) :: roundK Try.prog ((S6e FEdgR (FRER ts) FWtN (FWan ts)).on [(55, true), (84, false), (102, true), (122, false), (126, false), (132, false)]) noL Try.f6.ntmps 1 (loopOf Try.f6 0) live6 [.bool false, pt 1, pt 3, sl 0 n 2, w63 n, w63 i] [opsB n vs, PBe 2 w now t (.pointer none), eB true xs, DBe 4 w ts.length cc, rowA true ts.length (flat ts)] on out
theorem p6eRN (w now : Int) (t : Bool) (n i cc : Nat) (xs : List Int) (vs : List FV) (ts : List Th) (on : List Value → Heap → Out) (out : Exit → List Value → Heap → Out)
    (w1 : -9223372036854775808 ≤ (↑i : Int) + (1 : Int) ∧ (↑i : Int) + (1 : Int) ≤ 9223372036854775807 := by omega)
    (h1 : (↑i : Int) < (↑n : Int) := by first | omega | assumption | rfl)
    (h2 : (0 : Int) ≤ (↑i : Int) := by first | omega | assumption | rfl)
    (h3 : i * (9 : Nat) < n * (9 : Nat) := by first | omega | assumption | rfl)
    (h4 : (vs.getD (i * (9 : Nat)) (FV.b false)).isB = true := by first | omega | assumption | rfl)
    (h5 : i * (9 : Nat) + (1 : Nat) < n * (9 : Nat) := by first | omega | assumption | rfl)
    (h6 : (vs.getD (i * (9 : Nat) + (1 : Nat)) (FV.b false)).isB = true := by first | omega | assumption | rfl)
    (h7 : i * (9 : Nat) + (2 : Nat) < n * (9 : Nat) := by first | omega | assumption | rfl)
    (h8 : FV.isI IntKind.i64 (vs.getD (i * (9 : Nat) + (2 : Nat)) (FV.b false)) = true := by first | omega | assumption | rfl)
    (h9 : i * (9 : Nat) + (3 : Nat) < n * (9 : Nat) := by first | omega | assumption | rfl)
    (h10 : FV.isI IntKind.u8 (vs.getD (i * (9 : Nat) + (3 : Nat)) (FV.b false)) = true := by first | omega | assumption | rfl)
    (h11 : i * (9 : Nat) + (4 : Nat) < n * (9 : Nat) := by first | omega | assumption | rfl)
    (h12 : (vs.getD (i * (9 : Nat) + (4 : Nat)) (FV.b false)).isB = true := by first | omega | assumption | rfl)
    (h13 : i * (9 : Nat) + (5 : Nat) < n * (9 : Nat) := by first | omega | assumption | rfl)
    (h14 : FV.isI IntKind.i64 (vs.getD (i * (9 : Nat) + (5 : Nat)) (FV.b false)) = true := by first | omega | assumption | rfl)
    (h15 : i * (9 : Nat) + (6 : Nat) < n * (9 : Nat) := by first | omega | assumption | rfl)
    (h16 : (vs.getD (i * (9 : Nat) + (6 : Nat)) (FV.b false)).isB = true := by first | omega | assumption | rfl)
    (h17 : i * (9 : Nat) + (7 : Nat) < n * (9 : Nat) := by first | omega | assumption | rfl)
    (h18 : FV.isI IntKind.i64 (vs.getD (i * (9 : Nat) + (7 : Nat)) (FV.b false)) = true := by first | omega | assumption | rfl)
    (h19 : i * (9 : Nat) + (8 : Nat) < n * (9 : Nat) := by first | omega | assumption | rfl)
    (h20 : (vs.getD (i * (9 : Nat) + (8 : Nat)) (FV.b false)).isB = true := by first | omega | assumption | rfl)
    (h21 : (vs.getD (i * (9 : Nat) + (1 : Nat)) (FV.b false)).asB = false := by first | omega | assumption | rfl)
    (h22 : (vs.getD (i * (9 : Nat)) (FV.b false)).asB = true := by first | omega | assumption | rfl)
    (h23 : (vs.getD (i * (9 : Nat) + (2 : Nat)) (FV.b false)).asI < now := by first | omega | assumption | rfl)
    (h24 : ts.length = ts.length ∧ ts.length * (10 : Nat) = ts.length * (10 : Nat) ∧ flat ts = flat ts ∧ ts.length ≤ (60 : Nat) ∧ ¬mayP ts (vs.getD (i * (9 : Nat) + (2 : Nat)) (FV.b false)).asI := by first | omega | assumption | rfl | ((repeat' with_reducible apply And.intro) <;> first | rfl | assumption | omega))
    (h25 : ts.length = ts.length ∧ ts.length * (10 : Nat) = ts.length * (10 : Nat) ∧ flat ts = flat ts ∧ ts.length ≤ (60 : Nat) ∧ waitI ts = (-1 : Int) := by first | omega | assumption | rfl | ((repeat' with_reducible apply And.intro) <;> first | rfl | assumption | omega)) : roundK Try.prog ((S6e FEdgR (FRER ts) FWtN (FWan ts)).on [(55, true), (84, false), (102, true), (122, false), (126, false), (132, false)]) noL Try.f6.ntmps 1 (loopOf Try.f6 0) live6 [.bool false, pt 1, pt 3, sl 0 n 2, w63 n, w63 i] [opsB n vs, PBe 2 w now t (.pointer none), eB true xs, DBe 4 w ts.length cc, rowA true ts.length (flat ts)] on out =
     (on [Value.bool false, Value.pointer (some (Addr.mk (1 : Nat) (0 : Nat) none)), Value.pointer (some (Addr.mk (3 : Nat) (0 : Nat) none)), Value.slice (some (Addr.mk (0 : Nat) (0 : Nat) none)) n (2 :
     Nat), Value.int IntKind.i64 (↑n : Int), Value.int IntKind.i64 ((↑i : Int) + (1 : Int))] [some (Blk.mk false (9 : Nat) [Seg.any (n * (9 : Nat)) vs]), some (Blk.mk true (5 : Nat) [Seg.vals
     [Value.pointer (some (Addr.mk (2 : Nat) (0 : Nat) none))], Seg.ints IntKind.i64 (2 : Nat) [w, now], Seg.vals [Value.bool t, Value.pointer none]]), some (Blk.mk true (9 : Nat) [Seg.ints IntKind.i64 (9
     : Nat) xs]), some (Blk.mk true (2 : Nat) [Seg.ints IntKind.i64 (1 : Nat) [w], Seg.vals [Value.slice (some (Addr.mk (4 : Nat) (0 : Nat) none)) ts.length cc]]), some (Blk.mk true (10 : Nat) [Seg.any
     (ts.length * (10 : Nat)) (flat ts)])]) :=
  Eq.trans (b :=
     bif decide ((↑i : Int) < (↑n : Int)) then bif decide ((0 : Int) ≤ (↑i : Int)) && decide ((↑i : Int) < (↑n : Int)) then bif ((0 : Nat) + (↑i : Int).toNat * (9 : Nat)).blt (n * (9 : Nat)) then bif
     (vs.getD ((0 : Nat) + (↑i : Int).toNat * (9 : Nat)) (FV.b false)).isB then bif ((0 : Nat) + (↑i : Int).toNat * (9 : Nat) + (1 : Nat)).blt (n * (9 : Nat)) then bif (vs.getD ((0 : Nat) + (↑i :
     Int).toNat * (9 : Nat) + (1 : Nat)) (FV.b false)).isB then bif ((0 : Nat) + (↑i : Int).toNat * (9 : Nat) + (1 : Nat) + (1 : Nat)).blt (n * (9 : Nat)) then bif FV.isI IntKind.i64 (vs.getD ((0 : Nat) +
     (↑i : Int).toNat * (9 : Nat) + (1 : Nat) + (1 : Nat)) (FV.b false)) then bif ((0 : Nat) + (↑i : Int).toNat * (9 : Nat) + (1 : Nat) + (1 : Nat) + (1 : Nat)).blt (n * (9 : Nat)) then bif FV.isI
     IntKind.u8 (vs.getD ((0 : Nat) + (↑i : Int).toNat * (9 : Nat) + (1 : Nat) + (1 : Nat) + (1 : Nat)) (FV.b false)) then bif ((0 : Nat) + (↑i : Int).toNat * (9 : Nat) + (1 : Nat) + (1 : Nat) + (1 : Nat)
     + (1 : Nat)).blt (n * (9 : Nat)) then bif (vs.getD ((0 : Nat) + (↑i : Int).toNat * (9 : Nat) + (1 : Nat) + (1 : Nat) + (1 : Nat) + (1 : Nat)) (FV.b false)).isB then bif ((0 : Nat) + (↑i : Int).toNat *
     (9 : Nat) + (1 : Nat) + (1 : Nat) + (1 : Nat) + (1 : Nat) + (1 : Nat)).blt (n * (9 : Nat)) then bif FV.isI IntKind.i64 (vs.getD ((0 : Nat) + (↑i : Int).toNat * (9 : Nat) + (1 : Nat) + (1 : Nat) + (1 :
     Nat) + (1 : Nat) + (1 : Nat)) (FV.b false)) then bif ((0 : Nat) + (↑i : Int).toNat * (9 : Nat) + (1 : Nat) + (1 : Nat) + (1 : Nat) + (1 : Nat) + (1 : Nat) + (1 : Nat)).blt (n * (9 : Nat)) then bif
     (vs.getD ((0 : Nat) + (↑i : Int).toNat * (9 : Nat) + (1 : Nat) + (1 : Nat) + (1 : Nat) + (1 : Nat) + (1 : Nat) + (1 : Nat)) (FV.b false)).isB then bif ((0 : Nat) + (↑i : Int).toNat * (9 : Nat) + (1 :
     Nat) + (1 : Nat) + (1 : Nat) + (1 : Nat) + (1 : Nat) + (1 : Nat) + (1 : Nat)).blt (n * (9 : Nat)) then bif FV.isI IntKind.i64 (vs.getD ((0 : Nat) + (↑i : Int).toNat * (9 : Nat) + (1 : Nat) + (1 : Nat)
     + (1 : Nat) + (1 : Nat) + (1 : Nat) + (1 : Nat) + (1 : Nat)) (FV.b false)) then bif ((0 : Nat) + (↑i : Int).toNat * (9 : Nat) + (1 : Nat) + (1 : Nat) + (1 : Nat) + (1 : Nat) + (1 : Nat) + (1 : Nat) +
     (1 : Nat) + (1 : Nat)).blt (n * (9 : Nat)) then bif (vs.getD ((0 : Nat) + (↑i : Int).toNat * (9 : Nat) + (1 : Nat) + (1 : Nat) + (1 : Nat) + (1 : Nat) + (1 : Nat) + (1 : Nat) + (1 : Nat) + (1 : Nat))
     (FV.b false)).isB then bif (vs.getD ((0 : Nat) + (↑i : Int).toNat * (9 : Nat) + (1 : Nat)) (FV.b false)).asB then none else bif (vs.getD ((0 : Nat) + (↑i : Int).toNat * (9 : Nat)) (FV.b false)).asB
     then bif chk ((vs.getD ((0 : Nat) + (↑i : Int).toNat * (9 : Nat) + (1 : Nat) + (1 : Nat)) (FV.b false)).asI < now) then bif chk (ts.length = ts.length ∧ ts.length * (10 : Nat) = ts.length * (10 : Nat)
     ∧ flat ts = flat ts ∧ ts.length ≤ (60 : Nat) ∧ ¬mayP ts (vs.getD ((0 : Nat) + (↑i : Int).toNat * (9 : Nat) + (1 : Nat) + (1 : Nat)) (FV.b false)).asI) then bif chk (ts.length = ts.length ∧ ts.length *
     (10 : Nat) = ts.length * (10 : Nat) ∧ flat ts = flat ts ∧ ts.length ≤ (60 : Nat) ∧ waitI ts = (-1 : Int)) then on [Value.bool false, Value.pointer (some (Addr.mk (1 : Nat) (0 : Nat) none)),
     Value.pointer (some (Addr.mk (3 : Nat) (0 : Nat) none)), Value.slice (some (Addr.mk (0 : Nat) (0 : Nat) none)) n (2 : Nat), Value.int IntKind.i64 (↑n : Int), Value.int IntKind.i64 (IntKind.i64.wrap
     ((↑i : Int) + (1 : Int)))] [some (Blk.mk false (9 : Nat) [Seg.any (n * (9 : Nat)) vs]), some (Blk.mk true (5 : Nat) [Seg.vals [Value.pointer (some (Addr.mk (2 : Nat) (0 : Nat) none))], Seg.ints
     IntKind.i64 (2 : Nat) [w, now], Seg.vals [Value.bool t, Value.pointer none]]), some (Blk.mk true (9 : Nat) [Seg.ints IntKind.i64 (9 : Nat) xs]), some (Blk.mk true (2 : Nat) [Seg.ints IntKind.i64 (1 :
     Nat) [w], Seg.vals [Value.slice (some (Addr.mk (4 : Nat) (0 : Nat) none)) ts.length cc]]), some (Blk.mk true (10 : Nat) [Seg.any (ts.length * (10 : Nat)) (flat ts)])] else none else none else none
     else none else none else none else none else none else none else none else none else none else none else none else none else none else none else none else none else none else none else none else none
     else none) (by kernel_rfl) (by simp only [-eq_self, Int.toNat_natCast, Nat.zero_add, swrap w1.1 w1.2]; exact (go_t (dec_t h1) (go_t (and_t (dec_t h2) (dec_t h1)) (go_t (blt_t h3) (go_t h4 (go_t (blt_t h5) (go_t h6 (go_t (blt_t h7) (go_t h8 (go_t (blt_t h9) (go_t h10 (go_t (blt_t h11) (go_t h12 (go_t (blt_t h13) (go_t h14 (go_t (blt_t h15) (go_t h16 (go_t (blt_t h17) (go_t h18 (go_t (blt_t h19) (go_t h20 (go_f h21 (go_t h22 (go_t (chk_t h23) (go_t (chk_t h24) (go_t (chk_t h25) rfl))))))))))))))))))))))))))
--CFEND
--CP p6mRN (w now : Int) (t : Bool) (n i cc : Nat) (xs : List Int) (vs : List FV) (ts : List Th) (on : List Value → Heap → Out) (out : Exit → List Value → Heap → Out) :: roundK Try.prog ((S6m FMsgR (FRMR ts) FWtN (FWan ts)).on [(55, true), (84, false), (102, false), (79, false), (83, false), (132, false)]) noL Try.f6.ntmps 1 (loopOf Try.f6 0) live6 [.bool false, pt 1, pt 3, sl 0 n 2, w63 n, w63 i] [opsB n vs, PBe 2 w now t (.pointer none), eB true xs, DBe 4 w ts.length cc, rowA true ts.length (flat ts)] on out
theorem p6mRN (w now : Int) (t : Bool) (n i cc : Nat) (xs : List Int) (vs : List FV) (ts : List Th) (on : List Value → Heap → Out) (out : Exit → List Value → Heap → Out)
    (w1 : -9223372036854775808 ≤ (↑i : Int) + (1 : Int) ∧ (↑i : Int) + (1 : Int) ≤ 9223372036854775807 := by omega)
    (h1 : (↑i : Int) < (↑n : Int) := by first | omega | assumption | rfl)
    (h2 : (0 : Int) ≤ (↑i : Int) := by first | omega | assumption | rfl)
    (h3 : i * (9 : Nat) < n * (9 : Nat) := by first | omega | assumption | rfl)
    (h4 : (vs.getD (i * (9 : Nat)) (FV.b false)).isB = true := by first | omega | assumption | rfl)
    (h5 : i * (9 : Nat) + (1 : Nat) < n * (9 : Nat) := by first | omega | assumption | rfl)
    (h6 : (vs.getD (i * (9 : Nat) + (1 : Nat)) (FV.b false)).isB = true := by first | omega | assumption | rfl)
    (h7 : i * (9 : Nat) + (2 : Nat) < n * (9 : Nat) := by first | omega | assumption | rfl)
    (h8 : FV.isI IntKind.i64 (vs.getD (i * (9 : Nat) + (2 : Nat)) (FV.b false)) = true := by first | omega | assumption | rfl)
    (h9 : i * (9 : Nat) + (3 : Nat) < n * (9 : Nat) := by first | omega | assumption | rfl)
    (h10 : FV.isI IntKind.u8 (vs.getD (i * (9 : Nat) + (3 : Nat)) (FV.b false)) = true := by first | omega | assumption | rfl)
    (h11 : i * (9 : Nat) + (4 : Nat) < n * (9 : Nat) := by first | omega | assumption | rfl)
    (h12 : (vs.getD (i * (9 : Nat) + (4 : Nat)) (FV.b false)).isB = true := by first | omega | assumption | rfl)
    (h13 : i * (9 : Nat) + (5 : Nat) < n * (9 : Nat) := by first | omega | assumption | rfl)
    (h14 : FV.isI IntKind.i64 (vs.getD (i * (9 : Nat) + (5 : Nat)) (FV.b false)) = true := by first | omega | assumption | rfl)
    (h15 : i * (9 : Nat) + (6 : Nat) < n * (9 : Nat) := by first | omega | assumption | rfl)
    (h16 : (vs.getD (i * (9 : Nat) + (6 : Nat)) (FV.b false)).isB = true := by first | omega | assumption | rfl)
    (h17 : i * (9 : Nat) + (7 : Nat) < n * (9 : Nat) := by first | omega | assumption | rfl)
    (h18 : FV.isI IntKind.i64 (vs.getD (i * (9 : Nat) + (7 : Nat)) (FV.b false)) = true := by first | omega | assumption | rfl)
    (h19 : i * (9 : Nat) + (8 : Nat) < n * (9 : Nat) := by first | omega | assumption | rfl)
    (h20 : (vs.getD (i * (9 : Nat) + (8 : Nat)) (FV.b false)).isB = true := by first | omega | assumption | rfl)
    (h21 : (vs.getD (i * (9 : Nat) + (1 : Nat)) (FV.b false)).asB = false := by first | omega | assumption | rfl)
    (h22 : (vs.getD (i * (9 : Nat)) (FV.b false)).asB = false := by first | omega | assumption | rfl)
    (h23 : (vs.getD (i * (9 : Nat) + (2 : Nat)) (FV.b false)).asI < now := by first | omega | assumption | rfl)
    (h24 : ts.length = ts.length ∧ ts.length * (10 : Nat) = ts.length * (10 : Nat) ∧ flat ts = flat ts ∧ ts.length ≤ (60 : Nat) ∧ ¬mayP ts (vs.getD (i * (9 : Nat) + (2 : Nat)) (FV.b false)).asI := by first | omega | assumption | rfl | ((repeat' with_reducible apply And.intro) <;> first | rfl | assumption | omega))
    (h25 : ts.length = ts.length ∧ ts.length * (10 : Nat) = ts.length * (10 : Nat) ∧ flat ts = flat ts ∧ ts.length ≤ (60 : Nat) ∧ waitI ts = (-1 : Int) := by first | omega | assumption | rfl | ((repeat' with_reducible apply And.intro) <;> first | rfl | assumption | omega)) : roundK Try.prog ((S6m FMsgR (FRMR ts) FWtN (FWan ts)).on [(55, true), (84, false), (102, false), (79, false), (83, false), (132, false)]) noL Try.f6.ntmps 1 (loopOf Try.f6 0) live6 [.bool false, pt 1, pt 3, sl 0 n 2, w63 n, w63 i] [opsB n vs, PBe 2 w now t (.pointer none), eB true xs, DBe 4 w ts.length cc, rowA true ts.length (flat ts)] on out =
     (on [Value.bool false, Value.pointer (some (Addr.mk (1 : Nat) (0 : Nat) none)), Value.pointer (some (Addr.mk (3 : Nat) (0 : Nat) none)), Value.slice (some (Addr.mk (0 : Nat) (0 : Nat) none)) n (2 :
     Nat), Value.int IntKind.i64 (↑n : Int), Value.int IntKind.i64 ((↑i : Int) + (1 : Int))] [some (Blk.mk false (9 : Nat) [Seg.any (n * (9 : Nat)) vs]), some (Blk.mk true (5 : Nat) [Seg.vals
     [Value.pointer (some (Addr.mk (2 : Nat) (0 : Nat) none))], Seg.ints IntKind.i64 (2 : Nat) [w, now], Seg.vals [Value.bool t, Value.pointer none]]), some (Blk.mk true (9 : Nat) [Seg.ints IntKind.i64 (9
     : Nat) xs]), some (Blk.mk true (2 : Nat) [Seg.ints IntKind.i64 (1 : Nat) [w], Seg.vals [Value.slice (some (Addr.mk (4 : Nat) (0 : Nat) none)) ts.length cc]]), some (Blk.mk true (10 : Nat) [Seg.any
     (ts.length * (10 : Nat)) (flat ts)])]) :=
  Eq.trans (b :=
     bif decide ((↑i : Int) < (↑n : Int)) then bif decide ((0 : Int) ≤ (↑i : Int)) && decide ((↑i : Int) < (↑n : Int)) then bif ((0 : Nat) + (↑i : Int).toNat * (9 : Nat)).blt (n * (9 : Nat)) then bif
     (vs.getD ((0 : Nat) + (↑i : Int).toNat * (9 : Nat)) (FV.b false)).isB then bif ((0 : Nat) + (↑i : Int).toNat * (9 : Nat) + (1 : Nat)).blt (n * (9 : Nat)) then bif (vs.getD ((0 : Nat) + (↑i :
     Int).toNat * (9 : Nat) + (1 : Nat)) (FV.b false)).isB then bif ((0 : Nat) + (↑i : Int).toNat * (9 : Nat) + (1 : Nat) + (1 : Nat)).blt (n * (9 : Nat)) then bif FV.isI IntKind.i64 (vs.getD ((0 : Nat) +
     (↑i : Int).toNat * (9 : Nat) + (1 : Nat) + (1 : Nat)) (FV.b false)) then bif ((0 : Nat) + (↑i : Int).toNat * (9 : Nat) + (1 : Nat) + (1 : Nat) + (1 : Nat)).blt (n * (9 : Nat)) then bif FV.isI
     IntKind.u8 (vs.getD ((0 : Nat) + (↑i : Int).toNat * (9 : Nat) + (1 : Nat) + (1 : Nat) + (1 : Nat)) (FV.b false)) then bif ((0 : Nat) + (↑i : Int).toNat * (9 : Nat) + (1 : Nat) + (1 : Nat) + (1 : Nat)
     + (1 : Nat)).blt (n * (9 : Nat)) then bif (vs.getD ((0 : Nat) + (↑i : Int).toNat * (9 : Nat) + (1 : Nat) + (1 : Nat) + (1 : Nat) + (1 : Nat)) (FV.b false)).isB then bif ((0 : Nat) + (↑i : Int).toNat *
     (9 : Nat) + (1 : Nat) + (1 : Nat) + (1 : Nat) + (1 : Nat) + (1 : Nat)).blt (n * (9 : Nat)) then bif FV.isI IntKind.i64 (vs.getD ((0 : Nat) + (↑i : Int).toNat * (9 : Nat) + (1 : Nat) + (1 : Nat) + (1 :
     Nat) + (1 : Nat) + (1 : Nat)) (FV.b false)) then bif ((0 : Nat) + (↑i : Int).toNat * (9 : Nat) + (1 : Nat) + (1 : Nat) + (1 : Nat) + (1 : Nat) + (1 : Nat) + (1 : Nat)).blt (n * (9 : Nat)) then bif
     (vs.getD ((0 : Nat) + (↑i : Int).toNat * (9 : Nat) + (1 : Nat) + (1 : Nat) + (1 : Nat) + (1 : Nat) + (1 : Nat) + (1 : Nat)) (FV.b false)).isB then bif ((0 : Nat) + (↑i : Int).toNat * (9 : Nat) + (1 :
     Nat) + (1 : Nat) + (1 : Nat) + (1 : Nat) + (1 : Nat) + (1 : Nat) + (1 : Nat)).blt (n * (9 : Nat)) then bif FV.isI IntKind.i64 (vs.getD ((0 : Nat) + (↑i : Int).toNat * (9 : Nat) + (1 : Nat) + (1 : Nat)
     + (1 : Nat) + (1 : Nat) + (1 : Nat) + (1 : Nat) + (1 : Nat)) (FV.b false)) then bif ((0 : Nat) + (↑i : Int).toNat * (9 : Nat) + (1 : Nat) + (1 : Nat) + (1 : Nat) + (1 : Nat) + (1 : Nat) + (1 : Nat) +
     (1 : Nat) + (1 : Nat)).blt (n * (9 : Nat)) then bif (vs.getD ((0 : Nat) + (↑i : Int).toNat * (9 : Nat) + (1 : Nat) + (1 : Nat) + (1 : Nat) + (1 : Nat) + (1 : Nat) + (1 : Nat) + (1 : Nat) + (1 : Nat))
     (FV.b false)).isB then bif (vs.getD ((0 : Nat) + (↑i : Int).toNat * (9 : Nat) + (1 : Nat)) (FV.b false)).asB then none else bif (vs.getD ((0 : Nat) + (↑i : Int).toNat * (9 : Nat)) (FV.b false)).asB
     then none else bif chk ((vs.getD ((0 : Nat) + (↑i : Int).toNat * (9 : Nat) + (1 : Nat) + (1 : Nat)) (FV.b false)).asI < now) then bif chk (ts.length = ts.length ∧ ts.length * (10 : Nat) = ts.length *
     (10 : Nat) ∧ flat ts = flat ts ∧ ts.length ≤ (60 : Nat) ∧ ¬mayP ts (vs.getD ((0 : Nat) + (↑i : Int).toNat * (9 : Nat) + (1 : Nat) + (1 : Nat)) (FV.b false)).asI) then bif chk (ts.length = ts.length ∧
     ts.length * (10 : Nat) = ts.length * (10 : Nat) ∧ flat ts = flat ts ∧ ts.length ≤ (60 : Nat) ∧ waitI ts = (-1 : Int)) then on [Value.bool false, Value.pointer (some (Addr.mk (1 : Nat) (0 : Nat)
     none)), Value.pointer (some (Addr.mk (3 : Nat) (0 : Nat) none)), Value.slice (some (Addr.mk (0 : Nat) (0 : Nat) none)) n (2 : Nat), Value.int IntKind.i64 (↑n : Int), Value.int IntKind.i64
     (IntKind.i64.wrap ((↑i : Int) + (1 : Int)))] [some (Blk.mk false (9 : Nat) [Seg.any (n * (9 : Nat)) vs]), some (Blk.mk true (5 : Nat) [Seg.vals [Value.pointer (some (Addr.mk (2 : Nat) (0 : Nat)
     none))], Seg.ints IntKind.i64 (2 : Nat) [w, now], Seg.vals [Value.bool t, Value.pointer none]]), some (Blk.mk true (9 : Nat) [Seg.ints IntKind.i64 (9 : Nat) xs]), some (Blk.mk true (2 : Nat) [Seg.ints
     IntKind.i64 (1 : Nat) [w], Seg.vals [Value.slice (some (Addr.mk (4 : Nat) (0 : Nat) none)) ts.length cc]]), some (Blk.mk true (10 : Nat) [Seg.any (ts.length * (10 : Nat)) (flat ts)])] else none else
     none else none else none else none else none else none else none else none else none else none else none else none else none else none else none else none else none else none else none else none else
     none else none) (by kernel_rfl) (by simp only [-eq_self, Int.toNat_natCast, Nat.zero_add, swrap w1.1 w1.2]; exact (go_t (dec_t h1) (go_t (and_t (dec_t h2) (dec_t h1)) (go_t (blt_t h3) (go_t h4 (go_t (blt_t h5) (go_t h6 (go_t (blt_t h7) (go_t h8 (go_t (blt_t h9) (go_t h10 (go_t (blt_t h11) (go_t h12 (go_t (blt_t h13) (go_t h14 (go_t (blt_t h15) (go_t h16 (go_t (blt_t h17) (go_t h18 (go_t (blt_t h19) (go_t h20 (go_f h21 (go_f h22 (go_t (chk_t h23) (go_t (chk_t h24) (go_t (chk_t h25) rfl))))))))))))))))))))))))))
--CFEND
--CP p6mNN (w now : Int) (t : Bool) (n i cc j' : Nat) (xs : List Int) (vs : List FV) (ts ts' : List Th) (on : List Value → Heap → Out) (out : Exit → List Value → Heap → Out) :: roundK Try.prog ((S6m FMsgN (FRMX ts) FWtS (FWaj ts' j')).on [(55, true), (84, false), (102, false), (79, false), (83, false), (132, false)]) noL Try.f6.ntmps 1 (loopOf Try.f6 0) live6 [.bool false, pt 1, pt 3, sl 0 n 2, w63 n, w63 i] [opsB n vs, PBe 2 w now t (.pointer none), eB true xs, DBe 4 w ts.length cc, rowA true ts.length (flat ts)] on out
theorem p6mNN (w now : Int) (t : Bool) (n i cc j' : Nat) (xs : List Int) (vs : List FV) (ts ts' : List Th) (on : List Value → Heap → Out) (out : Exit → List Value → Heap → Out)
    (w1 : -9223372036854775808 ≤ (↑i : Int) + (1 : Int) ∧ (↑i : Int) + (1 : Int) ≤ 9223372036854775807 := by omega)
    (h1 : (↑i : Int) < (↑n : Int) := by first | omega | assumption | rfl)
    (h2 : (0 : Int) ≤ (↑i : Int) := by first | omega | assumption | rfl)
    (h3 : i * (9 : Nat) < n * (9 : Nat) := by first | omega | assumption | rfl)
    (h4 : (vs.getD (i * (9 : Nat)) (FV.b false)).isB = true := by first | omega | assumption | rfl)
    (h5 : i * (9 : Nat) + (1 : Nat) < n * (9 : Nat) := by first | omega | assumption | rfl)
    (h6 : (vs.getD (i * (9 : Nat) + (1 : Nat)) (FV.b false)).isB = true := by first | omega | assumption | rfl)
    (h7 : i * (9 : Nat) + (2 : Nat) < n * (9 : Nat) := by first | omega | assumption | rfl)
    (h8 : FV.isI IntKind.i64 (vs.getD (i * (9 : Nat) + (2 : Nat)) (FV.b false)) = true := by first | omega | assumption | rfl)
    (h9 : i * (9 : Nat) + (3 : Nat) < n * (9 : Nat) := by first | omega | assumption | rfl)
    (h10 : FV.isI IntKind.u8 (vs.getD (i * (9 : Nat) + (3 : Nat)) (FV.b false)) = true := by first | omega | assumption | rfl)
    (h11 : i * (9 : Nat) + (4 : Nat) < n * (9 : Nat) := by first | omega | assumption | rfl)
    (h12 : (vs.getD (i * (9 : Nat) + (4 : Nat)) (FV.b false)).isB = true := by first | omega | assumption | rfl)
    (h13 : i * (9 : Nat) + (5 : Nat) < n * (9 : Nat) := by first | omega | assumption | rfl)
    (h14 : FV.isI IntKind.i64 (vs.getD (i * (9 : Nat) + (5 : Nat)) (FV.b false)) = true := by first | omega | assumption | rfl)
    (h15 : i * (9 : Nat) + (6 : Nat) < n * (9 : Nat) := by first | omega | assumption | rfl)
    (h16 : (vs.getD (i * (9 : Nat) + (6 : Nat)) (FV.b false)).isB = true := by first | omega | assumption | rfl)
    (h17 : i * (9 : Nat) + (7 : Nat) < n * (9 : Nat) := by first | omega | assumption | rfl)
    (h18 : FV.isI IntKind.i64 (vs.getD (i * (9 : Nat) + (7 : Nat)) (FV.b false)) = true := by first | omega | assumption | rfl)
    (h19 : i * (9 : Nat) + (8 : Nat) < n * (9 : Nat) := by first | omega | assumption | rfl)
    (h20 : (vs.getD (i * (9 : Nat) + (8 : Nat)) (FV.b false)).isB = true := by first | omega | assumption | rfl)
    (h21 : (vs.getD (i * (9 : Nat) + (1 : Nat)) (FV.b false)).asB = false := by first | omega | assumption | rfl)
    (h22 : (vs.getD (i * (9 : Nat)) (FV.b false)).asB = false := by first | omega | assumption | rfl)
    (h23 : now ≤ (vs.getD (i * (9 : Nat) + (2 : Nat)) (FV.b false)).asI ∧ (vs.getD (i * (9 : Nat) + (8 : Nat)) (FV.b false)).asB = true := by first | omega | assumption | rfl | ((repeat' with_reducible apply And.intro) <;> first | rfl | assumption | omega))
    (h24 : ts.length = ts.length ∧ ts.length * (10 : Nat) = ts.length * (10 : Nat) ∧ flat ts = flat ts ∧ ts.length ≤ (60 : Nat) ∧ mayP ts (vs.getD (i * (9 : Nat) + (2 : Nat)) (FV.b false)).asI ∧ RiseT ts ∧ (0 : Int) ≤ w ∧ w ≤ (1000000000 : Int) ∧ ((vs.getD (i * (9 : Nat) + (8 : Nat)) (FV.b false)).asB = true ∨ noP ts w (vs.getD (i * (9 : Nat) + (2 : Nat)) (FV.b false)).asI) := by first | omega | assumption | rfl | ((repeat' with_reducible apply And.intro) <;> first | rfl | assumption | omega))
    (h25 : ts.length + (1 : Nat) = ts'.length ∧ (ts.length + (1 : Nat)) * (10 : Nat) = ts'.length * (10 : Nat) ∧ flat (ts ++ [tM (vs.getD (i * (9 : Nat) + (2 : Nat)) (FV.b false)).asI (Ms.mk (vs.getD (i * (9 : Nat) + (3 : Nat)) (FV.b false)).asI (vs.getD (i * (9 : Nat) + (4 : Nat)) (FV.b false)).asB (vs.getD (i * (9 : Nat) + (5 : Nat)) (FV.b false)).asI (vs.getD (i * (9 : Nat) + (6 : Nat)) (FV.b false)).asB (vs.getD (i * (9 : Nat) + (7 : Nat)) (FV.b false)).asI (vs.getD (i * (9 : Nat) + (8 : Nat)) (FV.b false)).asB)]) = flat ts' ∧ ts.length + (1 : Nat) ≤ (60 : Nat) ∧ waitI ts' = (↑j' : Int) := by first | omega | assumption | rfl | ((repeat' with_reducible apply And.intro) <;> first | rfl | assumption | omega)) : roundK Try.prog ((S6m FMsgN (FRMX ts) FWtS (FWaj ts' j')).on [(55, true), (84, false), (102, false), (79, false), (83, false), (132, false)]) noL Try.f6.ntmps 1 (loopOf Try.f6 0) live6 [.bool false, pt 1, pt 3, sl 0 n 2, w63 n, w63 i] [opsB n vs, PBe 2 w now t (.pointer none), eB true xs, DBe 4 w ts.length cc, rowA true ts.length (flat ts)] on out =
     (on [Value.bool false, Value.pointer (some (Addr.mk (1 : Nat) (0 : Nat) none)), Value.pointer (some (Addr.mk (4 : Nat) (0 : Nat) none)), Value.slice (some (Addr.mk (0 : Nat) (0 : Nat) none)) n (2 :
     Nat), Value.int IntKind.i64 (↑n : Int), Value.int IntKind.i64 ((↑i : Int) + (1 : Int))] [some (Blk.mk false (9 : Nat) [Seg.any (n * (9 : Nat)) vs]), some (Blk.mk true (5 : Nat) [Seg.vals
     [Value.pointer (some (Addr.mk (2 : Nat) (0 : Nat) none))], Seg.ints IntKind.i64 (2 : Nat) [w, (vs.getD (i * (9 : Nat) + (2 : Nat)) (FV.b false)).asI], Seg.vals [Value.bool t, Value.pointer (some
     (Addr.mk (3 : Nat) (0 : Nat) none))]]), some (Blk.mk true (9 : Nat) [Seg.ints IntKind.i64 (9 : Nat) xs]), some (Blk.mk true (7 : Nat) [Seg.ints IntKind.i64 (1 : Nat) [(vs.getD (i * (9 : Nat) + (2 :
     Nat)) (FV.b false)).asI], Seg.ints IntKind.u8 (1 : Nat) [(vs.getD (i * (9 : Nat) + (3 : Nat)) (FV.b false)).asI], Seg.vals [Value.bool (vs.getD (i * (9 : Nat) + (4 : Nat)) (FV.b false)).asB], Seg.ints
     IntKind.i64 (1 : Nat) [(vs.getD (i * (9 : Nat) + (5 : Nat)) (FV.b false)).asI], Seg.vals [Value.bool (vs.getD (i * (9 : Nat) + (6 : Nat)) (FV.b false)).asB], Seg.ints IntKind.i64 (1 : Nat) [(vs.getD
     (i * (9 : Nat) + (7 : Nat)) (FV.b false)).asI], Seg.vals [Value.bool (vs.getD (i * (9 : Nat) + (8 : Nat)) (FV.b false)).asB]]), some (Blk.mk true (2 : Nat) [Seg.ints IntKind.i64 (1 : Nat) [w],
     Seg.vals [Value.slice (some (Addr.mk (5 : Nat) (0 : Nat) none)) (ts.length + (1 : Nat)) (1 : Nat)]]), some (Blk.mk true (10 : Nat) [Seg.any ((ts.length + (1 : Nat)) * (10 : Nat)) (flat (ts ++ [tM
     (vs.getD (i * (9 : Nat) + (2 : Nat)) (FV.b false)).asI (Ms.mk (vs.getD (i * (9 : Nat) + (3 : Nat)) (FV.b false)).asI (vs.getD (i * (9 : Nat) + (4 : Nat)) (FV.b false)).asB (vs.getD (i * (9 : Nat) + (5
     : Nat)) (FV.b false)).asI (vs.getD (i * (9 : Nat) + (6 : Nat)) (FV.b false)).asB (vs.getD (i * (9 : Nat) + (7 : Nat)) (FV.b false)).asI (vs.getD (i * (9 : Nat) + (8 : Nat)) (FV.b false)).asB)]))])]) :=
  Eq.trans (b :=
     bif decide ((↑i : Int) < (↑n : Int)) then bif decide ((0 : Int) ≤ (↑i : Int)) && decide ((↑i : Int) < (↑n : Int)) then bif ((0 : Nat) + (↑i : Int).toNat * (9 : Nat)).blt (n * (9 : Nat)) then bif
     (vs.getD ((0 : Nat) + (↑i : Int).toNat * (9 : Nat)) (FV.b false)).isB then bif ((0 : Nat) + (↑i : Int).toNat * (9 : Nat) + (1 : Nat)).blt (n * (9 : Nat)) then bif (vs.getD ((0 : Nat) + (↑i :
     Int).toNat * (9 : Nat) + (1 : Nat)) (FV.b false)).isB then bif ((0 : Nat) + (↑i : Int).toNat * (9 : Nat) + (1 : Nat) + (1 : Nat)).blt (n * (9 : Nat)) then bif FV.isI IntKind.i64 (vs.getD ((0 : Nat) +
     (↑i : Int).toNat * (9 : Nat) + (1 : Nat) + (1 : Nat)) (FV.b false)) then bif ((0 : Nat) + (↑i : Int).toNat * (9 : Nat) + (1 : Nat) + (1 : Nat) + (1 : Nat)).blt (n * (9 : Nat)) then bif FV.isI
     IntKind.u8 (vs.getD ((0 : Nat) + (↑i : Int).toNat * (9 : Nat) + (1 : Nat) + (1 : Nat) + (1 : Nat)) (FV.b false)) then bif ((0 : Nat) + (↑i : Int).toNat * (9 : Nat) + (1 : Nat) + (1 : Nat) + (1 : Nat)
     + (1 : Nat)).blt (n * (9 : Nat)) then bif (vs.getD ((0 : Nat) + (↑i : Int).toNat * (9 : Nat) + (1 : Nat) + (1 : Nat) + (1 : Nat) + (1 : Nat)) (FV.b false)).isB then bif ((0 : Nat) + (↑i : Int).toNat *
     (9 : Nat) + (1 : Nat) + (1 : Nat) + (1 : Nat) + (1 : Nat) + (1 : Nat)).blt (n * (9 : Nat)) then bif FV.isI IntKind.i64 (vs.getD ((0 : Nat) + (↑i : Int).toNat * (9 : Nat) + (1 : Nat) + (1 : Nat) + (1 :
     Nat) + (1 : Nat) + (1 : Nat)) (FV.b false)) then bif ((0 : Nat) + (↑i : Int).toNat * (9 : Nat) + (1 : Nat) + (1 : Nat) + (1 : Nat) + (1 : Nat) + (1 : Nat) + (1 : Nat)).blt (n * (9 : Nat)) then bif
     (vs.getD ((0 : Nat) + (↑i : Int).toNat * (9 : Nat) + (1 : Nat) + (1 : Nat) + (1 : Nat) + (1 : Nat) + (1 : Nat) + (1 : Nat)) (FV.b false)).isB then bif ((0 : Nat) + (↑i : Int).toNat * (9 : Nat) + (1 :
     Nat) + (1 : Nat) + (1 : Nat) + (1 : Nat) + (1 : Nat) + (1 : Nat) + (1 : Nat)).blt (n * (9 : Nat)) then bif FV.isI IntKind.i64 (vs.getD ((0 : Nat) + (↑i : Int).toNat * (9 : Nat) + (1 : Nat) + (1 : Nat)
     + (1 : Nat) + (1 : Nat) + (1 : Nat) + (1 : Nat) + (1 : Nat)) (FV.b false)) then bif ((0 : Nat) + (↑i : Int).toNat * (9 : Nat) + (1 : Nat) + (1 : Nat) + (1 : Nat) + (1 : Nat) + (1 : Nat) + (1 : Nat) +
     (1 : Nat) + (1 : Nat)).blt (n * (9 : Nat)) then bif (vs.getD ((0 : Nat) + (↑i : Int).toNat * (9 : Nat) + (1 : Nat) + (1 : Nat) + (1 : Nat) + (1 : Nat) + (1 : Nat) + (1 : Nat) + (1 : Nat) + (1 : Nat))
     (FV.b false)).isB then bif (vs.getD ((0 : Nat) + (↑i : Int).toNat * (9 : Nat) + (1 : Nat)) (FV.b false)).asB then none else bif (vs.getD ((0 : Nat) + (↑i : Int).toNat * (9 : Nat)) (FV.b false)).asB
     then none else bif chk (now ≤ (vs.getD ((0 : Nat) + (↑i : Int).toNat * (9 : Nat) + (1 : Nat) + (1 : Nat)) (FV.b false)).asI ∧ (vs.getD ((0 : Nat) + (↑i : Int).toNat * (9 : Nat) + (1 : Nat) + (1 : Nat)
     + (1 : Nat) + (1 : Nat) + (1 : Nat) + (1 : Nat) + (1 : Nat) + (1 : Nat)) (FV.b false)).asB = true) then bif chk (ts.length = ts.length ∧ ts.length * (10 : Nat) = ts.length * (10 : Nat) ∧ flat ts =
     flat ts ∧ ts.length ≤ (60 : Nat) ∧ mayP ts (vs.getD ((0 : Nat) + (↑i : Int).toNat * (9 : Nat) + (1 : Nat) + (1 : Nat)) (FV.b false)).asI ∧ RiseT ts ∧ (0 : Int) ≤ w ∧ w ≤ (1000000000 : Int) ∧ ((vs.getD
     ((0 : Nat) + (↑i : Int).toNat * (9 : Nat) + (1 : Nat) + (1 : Nat) + (1 : Nat) + (1 : Nat) + (1 : Nat) + (1 : Nat) + (1 : Nat) + (1 : Nat)) (FV.b false)).asB = true ∨ noP ts w (vs.getD ((0 : Nat) + (↑i
     : Int).toNat * (9 : Nat) + (1 : Nat) + (1 : Nat)) (FV.b false)).asI)) then bif chk (ts.length + (1 : Nat) = ts'.length ∧ (ts.length + (1 : Nat)) * (10 : Nat) = ts'.length * (10 : Nat) ∧ flat (ts ++
     [tM (vs.getD ((0 : Nat) + (↑i : Int).toNat * (9 : Nat) + (1 : Nat) + (1 : Nat)) (FV.b false)).asI (Ms.mk (vs.getD ((0 : Nat) + (↑i : Int).toNat * (9 : Nat) + (1 : Nat) + (1 : Nat) + (1 : Nat)) (FV.b
     false)).asI (vs.getD ((0 : Nat) + (↑i : Int).toNat * (9 : Nat) + (1 : Nat) + (1 : Nat) + (1 : Nat) + (1 : Nat)) (FV.b false)).asB (vs.getD ((0 : Nat) + (↑i : Int).toNat * (9 : Nat) + (1 : Nat) + (1 :
     Nat) + (1 : Nat) + (1 : Nat) + (1 : Nat)) (FV.b false)).asI (vs.getD ((0 : Nat) + (↑i : Int).toNat * (9 : Nat) + (1 : Nat) + (1 : Nat) + (1 : Nat) + (1 : Nat) + (1 : Nat) + (1 : Nat)) (FV.b
     false)).asB (vs.getD ((0 : Nat) + (↑i : Int).toNat * (9 : Nat) + (1 : Nat) + (1 : Nat) + (1 : Nat) + (1 : Nat) + (1 : Nat) + (1 : Nat) + (1 : Nat)) (FV.b false)).asI (vs.getD ((0 : Nat) + (↑i :
     Int).toNat * (9 : Nat) + (1 : Nat) + (1 : Nat) + (1 : Nat) + (1 : Nat) + (1 : Nat) + (1 : Nat) + (1 : Nat) + (1 : Nat)) (FV.b false)).asB)]) = flat ts' ∧ ts.length + (1 : Nat) ≤ (60 : Nat) ∧ waitI ts'
     = (↑j' : Int)) then on [Value.bool false, Value.pointer (some (Addr.mk (1 : Nat) (0 : Nat) none)), Value.pointer (some (Addr.mk (4 : Nat) (0 : Nat) none)), Value.slice (some (Addr.mk (0 : Nat) (0 :
     Nat) none)) n (2 : Nat), Value.int IntKind.i64 (↑n : Int), Value.int IntKind.i64 (IntKind.i64.wrap ((↑i : Int) + (1 : Int)))] [some (Blk.mk false (9 : Nat) [Seg.any (n * (9 : Nat)) vs]), some (Blk.mk
     true (5 : Nat) [Seg.vals [Value.pointer (some (Addr.mk (2 : Nat) (0 : Nat) none))], Seg.ints IntKind.i64 (2 : Nat) [w, (vs.getD ((0 : Nat) + (↑i : Int).toNat * (9 : Nat) + (1 : Nat) + (1 : Nat)) (FV.b
     false)).asI], Seg.vals [Value.bool t, Value.pointer (some (Addr.mk (3 : Nat) (0 : Nat) none))]]), some (Blk.mk true (9 : Nat) [Seg.ints IntKind.i64 (9 : Nat) xs]), some (Blk.mk true (7 : Nat)
     [Seg.ints IntKind.i64 (1 : Nat) [(vs.getD ((0 : Nat) + (↑i : Int).toNat * (9 : Nat) + (1 : Nat) + (1 : Nat)) (FV.b false)).asI], Seg.ints IntKind.u8 (1 : Nat) [(vs.getD ((0 : Nat) + (↑i : Int).toNat *
     (9 : Nat) + (1 : Nat) + (1 : Nat) + (1 : Nat)) (FV.b false)).asI], Seg.vals [Value.bool (vs.getD ((0 : Nat) + (↑i : Int).toNat * (9 : Nat) + (1 : Nat) + (1 : Nat) + (1 : Nat) + (1 : Nat)) (FV.b
     false)).asB], Seg.ints IntKind.i64 (1 : Nat) [(vs.getD ((0 : Nat) + (↑i : Int).toNat * (9 : Nat) + (1 : Nat) + (1 : Nat) + (1 : Nat) + (1 : Nat) + (1 : Nat)) (FV.b false)).asI], Seg.vals [Value.bool
     (vs.getD ((0 : Nat) + (↑i : Int).toNat * (9 : Nat) + (1 : Nat) + (1 : Nat) + (1 : Nat) + (1 : Nat) + (1 : Nat) + (1 : Nat)) (FV.b false)).asB], Seg.ints IntKind.i64 (1 : Nat) [(vs.getD ((0 : Nat) +
     (↑i : Int).toNat * (9 : Nat) + (1 : Nat) + (1 : Nat) + (1 : Nat) + (1 : Nat) + (1 : Nat) + (1 : Nat) + (1 : Nat)) (FV.b false)).asI], Seg.vals [Value.bool (vs.getD ((0 : Nat) + (↑i : Int).toNat * (9 :
     Nat) + (1 : Nat) + (1 : Nat) + (1 : Nat) + (1 : Nat) + (1 : Nat) + (1 : Nat) + (1 : Nat) + (1 : Nat)) (FV.b false)).asB]]), some (Blk.mk true (2 : Nat) [Seg.ints IntKind.i64 (1 : Nat) [w], Seg.vals
     [Value.slice (some (Addr.mk (5 : Nat) (0 : Nat) none)) (ts.length + (1 : Nat)) (1 : Nat)]]), some (Blk.mk true (10 : Nat) [Seg.any ((ts.length + (1 : Nat)) * (10 : Nat)) (flat (ts ++ [tM (vs.getD ((0
     : Nat) + (↑i : Int).toNat * (9 : Nat) + (1 : Nat) + (1 : Nat)) (FV.b false)).asI (Ms.mk (vs.getD ((0 : Nat) + (↑i : Int).toNat * (9 : Nat) + (1 : Nat) + (1 : Nat) + (1 : Nat)) (FV.b false)).asI
     (vs.getD ((0 : Nat) + (↑i : Int).toNat * (9 : Nat) + (1 : Nat) + (1 : Nat) + (1 : Nat) + (1 : Nat)) (FV.b false)).asB (vs.getD ((0 : Nat) + (↑i : Int).toNat * (9 : Nat) + (1 : Nat) + (1 : Nat) + (1 :
     Nat) + (1 : Nat) + (1 : Nat)) (FV.b false)).asI (vs.getD ((0 : Nat) + (↑i : Int).toNat * (9 : Nat) + (1 : Nat) + (1 : Nat) + (1 : Nat) + (1 : Nat) + (1 : Nat) + (1 : Nat)) (FV.b false)).asB (vs.getD
     ((0 : Nat) + (↑i : Int).toNat * (9 : Nat) + (1 : Nat) + (1 : Nat) + (1 : Nat) + (1 : Nat) + (1 : Nat) + (1 : Nat) + (1 : Nat)) (FV.b false)).asI (vs.getD ((0 : Nat) + (↑i : Int).toNat * (9 : Nat) + (1
     : Nat) + (1 : Nat) + (1 : Nat) + (1 : Nat) + (1 : Nat) + (1 : Nat) + (1 : Nat) + (1 : Nat)) (FV.b false)).asB)]))])] else none else none else none else none else none else none else none else none
     else none else none else none else none else none else none else none else none else none else none else none else none else none else none else none) (by kernel_rfl) (by simp only [-eq_self, Int.toNat_natCast, Nat.zero_add, swrap w1.1 w1.2]; exact (go_t (dec_t h1) (go_t (and_t (dec_t h2) (dec_t h1)) (go_t (blt_t h3) (go_t h4 (go_t (blt_t h5) (go_t h6 (go_t (blt_t h7) (go_t h8 (go_t (blt_t h9) (go_t h10 (go_t (blt_t h11) (go_t h12 (go_t (blt_t h13) (go_t h14 (go_t (blt_t h15) (go_t h16 (go_t (blt_t h17) (go_t h18 (go_t (blt_t h19) (go_t h20 (go_f h21 (go_f h22 (go_t (chk_t h23) (go_t (chk_t h24) (go_t (chk_t h25) rfl))))))))))))))))))))))))))
--CFEND
--CP p6mXN (w now : Int) (t : Bool) (n i cc : Nat) (xs : List Int) (vs : List FV) (ts ts' : List Th) (on : List Value → Heap → Out) (out : Exit → List Value → Heap → Out) :: roundK Try.prog ((S6m FMsgX (FRMX ts) FWtN (FWan ts')).on [(55, true), (84, false), (102, false), (79, false), (83, false), (132, false)]) noL Try.f6.ntmps 1 (loopOf Try.f6 0) live6 [.bool false, pt 1, pt 3, sl 0 n 2, w63 n, w63 i] [opsB n vs, PBe 2 w now t (.pointer none), eB true xs, DBe 4 w ts.length cc, rowA true ts.length (flat ts)] on out
theorem p6mXN (w now : Int) (t : Bool) (n i cc : Nat) (xs : List Int) (vs : List FV) (ts ts' : List Th) (on : List Value → Heap → Out) (out : Exit → List Value → Heap → Out)
    (w1 : -9223372036854775808 ≤ (↑i : Int) + (1 : Int) ∧ (↑i : Int) + (1 : Int) ≤ 9223372036854775807 := by omega)
    (h1 : (↑i : Int) < (↑n : Int) := by first | omega | assumption | rfl)
    (h2 : (0 : Int) ≤ (↑i : Int) := by first | omega | assumption | rfl)
    (h3 : i * (9 : Nat) < n * (9 : Nat) := by first | omega | assumption | rfl)
    (h4 : (vs.getD (i * (9 : Nat)) (FV.b false)).isB = true := by first | omega | assumption | rfl)
    (h5 : i * (9 : Nat) + (1 : Nat) < n * (9 : Nat) := by first | omega | assumption | rfl)
    (h6 : (vs.getD (i * (9 : Nat) + (1 : Nat)) (FV.b false)).isB = true := by first | omega | assumption | rfl)
    (h7 : i * (9 : Nat) + (2 : Nat) < n * (9 : Nat) := by first | omega | assumption | rfl)
    (h8 : FV.isI IntKind.i64 (vs.getD (i * (9 : Nat) + (2 : Nat)) (FV.b false)) = true := by first | omega | assumption | rfl)
    (h9 : i * (9 : Nat) + (3 : Nat) < n * (9 : Nat) := by first | omega | assumption | rfl)
    (h10 : FV.isI IntKind.u8 (vs.getD (i * (9 : Nat) + (3 : Nat)) (FV.b false)) = true := by first | omega | assumption | rfl)
    (h11 : i * (9 : Nat) + (4 : Nat) < n * (9 : Nat) := by first | omega | assumption | rfl)
    (h12 : (vs.getD (i * (9 : Nat) + (4 : Nat)) (FV.b false)).isB = true := by first | omega | assumption | rfl)
    (h13 : i * (9 : Nat) + (5 : Nat) < n * (9 : Nat) := by first | omega | assumption | rfl)
    (h14 : FV.isI IntKind.i64 (vs.getD (i * (9 : Nat) + (5 : Nat)) (FV.b false)) = true := by first | omega | assumption | rfl)
    (h15 : i * (9 : Nat) + (6 : Nat) < n * (9 : Nat) := by first | omega | assumption | rfl)
    (h16 : (vs.getD (i * (9 : Nat) + (6 : Nat)) (FV.b false)).isB = true := by first | omega | assumption | rfl)
    (h17 : i * (9 : Nat) + (7 : Nat) < n * (9 : Nat) := by first | omega | assumption | rfl)
    (h18 : FV.isI IntKind.i64 (vs.getD (i * (9 : Nat) + (7 : Nat)) (FV.b false)) = true := by first | omega | assumption | rfl)
    (h19 : i * (9 : Nat) + (8 : Nat) < n * (9 : Nat) := by first | omega | assumption | rfl)
    (h20 : (vs.getD (i * (9 : Nat) + (8 : Nat)) (FV.b false)).isB = true := by first | omega | assumption | rfl)
    (h21 : (vs.getD (i * (9 : Nat) + (1 : Nat)) (FV.b false)).asB = false := by first | omega | assumption | rfl)
    (h22 : (vs.getD (i * (9 : Nat)) (FV.b false)).asB = false := by first | omega | assumption | rfl)
    (h23 : now ≤ (vs.getD (i * (9 : Nat) + (2 : Nat)) (FV.b false)).asI ∧ (vs.getD (i * (9 : Nat) + (8 : Nat)) (FV.b false)).asB = false ∧ (0 : Int) ≤ now ∧ (0 : Int) ≤ w ∧ w ≤ (1000000000 : Int) ∧ (0 : Int) ≤ xs.getD (8 : Nat) (0 : Int) ∧ xs.getD (8 : Nat) (0 : Int) ≤ (1000 : Int) ∧ (xs.getD (8 : Nat) (0 : Int) = (0 : Int) ∨ (0 : Int) ≤ lastR xs ∧ lastR xs ≤ (vs.getD (i * (9 : Nat) + (2 : Nat)) (FV.b false)).asI) ∧ (xs.getD (8 : Nat) (0 : Int) = (0 : Int) ∨ t = true ∨ w < (vs.getD (i * (9 : Nat) + (2 : Nat)) (FV.b false)).asI - lastR xs ∨ cnt (allX xs) ((vs.getD (i * (9 : Nat) + (2 : Nat)) (FV.b false)).asI - w) (vs.getD (i * (9 : Nat) + (2 : Nat)) (FV.b false)).asI ≠ (1 : Nat)) := by first | omega | assumption | rfl | ((repeat' with_reducible apply And.intro) <;> first | rfl | assumption | omega))
    (h24 : ts.length = ts.length ∧ ts.length * (10 : Nat) = ts.length * (10 : Nat) ∧ flat ts = flat ts ∧ ts.length ≤ (60 : Nat) ∧ mayP ts (vs.getD (i * (9 : Nat) + (2 : Nat)) (FV.b false)).asI ∧ RiseT ts ∧ (0 : Int) ≤ w ∧ w ≤ (1000000000 : Int) ∧ ((vs.getD (i * (9 : Nat) + (8 : Nat)) (FV.b false)).asB = true ∨ noP ts w (vs.getD (i * (9 : Nat) + (2 : Nat)) (FV.b false)).asI) := by first | omega | assumption | rfl | ((repeat' with_reducible apply And.intro) <;> first | rfl | assumption | omega))
    (h25 : ts.length + (1 : Nat) = ts'.length ∧ (ts.length + (1 : Nat)) * (10 : Nat) = ts'.length * (10 : Nat) ∧ flat (ts ++ [tM (vs.getD (i * (9 : Nat) + (2 : Nat)) (FV.b false)).asI (Ms.mk (vs.getD (i * (9 : Nat) + (3 : Nat)) (FV.b false)).asI (vs.getD (i * (9 : Nat) + (4 : Nat)) (FV.b false)).asB (vs.getD (i * (9 : Nat) + (5 : Nat)) (FV.b false)).asI (vs.getD (i * (9 : Nat) + (6 : Nat)) (FV.b false)).asB (vs.getD (i * (9 : Nat) + (7 : Nat)) (FV.b false)).asI (vs.getD (i * (9 : Nat) + (8 : Nat)) (FV.b false)).asB)]) = flat ts' ∧ ts.length + (1 : Nat) ≤ (60 : Nat) ∧ waitI ts' = (-1 : Int) := by first | omega | assumption | rfl | ((repeat' with_reducible apply And.intro) <;> first | rfl | assumption | omega)) : roundK Try.prog ((S6m FMsgX (FRMX ts) FWtN (FWan ts')).on [(55, true), (84, false), (102, false), (79, false), (83, false), (132, false)]) noL Try.f6.ntmps 1 (loopOf Try.f6 0) live6 [.bool false, pt 1, pt 3, sl 0 n 2, w63 n, w63 i] [opsB n vs, PBe 2 w now t (.pointer none), eB true xs, DBe 4 w ts.length cc, rowA true ts.length (flat ts)] on out =
     (on [Value.bool false, Value.pointer (some (Addr.mk (1 : Nat) (0 : Nat) none)), Value.pointer (some (Addr.mk (3 : Nat) (0 : Nat) none)), Value.slice (some (Addr.mk (0 : Nat) (0 : Nat) none)) n (2 :
     Nat), Value.int IntKind.i64 (↑n : Int), Value.int IntKind.i64 ((↑i : Int) + (1 : Int))] [some (Blk.mk false (9 : Nat) [Seg.any (n * (9 : Nat)) vs]), some (Blk.mk true (5 : Nat) [Seg.vals
     [Value.pointer (some (Addr.mk (2 : Nat) (0 : Nat) none))], Seg.ints IntKind.i64 (2 : Nat) [w, (vs.getD (i * (9 : Nat) + (2 : Nat)) (FV.b false)).asI], Seg.vals [Value.bool t, Value.pointer none]]),
     some (Blk.mk true (9 : Nat) [Seg.ints IntKind.i64 (9 : Nat) xs]), some (Blk.mk true (2 : Nat) [Seg.ints IntKind.i64 (1 : Nat) [w], Seg.vals [Value.slice (some (Addr.mk (4 : Nat) (0 : Nat) none))
     (ts.length + (1 : Nat)) (1 : Nat)]]), some (Blk.mk true (10 : Nat) [Seg.any ((ts.length + (1 : Nat)) * (10 : Nat)) (flat (ts ++ [tM (vs.getD (i * (9 : Nat) + (2 : Nat)) (FV.b false)).asI (Ms.mk
     (vs.getD (i * (9 : Nat) + (3 : Nat)) (FV.b false)).asI (vs.getD (i * (9 : Nat) + (4 : Nat)) (FV.b false)).asB (vs.getD (i * (9 : Nat) + (5 : Nat)) (FV.b false)).asI (vs.getD (i * (9 : Nat) + (6 :
     Nat)) (FV.b false)).asB (vs.getD (i * (9 : Nat) + (7 : Nat)) (FV.b false)).asI (vs.getD (i * (9 : Nat) + (8 : Nat)) (FV.b false)).asB)]))])]) :=
  Eq.trans (b :=
     bif decide ((↑i : Int) < (↑n : Int)) then bif decide ((0 : Int) ≤ (↑i : Int)) && decide ((↑i : Int) < (↑n : Int)) then bif ((0 : Nat) + (↑i : Int).toNat * (9 : Nat)).blt (n * (9 : Nat)) then bif
     (vs.getD ((0 : Nat) + (↑i : Int).toNat * (9 : Nat)) (FV.b false)).isB then bif ((0 : Nat) + (↑i : Int).toNat * (9 : Nat) + (1 : Nat)).blt (n * (9 : Nat)) then bif (vs.getD ((0 : Nat) + (↑i :
     Int).toNat * (9 : Nat) + (1 : Nat)) (FV.b false)).isB then bif ((0 : Nat) + (↑i : Int).toNat * (9 : Nat) + (1 : Nat) + (1 : Nat)).blt (n * (9 : Nat)) then bif FV.isI IntKind.i64 (vs.getD ((0 : Nat) +
     (↑i : Int).toNat * (9 : Nat) + (1 : Nat) + (1 : Nat)) (FV.b false)) then bif ((0 : Nat) + (↑i : Int).toNat * (9 : Nat) + (1 : Nat) + (1 : Nat) + (1 : Nat)).blt (n * (9 : Nat)) then bif FV.isI
     IntKind.u8 (vs.getD ((0 : Nat) + (↑i : Int).toNat * (9 : Nat) + (1 : Nat) + (1 : Nat) + (1 : Nat)) (FV.b false)) then bif ((0 : Nat) + (↑i : Int).toNat * (9 : Nat) + (1 : Nat) + (1 : Nat) + (1 : Nat)
     + (1 : Nat)).blt (n * (9 : Nat)) then bif (vs.getD ((0 : Nat) + (↑i : Int).toNat * (9 : Nat) + (1 : Nat) + (1 : Nat) + (1 : Nat) + (1 : Nat)) (FV.b false)).isB then bif ((0 : Nat) + (↑i : Int).toNat *
     (9 : Nat) + (1 : Nat) + (1 : Nat) + (1 : Nat) + (1 : Nat) + (1 : Nat)).blt (n * (9 : Nat)) then bif FV.isI IntKind.i64 (vs.getD ((0 : Nat) + (↑i : Int).toNat * (9 : Nat) + (1 : Nat) + (1 : Nat) + (1 :
     Nat) + (1 : Nat) + (1 : Nat)) (FV.b false)) then bif ((0 : Nat) + (↑i : Int).toNat * (9 : Nat) + (1 : Nat) + (1 : Nat) + (1 : Nat) + (1 : Nat) + (1 : Nat) + (1 : Nat)).blt (n * (9 : Nat)) then bif
     (vs.getD ((0 : Nat) + (↑i : Int).toNat * (9 : Nat) + (1 : Nat) + (1 : Nat) + (1 : Nat) + (1 : Nat) + (1 : Nat) + (1 : Nat)) (FV.b false)).isB then bif ((0 : Nat) + (↑i : Int).toNat * (9 : Nat) + (1 :
     Nat) + (1 : Nat) + (1 : Nat) + (1 : Nat) + (1 : Nat) + (1 : Nat) + (1 : Nat)).blt (n * (9 : Nat)) then bif FV.isI IntKind.i64 (vs.getD ((0 : Nat) + (↑i : Int).toNat * (9 : Nat) + (1 : Nat) + (1 : Nat)
     + (1 : Nat) + (1 : Nat) + (1 : Nat) + (1 : Nat) + (1 : Nat)) (FV.b false)) then bif ((0 : Nat) + (↑i : Int).toNat * (9 : Nat) + (1 : Nat) + (1 : Nat) + (1 : Nat) + (1 : Nat) + (1 : Nat) + (1 : Nat) +
     (1 : Nat) + (1 : Nat)).blt (n * (9 : Nat)) then bif (vs.getD ((0 : Nat) + (↑i : Int).toNat * (9 : Nat) + (1 : Nat) + (1 : Nat) + (1 : Nat) + (1 : Nat) + (1 : Nat) + (1 : Nat) + (1 : Nat) + (1 : Nat))
     (FV.b false)).isB then bif (vs.getD ((0 : Nat) + (↑i : Int).toNat * (9 : Nat) + (1 : Nat)) (FV.b false)).asB then none else bif (vs.getD ((0 : Nat) + (↑i : Int).toNat * (9 : Nat)) (FV.b false)).asB
     then none else bif chk (now ≤ (vs.getD ((0 : Nat) + (↑i : Int).toNat * (9 : Nat) + (1 : Nat) + (1 : Nat)) (FV.b false)).asI ∧ (vs.getD ((0 : Nat) + (↑i : Int).toNat * (9 : Nat) + (1 : Nat) + (1 : Nat)
     + (1 : Nat) + (1 : Nat) + (1 : Nat) + (1 : Nat) + (1 : Nat) + (1 : Nat)) (FV.b false)).asB = false ∧ (0 : Int) ≤ now ∧ (0 : Int) ≤ w ∧ w ≤ (1000000000 : Int) ∧ (0 : Int) ≤ xs.getD (8 : Nat) (0 : Int)
     ∧ xs.getD (8 : Nat) (0 : Int) ≤ (1000 : Int) ∧ (xs.getD (8 : Nat) (0 : Int) = (0 : Int) ∨ (0 : Int) ≤ lastR xs ∧ lastR xs ≤ (vs.getD ((0 : Nat) + (↑i : Int).toNat * (9 : Nat) + (1 : Nat) + (1 : Nat))
     (FV.b false)).asI) ∧ (xs.getD (8 : Nat) (0 : Int) = (0 : Int) ∨ t = true ∨ w < (vs.getD ((0 : Nat) + (↑i : Int).toNat * (9 : Nat) + (1 : Nat) + (1 : Nat)) (FV.b false)).asI - lastR xs ∨ cnt (allX xs)
     ((vs.getD ((0 : Nat) + (↑i : Int).toNat * (9 : Nat) + (1 : Nat) + (1 : Nat)) (FV.b false)).asI - w) (vs.getD ((0 : Nat) + (↑i : Int).toNat * (9 : Nat) + (1 : Nat) + (1 : Nat)) (FV.b false)).asI ≠ (1 :
     Nat))) then bif chk (ts.length = ts.length ∧ ts.length * (10 : Nat) = ts.length * (10 : Nat) ∧ flat ts = flat ts ∧ ts.length ≤ (60 : Nat) ∧ mayP ts (vs.getD ((0 : Nat) + (↑i : Int).toNat * (9 : Nat) +
     (1 : Nat) + (1 : Nat)) (FV.b false)).asI ∧ RiseT ts ∧ (0 : Int) ≤ w ∧ w ≤ (1000000000 : Int) ∧ ((vs.getD ((0 : Nat) + (↑i : Int).toNat * (9 : Nat) + (1 : Nat) + (1 : Nat) + (1 : Nat) + (1 : Nat) + (1
     : Nat) + (1 : Nat) + (1 : Nat) + (1 : Nat)) (FV.b false)).asB = true ∨ noP ts w (vs.getD ((0 : Nat) + (↑i : Int).toNat * (9 : Nat) + (1 : Nat) + (1 : Nat)) (FV.b false)).asI)) then bif chk (ts.length
     + (1 : Nat) = ts'.length ∧ (ts.length + (1 : Nat)) * (10 : Nat) = ts'.length * (10 : Nat) ∧ flat (ts ++ [tM (vs.getD ((0 : Nat) + (↑i : Int).toNat * (9 : Nat) + (1 : Nat) + (1 : Nat)) (FV.b
     false)).asI (Ms.mk (vs.getD ((0 : Nat) + (↑i : Int).toNat * (9 : Nat) + (1 : Nat) + (1 : Nat) + (1 : Nat)) (FV.b false)).asI (vs.getD ((0 : Nat) + (↑i : Int).toNat * (9 : Nat) + (1 : Nat) + (1 : Nat)
     + (1 : Nat) + (1 : Nat)) (FV.b false)).asB (vs.getD ((0 : Nat) + (↑i : Int).toNat * (9 : Nat) + (1 : Nat) + (1 : Nat) + (1 : Nat) + (1 : Nat) + (1 : Nat)) (FV.b false)).asI (vs.getD ((0 : Nat) + (↑i :
     Int).toNat * (9 : Nat) + (1 : Nat) + (1 : Nat) + (1 : Nat) + (1 : Nat) + (1 : Nat) + (1 : Nat)) (FV.b false)).asB (vs.getD ((0 : Nat) + (↑i : Int).toNat * (9 : Nat) + (1 : Nat) + (1 : Nat) + (1 : Nat)
     + (1 : Nat) + (1 : Nat) + (1 : Nat) + (1 : Nat)) (FV.b false)).asI (vs.getD ((0 : Nat) + (↑i : Int).toNat * (9 : Nat) + (1 : Nat) + (1 : Nat) + (1 : Nat) + (1 : Nat) + (1 : Nat) + (1 : Nat) + (1 :
     Nat) + (1 : Nat)) (FV.b false)).asB)]) = flat ts' ∧ ts.length + (1 : Nat) ≤ (60 : Nat) ∧ waitI ts' = (-1 : Int)) then on [Value.bool false, Value.pointer (some (Addr.mk (1 : Nat) (0 : Nat) none)),
     Value.pointer (some (Addr.mk (3 : Nat) (0 : Nat) none)), Value.slice (some (Addr.mk (0 : Nat) (0 : Nat) none)) n (2 : Nat), Value.int IntKind.i64 (↑n : Int), Value.int IntKind.i64 (IntKind.i64.wrap
     ((↑i : Int) + (1 : Int)))] [some (Blk.mk false (9 : Nat) [Seg.any (n * (9 : Nat)) vs]), some (Blk.mk true (5 : Nat) [Seg.vals [Value.pointer (some (Addr.mk (2 : Nat) (0 : Nat) none))], Seg.ints
     IntKind.i64 (2 : Nat) [w, (vs.getD ((0 : Nat) + (↑i : Int).toNat * (9 : Nat) + (1 : Nat) + (1 : Nat)) (FV.b false)).asI], Seg.vals [Value.bool t, Value.pointer none]]), some (Blk.mk true (9 : Nat)
     [Seg.ints IntKind.i64 (9 : Nat) xs]), some (Blk.mk true (2 : Nat) [Seg.ints IntKind.i64 (1 : Nat) [w], Seg.vals [Value.slice (some (Addr.mk (4 : Nat) (0 : Nat) none)) (ts.length + (1 : Nat)) (1 :
     Nat)]]), some (Blk.mk true (10 : Nat) [Seg.any ((ts.length + (1 : Nat)) * (10 : Nat)) (flat (ts ++ [tM (vs.getD ((0 : Nat) + (↑i : Int).toNat * (9 : Nat) + (1 : Nat) + (1 : Nat)) (FV.b false)).asI
     (Ms.mk (vs.getD ((0 : Nat) + (↑i : Int).toNat * (9 : Nat) + (1 : Nat) + (1 : Nat) + (1 : Nat)) (FV.b false)).asI (vs.getD ((0 : Nat) + (↑i : Int).toNat * (9 : Nat) + (1 : Nat) + (1 : Nat) + (1 : Nat)
     + (1 : Nat)) (FV.b false)).asB (vs.getD ((0 : Nat) + (↑i : Int).toNat * (9 : Nat) + (1 : Nat) + (1 : Nat) + (1 : Nat) + (1 : Nat) + (1 : Nat)) (FV.b false)).asI (vs.getD ((0 : Nat) + (↑i : Int).toNat
     * (9 : Nat) + (1 : Nat) + (1 : Nat) + (1 : Nat) + (1 : Nat) + (1 : Nat) + (1 : Nat)) (FV.b false)).asB (vs.getD ((0 : Nat) + (↑i : Int).toNat * (9 : Nat) + (1 : Nat) + (1 : Nat) + (1 : Nat) + (1 :
     Nat) + (1 : Nat) + (1 : Nat) + (1 : Nat)) (FV.b false)).asI (vs.getD ((0 : Nat) + (↑i : Int).toNat * (9 : Nat) + (1 : Nat) + (1 : Nat) + (1 : Nat) + (1 : Nat) + (1 : Nat) + (1 : Nat) + (1 : Nat) + (1
     : Nat)) (FV.b false)).asB)]))])] else none else none else none else none else none else none else none else none else none else none else none else none else none else none else none else none else
     none else none else none else none else none else none else none) (by kernel_rfl) (by simp only [-eq_self, Int.toNat_natCast, Nat.zero_add, swrap w1.1 w1.2]; exact (go_t (dec_t h1) (go_t (and_t (dec_t h2) (dec_t h1)) (go_t (blt_t h3) (go_t h4 (go_t (blt_t h5) (go_t h6 (go_t (blt_t h7) (go_t h8 (go_t (blt_t h9) (go_t h10 (go_t (blt_t h11) (go_t h12 (go_t (blt_t h13) (go_t h14 (go_t (blt_t h15) (go_t h16 (go_t (blt_t h17) (go_t h18 (go_t (blt_t h19) (go_t h20 (go_f h21 (go_f h22 (go_t (chk_t h23) (go_t (chk_t h24) (go_t (chk_t h25) rfl))))))))))))))))))))))))))
--CFEND
--CP p6mPN (w now : Int) (t : Bool) (n i cc j' : Nat) (xs : List Int) (vs : List FV) (ts ts' : List Th) (on : List Value → Heap → Out) (out : Exit → List Value → Heap → Out) :: roundK Try.prog ((S6m FMsgP (FRMP ts j') FWtN (FWan ts')).on [(55, true), (84, false), (102, false), (79, false), (83, false), (132, false)]) noL Try.f6.ntmps 1 (loopOf Try.f6 0) live6 [.bool false, pt 1, pt 3, sl 0 n 2, w63 n, w63 i] [opsB n vs, PBe 2 w now t (.pointer none), eB true xs, DBe 4 w ts.length cc, rowA true ts.length (flat ts)] on out
theorem p6mPN (w now : Int) (t : Bool) (n i cc j' : Nat) (xs : List Int) (vs : List FV) (ts ts' : List Th) (on : List Value → Heap → Out) (out : Exit → List Value → Heap → Out)
    (w1 : -9223372036854775808 ≤ (↑i : Int) + (1 : Int) ∧ (↑i : Int) + (1 : Int) ≤ 9223372036854775807 := by omega)
    (h1 : (↑i : Int) < (↑n : Int) := by first | omega | assumption | rfl)
    (h2 : (0 : Int) ≤ (↑i : Int) := by first | omega | assumption | rfl)
    (h3 : i * (9 : Nat) < n * (9 : Nat) := by first | omega | assumption | rfl)
    (h4 : (vs.getD (i * (9 : Nat)) (FV.b false)).isB = true := by first | omega | assumption | rfl)
    (h5 : i * (9 : Nat) + (1 : Nat) < n * (9 : Nat) := by first | omega | assumption | rfl)
    (h6 : (vs.getD (i * (9 : Nat) + (1 : Nat)) (FV.b false)).isB = true := by first | omega | assumption | rfl)
    (h7 : i * (9 : Nat) + (2 : Nat) < n * (9 : Nat) := by first | omega | assumption | rfl)
    (h8 : FV.isI IntKind.i64 (vs.getD (i * (9 : Nat) + (2 : Nat)) (FV.b false)) = true := by first | omega | assumption | rfl)
    (h9 : i * (9 : Nat) + (3 : Nat) < n * (9 : Nat) := by first | omega | assumption | rfl)
    (h10 : FV.isI IntKind.u8 (vs.getD (i * (9 : Nat) + (3 : Nat)) (FV.b false)) = true := by first | omega | assumption | rfl)
    (h11 : i * (9 : Nat) + (4 : Nat) < n * (9 : Nat) := by first | omega | assumption | rfl)
    (h12 : (vs.getD (i * (9 : Nat) + (4 : Nat)) (FV.b false)).isB = true := by first | omega | assumption | rfl)
    (h13 : i * (9 : Nat) + (5 : Nat) < n * (9 : Nat) := by first | omega | assumption | rfl)
    (h14 : FV.isI IntKind.i64 (vs.getD (i * (9 : Nat) + (5 : Nat)) (FV.b false)) = true := by first | omega | assumption | rfl)
    (h15 : i * (9 : Nat) + (6 : Nat) < n * (9 : Nat) := by first | omega | assumption | rfl)
    (h16 : (vs.getD (i * (9 : Nat) + (6 : Nat)) (FV.b false)).isB = true := by first | omega | assumption | rfl)
    (h17 : i * (9 : Nat) + (7 : Nat) < n * (9 : Nat) := by first | omega | assumption | rfl)
    (h18 : FV.isI IntKind.i64 (vs.getD (i * (9 : Nat) + (7 : Nat)) (FV.b false)) = true := by first | omega | assumption | rfl)
    (h19 : i * (9 : Nat) + (8 : Nat) < n * (9 : Nat) := by first | omega | assumption | rfl)
    (h20 : (vs.getD (i * (9 : Nat) + (8 : Nat)) (FV.b false)).isB = true := by first | omega | assumption | rfl)
    (h21 : (vs.getD (i * (9 : Nat) + (1 : Nat)) (FV.b false)).asB = false := by first | omega | assumption | rfl)
    (h22 : (vs.getD (i * (9 : Nat)) (FV.b false)).asB = false := by first | omega | assumption | rfl)
    (h23 : now ≤ (vs.getD (i * (9 : Nat) + (2 : Nat)) (FV.b false)).asI ∧ (vs.getD (i * (9 : Nat) + (8 : Nat)) (FV.b false)).asB = false ∧ (0 : Int) ≤ now ∧ (0 : Int) ≤ w ∧ w ≤ (1000000000 : Int) ∧ (0 : Int) ≤ xs.getD (8 : Nat) (0 : Int) ∧ xs.getD (8 : Nat) (0 : Int) ≤ (1000 : Int) ∧ (xs.getD (8 : Nat) (0 : Int) = (0 : Int) ∨ (0 : Int) ≤ lastR xs ∧ lastR xs ≤ (vs.getD (i * (9 : Nat) + (2 : Nat)) (FV.b false)).asI) ∧ xs.getD (8 : Nat) (0 : Int) ≠ (0 : Int) ∧ t = false ∧ (vs.getD (i * (9 : Nat) + (2 : Nat)) (FV.b false)).asI - lastR xs ≤ w ∧ cnt (allX xs) ((vs.getD (i * (9 : Nat) + (2 : Nat)) (FV.b false)).asI - w) (vs.getD (i * (9 : Nat) + (2 : Nat)) (FV.b false)).asI = (1 : Nat) := by first | omega | assumption | rfl | ((repeat' with_reducible apply And.intro) <;> first | rfl | assumption | omega))
    (h24 : ts.length = ts.length ∧ ts.length * (10 : Nat) = ts.length * (10 : Nat) ∧ flat ts = flat ts ∧ ts.length ≤ (60 : Nat) ∧ mayP ts (vs.getD (i * (9 : Nat) + (2 : Nat)) (FV.b false)).asI ∧ RiseT ts ∧ (0 : Int) ≤ w ∧ w ≤ (1000000000 : Int) ∧ (vs.getD (i * (9 : Nat) + (8 : Nat)) (FV.b false)).asB = false ∧ j' < ts.length ∧ okP ts w (vs.getD (i * (9 : Nat) + (2 : Nat)) (FV.b false)).asI j' := by first | omega | assumption | rfl | ((repeat' with_reducible apply And.intro) <;> first | rfl | assumption | omega))
    (h25 : lastR xs = (ts.getD j' th0).a := by first | omega | assumption | rfl)
    (h26 : (vs.getD (i * (9 : Nat) + (3 : Nat)) (FV.b false)).asI = (vs.getD (i * (9 : Nat) + (3 : Nat)) (FV.b false)).asI := by first | omega | assumption | rfl)
    (h27 : (vs.getD (i * (9 : Nat) + (4 : Nat)) (FV.b false)).asB = (vs.getD (i * (9 : Nat) + (4 : Nat)) (FV.b false)).asB := by first | omega | assumption | rfl)
    (h28 : (vs.getD (i * (9 : Nat) + (5 : Nat)) (FV.b false)).asI = (vs.getD (i * (9 : Nat) + (5 : Nat)) (FV.b false)).asI := by first | omega | assumption | rfl)
    (h29 : (vs.getD (i * (9 : Nat) + (6 : Nat)) (FV.b false)).asB = (vs.getD (i * (9 : Nat) + (6 : Nat)) (FV.b false)).asB := by first | omega | assumption | rfl)
    (h30 : (vs.getD (i * (9 : Nat) + (7 : Nat)) (FV.b false)).asI = (vs.getD (i * (9 : Nat) + (7 : Nat)) (FV.b false)).asI := by first | omega | assumption | rfl)
    (h31 : (vs.getD (i * (9 : Nat) + (8 : Nat)) (FV.b false)).asB = (vs.getD (i * (9 : Nat) + (8 : Nat)) (FV.b false)).asB := by first | omega | assumption | rfl)
    (h32 : ts.length + (1 : Nat) = ts'.length ∧ (ts.length + (1 : Nat)) * (10 : Nat) = ts'.length * (10 : Nat) ∧ flat ((ts ++ [tM (vs.getD (i * (9 : Nat) + (2 : Nat)) (FV.b false)).asI (Ms.mk (vs.getD (i * (9 : Nat) + (3 : Nat)) (FV.b false)).asI (vs.getD (i * (9 : Nat) + (4 : Nat)) (FV.b false)).asB (vs.getD (i * (9 : Nat) + (5 : Nat)) (FV.b false)).asI (vs.getD (i * (9 : Nat) + (6 : Nat)) (FV.b false)).asB (vs.getD (i * (9 : Nat) + (7 : Nat)) (FV.b false)).asI (vs.getD (i * (9 : Nat) + (8 : Nat)) (FV.b false)).asB)]).set j' (setI (ts.getD j' th0))) = flat ts' ∧ ts.length + (1 : Nat) ≤ (60 : Nat) ∧ waitI ts' = (-1 : Int) := by first | omega | assumption | rfl | ((repeat' with_reducible apply And.intro) <;> first | rfl | assumption | omega)) : roundK Try.prog ((S6m FMsgP (FRMP ts j') FWtN (FWan ts')).on [(55, true), (84, false), (102, false), (79, false), (83, false), (132, false)]) noL Try.f6.ntmps 1 (loopOf Try.f6 0) live6 [.bool false, pt 1, pt 3, sl 0 n 2, w63 n, w63 i] [opsB n vs, PBe 2 w now t (.pointer none), eB true xs, DBe 4 w ts.length cc, rowA true ts.length (flat ts)] on out =
     (on [Value.bool false, Value.pointer (some (Addr.mk (1 : Nat) (0 : Nat) none)), Value.pointer (some (Addr.mk (3 : Nat) (0 : Nat) none)), Value.slice (some (Addr.mk (0 : Nat) (0 : Nat) none)) n (2 :
     Nat), Value.int IntKind.i64 (↑n : Int), Value.int IntKind.i64 ((↑i : Int) + (1 : Int))] [some (Blk.mk false (9 : Nat) [Seg.any (n * (9 : Nat)) vs]), some (Blk.mk true (5 : Nat) [Seg.vals
     [Value.pointer (some (Addr.mk (2 : Nat) (0 : Nat) none))], Seg.ints IntKind.i64 (2 : Nat) [w, (vs.getD (i * (9 : Nat) + (2 : Nat)) (FV.b false)).asI], Seg.vals [Value.bool true, Value.pointer none]]),
     some (Blk.mk true (9 : Nat) [Seg.ints IntKind.i64 (9 : Nat) xs]), some (Blk.mk true (2 : Nat) [Seg.ints IntKind.i64 (1 : Nat) [w], Seg.vals [Value.slice (some (Addr.mk (4 : Nat) (0 : Nat) none))
     (ts.length + (1 : Nat)) (1 : Nat)]]), some (Blk.mk true (10 : Nat) [Seg.any ((ts.length + (1 : Nat)) * (10 : Nat)) (flat ((ts ++ [tM (vs.getD (i * (9 : Nat) + (2 : Nat)) (FV.b false)).asI (Ms.mk
     (vs.getD (i * (9 : Nat) + (3 : Nat)) (FV.b false)).asI (vs.getD (i * (9 : Nat) + (4 : Nat)) (FV.b false)).asB (vs.getD (i * (9 : Nat) + (5 : Nat)) (FV.b false)).asI (vs.getD (i * (9 : Nat) + (6 :
     Nat)) (FV.b false)).asB (vs.getD (i * (9 : Nat) + (7 : Nat)) (FV.b false)).asI (vs.getD (i * (9 : Nat) + (8 : Nat)) (FV.b false)).asB)]).set j' (setI (ts.getD j' th0))))])]) :=
  Eq.trans (b :=
     bif decide ((↑i : Int) < (↑n : Int)) then bif decide ((0 : Int) ≤ (↑i : Int)) && decide ((↑i : Int) < (↑n : Int)) then bif ((0 : Nat) + (↑i : Int).toNat * (9 : Nat)).blt (n * (9 : Nat)) then bif
     (vs.getD ((0 : Nat) + (↑i : Int).toNat * (9 : Nat)) (FV.b false)).isB then bif ((0 : Nat) + (↑i : Int).toNat * (9 : Nat) + (1 : Nat)).blt (n * (9 : Nat)) then bif (vs.getD ((0 : Nat) + (↑i :
     Int).toNat * (9 : Nat) + (1 : Nat)) (FV.b false)).isB then bif ((0 : Nat) + (↑i : Int).toNat * (9 : Nat) + (1 : Nat) + (1 : Nat)).blt (n * (9 : Nat)) then bif FV.isI IntKind.i64 (vs.getD ((0 : Nat) +
     (↑i : Int).toNat * (9 : Nat) + (1 : Nat) + (1 : Nat)) (FV.b false)) then bif ((0 : Nat) + (↑i : Int).toNat * (9 : Nat) + (1 : Nat) + (1 : Nat) + (1 : Nat)).blt (n * (9 : Nat)) then bif FV.isI
     IntKind.u8 (vs.getD ((0 : Nat) + (↑i : Int).toNat * (9 : Nat) + (1 : Nat) + (1 : Nat) + (1 : Nat)) (FV.b false)) then bif ((0 : Nat) + (↑i : Int).toNat * (9 : Nat) + (1 : Nat) + (1 : Nat) + (1 : Nat)
     + (1 : Nat)).blt (n * (9 : Nat)) then bif (vs.getD ((0 : Nat) + (↑i : Int).toNat * (9 : Nat) + (1 : Nat) + (1 : Nat) + (1 : Nat) + (1 : Nat)) (FV.b false)).isB then bif ((0 : Nat) + (↑i : Int).toNat *
     (9 : Nat) + (1 : Nat) + (1 : Nat) + (1 : Nat) + (1 : Nat) + (1 : Nat)).blt (n * (9 : Nat)) then bif FV.isI IntKind.i64 (vs.getD ((0 : Nat) + (↑i : Int).toNat * (9 : Nat) + (1 : Nat) + (1 : Nat) + (1 :
     Nat) + (1 : Nat) + (1 : Nat)) (FV.b false)) then bif ((0 : Nat) + (↑i : Int).toNat * (9 : Nat) + (1 : Nat) + (1 : Nat) + (1 : Nat) + (1 : Nat) + (1 : Nat) + (1 : Nat)).blt (n * (9 : Nat)) then bif
     (vs.getD ((0 : Nat) + (↑i : Int).toNat * (9 : Nat) + (1 : Nat) + (1 : Nat) + (1 : Nat) + (1 : Nat) + (1 : Nat) + (1 : Nat)) (FV.b false)).isB then bif ((0 : Nat) + (↑i : Int).toNat * (9 : Nat) + (1 :
     Nat) + (1 : Nat) + (1 : Nat) + (1 : Nat) + (1 : Nat) + (1 : Nat) + (1 : Nat)).blt (n * (9 : Nat)) then bif FV.isI IntKind.i64 (vs.getD ((0 : Nat) + (↑i : Int).toNat * (9 : Nat) + (1 : Nat) + (1 : Nat)
     + (1 : Nat) + (1 : Nat) + (1 : Nat) + (1 : Nat) + (1 : Nat)) (FV.b false)) then bif ((0 : Nat) + (↑i : Int).toNat * (9 : Nat) + (1 : Nat) + (1 : Nat) + (1 : Nat) + (1 : Nat) + (1 : Nat) + (1 : Nat) +
     (1 : Nat) + (1 : Nat)).blt (n * (9 : Nat)) then bif (vs.getD ((0 : Nat) + (↑i : Int).toNat * (9 : Nat) + (1 : Nat) + (1 : Nat) + (1 : Nat) + (1 : Nat) + (1 : Nat) + (1 : Nat) + (1 : Nat) + (1 : Nat))
     (FV.b false)).isB then bif (vs.getD ((0 : Nat) + (↑i : Int).toNat * (9 : Nat) + (1 : Nat)) (FV.b false)).asB then none else bif (vs.getD ((0 : Nat) + (↑i : Int).toNat * (9 : Nat)) (FV.b false)).asB
     then none else bif chk (now ≤ (vs.getD ((0 : Nat) + (↑i : Int).toNat * (9 : Nat) + (1 : Nat) + (1 : Nat)) (FV.b false)).asI ∧ (vs.getD ((0 : Nat) + (↑i : Int).toNat * (9 : Nat) + (1 : Nat) + (1 : Nat)
     + (1 : Nat) + (1 : Nat) + (1 : Nat) + (1 : Nat) + (1 : Nat) + (1 : Nat)) (FV.b false)).asB = false ∧ (0 : Int) ≤ now ∧ (0 : Int) ≤ w ∧ w ≤ (1000000000 : Int) ∧ (0 : Int) ≤ xs.getD (8 : Nat) (0 : Int)
     ∧ xs.getD (8 : Nat) (0 : Int) ≤ (1000 : Int) ∧ (xs.getD (8 : Nat) (0 : Int) = (0 : Int) ∨ (0 : Int) ≤ lastR xs ∧ lastR xs ≤ (vs.getD ((0 : Nat) + (↑i : Int).toNat * (9 : Nat) + (1 : Nat) + (1 : Nat))
     (FV.b false)).asI) ∧ xs.getD (8 : Nat) (0 : Int) ≠ (0 : Int) ∧ t = false ∧ (vs.getD ((0 : Nat) + (↑i : Int).toNat * (9 : Nat) + (1 : Nat) + (1 : Nat)) (FV.b false)).asI - lastR xs ≤ w ∧ cnt (allX xs)
     ((vs.getD ((0 : Nat) + (↑i : Int).toNat * (9 : Nat) + (1 : Nat) + (1 : Nat)) (FV.b false)).asI - w) (vs.getD ((0 : Nat) + (↑i : Int).toNat * (9 : Nat) + (1 : Nat) + (1 : Nat)) (FV.b false)).asI = (1 :
     Nat)) then bif chk (ts.length = ts.length ∧ ts.length * (10 : Nat) = ts.length * (10 : Nat) ∧ flat ts = flat ts ∧ ts.length ≤ (60 : Nat) ∧ mayP ts (vs.getD ((0 : Nat) + (↑i : Int).toNat * (9 : Nat) +
     (1 : Nat) + (1 : Nat)) (FV.b false)).asI ∧ RiseT ts ∧ (0 : Int) ≤ w ∧ w ≤ (1000000000 : Int) ∧ (vs.getD ((0 : Nat) + (↑i : Int).toNat * (9 : Nat) + (1 : Nat) + (1 : Nat) + (1 : Nat) + (1 : Nat) + (1 :
     Nat) + (1 : Nat) + (1 : Nat) + (1 : Nat)) (FV.b false)).asB = false ∧ j' < ts.length ∧ okP ts w (vs.getD ((0 : Nat) + (↑i : Int).toNat * (9 : Nat) + (1 : Nat) + (1 : Nat)) (FV.b false)).asI j') then
     bif !(lastR xs == (ts.getD j' th0).a && ((vs.getD ((0 : Nat) + (↑i : Int).toNat * (9 : Nat) + (1 : Nat) + (1 : Nat) + (1 : Nat)) (FV.b false)).asI == (vs.getD ((0 : Nat) + (↑i : Int).toNat * (9 : Nat)
     + (1 : Nat) + (1 : Nat) + (1 : Nat)) (FV.b false)).asI && ((vs.getD ((0 : Nat) + (↑i : Int).toNat * (9 : Nat) + (1 : Nat) + (1 : Nat) + (1 : Nat) + (1 : Nat)) (FV.b false)).asB == (vs.getD ((0 : Nat)
     + (↑i : Int).toNat * (9 : Nat) + (1 : Nat) + (1 : Nat) + (1 : Nat) + (1 : Nat)) (FV.b false)).asB && ((vs.getD ((0 : Nat) + (↑i : Int).toNat * (9 : Nat) + (1 : Nat) + (1 : Nat) + (1 : Nat) + (1 : Nat)
     + (1 : Nat)) (FV.b false)).asI == (vs.getD ((0 : Nat) + (↑i : Int).toNat * (9 : Nat) + (1 : Nat) + (1 : Nat) + (1 : Nat) + (1 : Nat) + (1 : Nat)) (FV.b false)).asI && ((vs.getD ((0 : Nat) + (↑i :
     Int).toNat * (9 : Nat) + (1 : Nat) + (1 : Nat) + (1 : Nat) + (1 : Nat) + (1 : Nat) + (1 : Nat)) (FV.b false)).asB == (vs.getD ((0 : Nat) + (↑i : Int).toNat * (9 : Nat) + (1 : Nat) + (1 : Nat) + (1 :
     Nat) + (1 : Nat) + (1 : Nat) + (1 : Nat)) (FV.b false)).asB && ((vs.getD ((0 : Nat) + (↑i : Int).toNat * (9 : Nat) + (1 : Nat) + (1 : Nat) + (1 : Nat) + (1 : Nat) + (1 : Nat) + (1 : Nat) + (1 : Nat))
     (FV.b false)).asI == (vs.getD ((0 : Nat) + (↑i : Int).toNat * (9 : Nat) + (1 : Nat) + (1 : Nat) + (1 : Nat) + (1 : Nat) + (1 : Nat) + (1 : Nat) + (1 : Nat)) (FV.b false)).asI && ((vs.getD ((0 : Nat) +
     (↑i : Int).toNat * (9 : Nat) + (1 : Nat) + (1 : Nat) + (1 : Nat) + (1 : Nat) + (1 : Nat) + (1 : Nat) + (1 : Nat) + (1 : Nat)) (FV.b false)).asB == (vs.getD ((0 : Nat) + (↑i : Int).toNat * (9 : Nat) +
     (1 : Nat) + (1 : Nat) + (1 : Nat) + (1 : Nat) + (1 : Nat) + (1 : Nat) + (1 : Nat) + (1 : Nat)) (FV.b false)).asB && true))))) && true)) then none else bif chk (ts.length + (1 : Nat) = ts'.length ∧
     (ts.length + (1 : Nat)) * (10 : Nat) = ts'.length * (10 : Nat) ∧ flat ((ts ++ [tM (vs.getD ((0 : Nat) + (↑i : Int).toNat * (9 : Nat) + (1 : Nat) + (1 : Nat)) (FV.b false)).asI (Ms.mk (vs.getD ((0 :
     Nat) + (↑i : Int).toNat * (9 : Nat) + (1 : Nat) + (1 : Nat) + (1 : Nat)) (FV.b false)).asI (vs.getD ((0 : Nat) + (↑i : Int).toNat * (9 : Nat) + (1 : Nat) + (1 : Nat) + (1 : Nat) + (1 : Nat)) (FV.b
     false)).asB (vs.getD ((0 : Nat) + (↑i : Int).toNat * (9 : Nat) + (1 : Nat) + (1 : Nat) + (1 : Nat) + (1 : Nat) + (1 : Nat)) (FV.b false)).asI (vs.getD ((0 : Nat) + (↑i : Int).toNat * (9 : Nat) + (1 :
     Nat) + (1 : Nat) + (1 : Nat) + (1 : Nat) + (1 : Nat) + (1 : Nat)) (FV.b false)).asB (vs.getD ((0 : Nat) + (↑i : Int).toNat * (9 : Nat) + (1 : Nat) + (1 : Nat) + (1 : Nat) + (1 : Nat) + (1 : Nat) + (1
     : Nat) + (1 : Nat)) (FV.b false)).asI (vs.getD ((0 : Nat) + (↑i : Int).toNat * (9 : Nat) + (1 : Nat) + (1 : Nat) + (1 : Nat) + (1 : Nat) + (1 : Nat) + (1 : Nat) + (1 : Nat) + (1 : Nat)) (FV.b
     false)).asB)]).set j' (setI (ts.getD j' th0))) = flat ts' ∧ ts.length + (1 : Nat) ≤ (60 : Nat) ∧ waitI ts' = (-1 : Int)) then on [Value.bool false, Value.pointer (some (Addr.mk (1 : Nat) (0 : Nat)
     none)), Value.pointer (some (Addr.mk (3 : Nat) (0 : Nat) none)), Value.slice (some (Addr.mk (0 : Nat) (0 : Nat) none)) n (2 : Nat), Value.int IntKind.i64 (↑n : Int), Value.int IntKind.i64
     (IntKind.i64.wrap ((↑i : Int) + (1 : Int)))] [some (Blk.mk false (9 : Nat) [Seg.any (n * (9 : Nat)) vs]), some (Blk.mk true (5 : Nat) [Seg.vals [Value.pointer (some (Addr.mk (2 : Nat) (0 : Nat)
     none))], Seg.ints IntKind.i64 (2 : Nat) [w, (vs.getD ((0 : Nat) + (↑i : Int).toNat * (9 : Nat) + (1 : Nat) + (1 : Nat)) (FV.b false)).asI], Seg.vals [Value.bool true, Value.pointer none]]), some
     (Blk.mk true (9 : Nat) [Seg.ints IntKind.i64 (9 : Nat) xs]), some (Blk.mk true (2 : Nat) [Seg.ints IntKind.i64 (1 : Nat) [w], Seg.vals [Value.slice (some (Addr.mk (4 : Nat) (0 : Nat) none)) (ts.length
     + (1 : Nat)) (1 : Nat)]]), some (Blk.mk true (10 : Nat) [Seg.any ((ts.length + (1 : Nat)) * (10 : Nat)) (flat ((ts ++ [tM (vs.getD ((0 : Nat) + (↑i : Int).toNat * (9 : Nat) + (1 : Nat) + (1 : Nat))
     (FV.b false)).asI (Ms.mk (vs.getD ((0 : Nat) + (↑i : Int).toNat * (9 : Nat) + (1 : Nat) + (1 : Nat) + (1 : Nat)) (FV.b false)).asI (vs.getD ((0 : Nat) + (↑i : Int).toNat * (9 : Nat) + (1 : Nat) + (1 :
     Nat) + (1 : Nat) + (1 : Nat)) (FV.b false)).asB (vs.getD ((0 : Nat) + (↑i : Int).toNat * (9 : Nat) + (1 : Nat) + (1 : Nat) + (1 : Nat) + (1 : Nat) + (1 : Nat)) (FV.b false)).asI (vs.getD ((0 : Nat) +
     (↑i : Int).toNat * (9 : Nat) + (1 : Nat) + (1 : Nat) + (1 : Nat) + (1 : Nat) + (1 : Nat) + (1 : Nat)) (FV.b false)).asB (vs.getD ((0 : Nat) + (↑i : Int).toNat * (9 : Nat) + (1 : Nat) + (1 : Nat) + (1
     : Nat) + (1 : Nat) + (1 : Nat) + (1 : Nat) + (1 : Nat)) (FV.b false)).asI (vs.getD ((0 : Nat) + (↑i : Int).toNat * (9 : Nat) + (1 : Nat) + (1 : Nat) + (1 : Nat) + (1 : Nat) + (1 : Nat) + (1 : Nat) +
     (1 : Nat) + (1 : Nat)) (FV.b false)).asB)]).set j' (setI (ts.getD j' th0))))])] else none else none else none else none else none else none else none else none else none else none else none else none
     else none else none else none else none else none else none else none else none else none else none else none) (by kernel_rfl) (by simp only [-eq_self, Int.toNat_natCast, Nat.zero_add, swrap w1.1 w1.2]; exact (go_t (dec_t h1) (go_t (and_t (dec_t h2) (dec_t h1)) (go_t (blt_t h3) (go_t h4 (go_t (blt_t h5) (go_t h6 (go_t (blt_t h7) (go_t h8 (go_t (blt_t h9) (go_t h10 (go_t (blt_t h11) (go_t h12 (go_t (blt_t h13) (go_t h14 (go_t (blt_t h15) (go_t h16 (go_t (blt_t h17) (go_t h18 (go_t (blt_t h19) (go_t h20 (go_f h21 (go_f h22 (go_t (chk_t h23) (go_t (chk_t h24) (go_f (not_f (and_t (eqb_t h25) (and_t (and_t (eqb_t h26) (and_t (eqb_t h27) (and_t (eqb_t h28) (and_t (eqb_t h29) (and_t (eqb_t h30) (and_t (eqb_t h31) rfl)))))) rfl))) (go_t (chk_t h32) rfl)))))))))))))))))))))))))))
--CFEND
--CP p6cRN (w now : Int) (t : Bool) (n i cc : Nat) (xs : List Int) (vs : List FV) (ts : List Th) (on : List Value → Heap → Out) (out : Exit → List Value → Heap → Out) :: roundK Try.prog ((S6c FCpyN (FDCpy ts) FEdgR FMsgR FWtN (FWan ts)).on [(55, true), (84, true), (132, false)]) noL Try.f6.ntmps 1 (loopOf Try.f6 0) live6 [.bool false, pt 1, pt 3, sl 0 n 2, w63 n, w63 i] [opsB n vs, PBe 2 w now t (.pointer none), eB true xs, DBe 4 w ts.length cc, rowA true ts.length (flat ts)] on out
theorem p6cRN (w now : Int) (t : Bool) (n i cc : Nat) (xs : List Int) (vs : List FV) (ts : List Th) (on : List Value → Heap → Out) (out : Exit → List Value → Heap → Out)
    (w1 : -9223372036854775808 ≤ (↑i : Int) + (1 : Int) ∧ (↑i : Int) + (1 : Int) ≤ 9223372036854775807 := by omega)
    (h1 : (↑i : Int) < (↑n : Int) := by first | omega | assumption | rfl)
    (h2 : (0 : Int) ≤ (↑i : Int) := by first | omega | assumption | rfl)
    (h3 : i * (9 : Nat) < n * (9 : Nat) := by first | omega | assumption | rfl)
    (h4 : (vs.getD (i * (9 : Nat)) (FV.b false)).isB = true := by first | omega | assumption | rfl)
    (h5 : i * (9 : Nat) + (1 : Nat) < n * (9 : Nat) := by first | omega | assumption | rfl)
    (h6 : (vs.getD (i * (9 : Nat) + (1 : Nat)) (FV.b false)).isB = true := by first | omega | assumption | rfl)
    (h7 : i * (9 : Nat) + (2 : Nat) < n * (9 : Nat) := by first | omega | assumption | rfl)
    (h8 : FV.isI IntKind.i64 (vs.getD (i * (9 : Nat) + (2 : Nat)) (FV.b false)) = true := by first | omega | assumption | rfl)
    (h9 : i * (9 : Nat) + (3 : Nat) < n * (9 : Nat) := by first | omega | assumption | rfl)
    (h10 : FV.isI IntKind.u8 (vs.getD (i * (9 : Nat) + (3 : Nat)) (FV.b false)) = true := by first | omega | assumption | rfl)
    (h11 : i * (9 : Nat) + (4 : Nat) < n * (9 : Nat) := by first | omega | assumption | rfl)
    (h12 : (vs.getD (i * (9 : Nat) + (4 : Nat)) (FV.b false)).isB = true := by first | omega | assumption | rfl)
    (h13 : i * (9 : Nat) + (5 : Nat) < n * (9 : Nat) := by first | omega | assumption | rfl)
    (h14 : FV.isI IntKind.i64 (vs.getD (i * (9 : Nat) + (5 : Nat)) (FV.b false)) = true := by first | omega | assumption | rfl)
    (h15 : i * (9 : Nat) + (6 : Nat) < n * (9 : Nat) := by first | omega | assumption | rfl)
    (h16 : (vs.getD (i * (9 : Nat) + (6 : Nat)) (FV.b false)).isB = true := by first | omega | assumption | rfl)
    (h17 : i * (9 : Nat) + (7 : Nat) < n * (9 : Nat) := by first | omega | assumption | rfl)
    (h18 : FV.isI IntKind.i64 (vs.getD (i * (9 : Nat) + (7 : Nat)) (FV.b false)) = true := by first | omega | assumption | rfl)
    (h19 : i * (9 : Nat) + (8 : Nat) < n * (9 : Nat) := by first | omega | assumption | rfl)
    (h20 : (vs.getD (i * (9 : Nat) + (8 : Nat)) (FV.b false)).isB = true := by first | omega | assumption | rfl)
    (h21 : (vs.getD (i * (9 : Nat) + (1 : Nat)) (FV.b false)).asB = true := by first | omega | assumption | rfl)
    (h22 : xs.length = (9 : Nat) := by first | omega | assumption | rfl)
    (h23 : (vs.getD (i * (9 : Nat) + (2 : Nat)) (FV.b false)).asI < now := by first | omega | assumption | rfl)
    (h24 : ts.length = ts.length ∧ ts.length * (10 : Nat) = ts.length * (10 : Nat) ∧ flat ts = flat ts ∧ ts.length ≤ (60 : Nat) := by first | omega | assumption | rfl | ((repeat' with_reducible apply And.intro) <;> first | rfl | assumption | omega))
    (h25 : ts.length = ts.length ∧ ts.length * (10 : Nat) = ts.length * (10 : Nat) ∧ flat ts = flat ts ∧ ts.length ≤ (60 : Nat) ∧ waitI ts = (-1 : Int) := by first | omega | assumption | rfl | ((repeat' with_reducible apply And.intro) <;> first | rfl | assumption | omega)) : roundK Try.prog ((S6c FCpyN (FDCpy ts) FEdgR FMsgR FWtN (FWan ts)).on [(55, true), (84, true), (132, false)]) noL Try.f6.ntmps 1 (loopOf Try.f6 0) live6 [.bool false, pt 1, pt 3, sl 0 n 2, w63 n, w63 i] [opsB n vs, PBe 2 w now t (.pointer none), eB true xs, DBe 4 w ts.length cc, rowA true ts.length (flat ts)] on out =
     (on [Value.bool false, Value.pointer (some (Addr.mk (1 : Nat) (0 : Nat) none)), Value.pointer (some (Addr.mk (3 : Nat) (0 : Nat) none)), Value.slice (some (Addr.mk (0 : Nat) (0 : Nat) none)) n (2 :
     Nat), Value.int IntKind.i64 (↑n : Int), Value.int IntKind.i64 ((↑i : Int) + (1 : Int))] [some (Blk.mk false (9 : Nat) [Seg.any (n * (9 : Nat)) vs]), some (Blk.mk true (5 : Nat) [Seg.vals
     [Value.pointer (some (Addr.mk (2 : Nat) (0 : Nat) none))], Seg.ints IntKind.i64 (2 : Nat) [w, now], Seg.vals [Value.bool t, Value.pointer none]]), some (Blk.mk true (9 : Nat) [Seg.ints IntKind.i64 (9
     : Nat) xs]), some (Blk.mk true (2 : Nat) [Seg.ints IntKind.i64 (1 : Nat) [w], Seg.vals [Value.slice (some (Addr.mk (4 : Nat) (0 : Nat) none)) ts.length (1 : Nat)]]), some (Blk.mk true (10 : Nat)
     [Seg.any (ts.length * (10 : Nat)) (flat ts)])]) :=
  Eq.trans (b :=
     bif decide ((↑i : Int) < (↑n : Int)) then bif decide ((0 : Int) ≤ (↑i : Int)) && decide ((↑i : Int) < (↑n : Int)) then bif ((0 : Nat) + (↑i : Int).toNat * (9 : Nat)).blt (n * (9 : Nat)) then bif
     (vs.getD ((0 : Nat) + (↑i : Int).toNat * (9 : Nat)) (FV.b false)).isB then bif ((0 : Nat) + (↑i : Int).toNat * (9 : Nat) + (1 : Nat)).blt (n * (9 : Nat)) then bif (vs.getD ((0 : Nat) + (↑i :
     Int).toNat * (9 : Nat) + (1 : Nat)) (FV.b false)).isB then bif ((0 : Nat) + (↑i : Int).toNat * (9 : Nat) + (1 : Nat) + (1 : Nat)).blt (n * (9 : Nat)) then bif FV.isI IntKind.i64 (vs.getD ((0 : Nat) +
     (↑i : Int).toNat * (9 : Nat) + (1 : Nat) + (1 : Nat)) (FV.b false)) then bif ((0 : Nat) + (↑i : Int).toNat * (9 : Nat) + (1 : Nat) + (1 : Nat) + (1 : Nat)).blt (n * (9 : Nat)) then bif FV.isI
     IntKind.u8 (vs.getD ((0 : Nat) + (↑i : Int).toNat * (9 : Nat) + (1 : Nat) + (1 : Nat) + (1 : Nat)) (FV.b false)) then bif ((0 : Nat) + (↑i : Int).toNat * (9 : Nat) + (1 : Nat) + (1 : Nat) + (1 : Nat)
     + (1 : Nat)).blt (n * (9 : Nat)) then bif (vs.getD ((0 : Nat) + (↑i : Int).toNat * (9 : Nat) + (1 : Nat) + (1 : Nat) + (1 : Nat) + (1 : Nat)) (FV.b false)).isB then bif ((0 : Nat) + (↑i : Int).toNat *
     (9 : Nat) + (1 : Nat) + (1 : Nat) + (1 : Nat) + (1 : Nat) + (1 : Nat)).blt (n * (9 : Nat)) then bif FV.isI IntKind.i64 (vs.getD ((0 : Nat) + (↑i : Int).toNat * (9 : Nat) + (1 : Nat) + (1 : Nat) + (1 :
     Nat) + (1 : Nat) + (1 : Nat)) (FV.b false)) then bif ((0 : Nat) + (↑i : Int).toNat * (9 : Nat) + (1 : Nat) + (1 : Nat) + (1 : Nat) + (1 : Nat) + (1 : Nat) + (1 : Nat)).blt (n * (9 : Nat)) then bif
     (vs.getD ((0 : Nat) + (↑i : Int).toNat * (9 : Nat) + (1 : Nat) + (1 : Nat) + (1 : Nat) + (1 : Nat) + (1 : Nat) + (1 : Nat)) (FV.b false)).isB then bif ((0 : Nat) + (↑i : Int).toNat * (9 : Nat) + (1 :
     Nat) + (1 : Nat) + (1 : Nat) + (1 : Nat) + (1 : Nat) + (1 : Nat) + (1 : Nat)).blt (n * (9 : Nat)) then bif FV.isI IntKind.i64 (vs.getD ((0 : Nat) + (↑i : Int).toNat * (9 : Nat) + (1 : Nat) + (1 : Nat)
     + (1 : Nat) + (1 : Nat) + (1 : Nat) + (1 : Nat) + (1 : Nat)) (FV.b false)) then bif ((0 : Nat) + (↑i : Int).toNat * (9 : Nat) + (1 : Nat) + (1 : Nat) + (1 : Nat) + (1 : Nat) + (1 : Nat) + (1 : Nat) +
     (1 : Nat) + (1 : Nat)).blt (n * (9 : Nat)) then bif (vs.getD ((0 : Nat) + (↑i : Int).toNat * (9 : Nat) + (1 : Nat) + (1 : Nat) + (1 : Nat) + (1 : Nat) + (1 : Nat) + (1 : Nat) + (1 : Nat) + (1 : Nat))
     (FV.b false)).isB then bif (vs.getD ((0 : Nat) + (↑i : Int).toNat * (9 : Nat) + (1 : Nat)) (FV.b false)).asB then bif chk (xs.length = (9 : Nat)) then bif chk ((vs.getD ((0 : Nat) + (↑i : Int).toNat *
     (9 : Nat) + (1 : Nat) + (1 : Nat)) (FV.b false)).asI < now) then bif chk ((vs.getD ((0 : Nat) + (↑i : Int).toNat * (9 : Nat) + (1 : Nat) + (1 : Nat)) (FV.b false)).asI < now) then bif chk (ts.length =
     ts.length ∧ ts.length * (10 : Nat) = ts.length * (10 : Nat) ∧ flat ts = flat ts ∧ ts.length ≤ (60 : Nat)) then bif chk (ts.length = ts.length ∧ ts.length * (10 : Nat) = ts.length * (10 : Nat) ∧ flat
     ts = flat ts ∧ ts.length ≤ (60 : Nat) ∧ waitI ts = (-1 : Int)) then on [Value.bool false, Value.pointer (some (Addr.mk (1 : Nat) (0 : Nat) none)), Value.pointer (some (Addr.mk (3 : Nat) (0 : Nat)
     none)), Value.slice (some (Addr.mk (0 : Nat) (0 : Nat) none)) n (2 : Nat), Value.int IntKind.i64 (↑n : Int), Value.int IntKind.i64 (IntKind.i64.wrap ((↑i : Int) + (1 : Int)))] [some (Blk.mk false (9 :
     Nat) [Seg.any (n * (9 : Nat)) vs]), some (Blk.mk true (5 : Nat) [Seg.vals [Value.pointer (some (Addr.mk (2 : Nat) (0 : Nat) none))], Seg.ints IntKind.i64 (2 : Nat) [w, now], Seg.vals [Value.bool t,
     Value.pointer none]]), some (Blk.mk true (9 : Nat) [Seg.ints IntKind.i64 (9 : Nat) xs]), some (Blk.mk true (2 : Nat) [Seg.ints IntKind.i64 (1 : Nat) [w], Seg.vals [Value.slice (some (Addr.mk (4 : Nat)
     (0 : Nat) none)) ts.length (1 : Nat)]]), some (Blk.mk true (10 : Nat) [Seg.any (ts.length * (10 : Nat)) (flat ts)])] else none else none else none else none else none else none else none else none
     else none else none else none else none else none else none else none else none else none else none else none else none else none else none else none else none else none else none) (by kernel_rfl) (by simp only [-eq_self, Int.toNat_natCast, Nat.zero_add, swrap w1.1 w1.2]; exact (go_t (dec_t h1) (go_t (and_t (dec_t h2) (dec_t h1)) (go_t (blt_t h3) (go_t h4 (go_t (blt_t h5) (go_t h6 (go_t (blt_t h7) (go_t h8 (go_t (blt_t h9) (go_t h10 (go_t (blt_t h11) (go_t h12 (go_t (blt_t h13) (go_t h14 (go_t (blt_t h15) (go_t h16 (go_t (blt_t h17) (go_t h18 (go_t (blt_t h19) (go_t h20 (go_t h21 (go_t (chk_t h22) (go_t (chk_t h23) (go_t (chk_t h23) (go_t (chk_t h24) (go_t (chk_t h25) rfl)))))))))))))))))))))))))))
--CFEND
--CP p6cNN (w now : Int) (t : Bool) (n i cc : Nat) (xs : List Int) (vs : List FV) (ts : List Th) (on : List Value → Heap → Out) (out : Exit → List Value → Heap → Out) :: roundK Try.prog ((S6c FCpyN (FDCpy ts) FEdgN FMsgN FWtN (FWan ts)).on [(55, true), (84, true), (132, false)]) noL Try.f6.ntmps 1 (loopOf Try.f6 0) live6 [.bool false, pt 1, pt 3, sl 0 n 2, w63 n, w63 i] [opsB n vs, PBe 2 w now t (.pointer none), eB true xs, DBe 4 w ts.length cc, rowA true ts.length (flat ts)] on out
theorem p6cNN (w now : Int) (t : Bool) (n i cc : Nat) (xs : List Int) (vs : List FV) (ts : List Th) (on : List Value → Heap → Out) (out : Exit → List Value → Heap → Out)
    (w1 : -9223372036854775808 ≤ (↑i : Int) + (1 : Int) ∧ (↑i : Int) + (1 : Int) ≤ 9223372036854775807 := by omega)
    (h1 : (↑i : Int) < (↑n : Int) := by first | omega | assumption | rfl)
    (h2 : (0 : Int) ≤ (↑i : Int) := by first | omega | assumption | rfl)
    (h3 : i * (9 : Nat) < n * (9 : Nat) := by first | omega | assumption | rfl)
    (h4 : (vs.getD (i * (9 : Nat)) (FV.b false)).isB = true := by first | omega | assumption | rfl)
    (h5 : i * (9 : Nat) + (1 : Nat) < n * (9 : Nat) := by first | omega | assumption | rfl)
    (h6 : (vs.getD (i * (9 : Nat) + (1 : Nat)) (FV.b false)).isB = true := by first | omega | assumption | rfl)
    (h7 : i * (9 : Nat) + (2 : Nat) < n * (9 : Nat) := by first | omega | assumption | rfl)
    (h8 : FV.isI IntKind.i64 (vs.getD (i * (9 : Nat) + (2 : Nat)) (FV.b false)) = true := by first | omega | assumption | rfl)
    (h9 : i * (9 : Nat) + (3 : Nat) < n * (9 : Nat) := by first | omega | assumption | rfl)
    (h10 : FV.isI IntKind.u8 (vs.getD (i * (9 : Nat) + (3 : Nat)) (FV.b false)) = true := by first | omega | assumption | rfl)
    (h11 : i * (9 : Nat) + (4 : Nat) < n * (9 : Nat) := by first | omega | assumption | rfl)
    (h12 : (vs.getD (i * (9 : Nat) + (4 : Nat)) (FV.b false)).isB = true := by first | omega | assumption | rfl)
    (h13 : i * (9 : Nat) + (5 : Nat) < n * (9 : Nat) := by first | omega | assumption | rfl)
    (h14 : FV.isI IntKind.i64 (vs.getD (i * (9 : Nat) + (5 : Nat)) (FV.b false)) = true := by first | omega | assumption | rfl)
    (h15 : i * (9 : Nat) + (6 : Nat) < n * (9 : Nat) := by first | omega | assumption | rfl)
    (h16 : (vs.getD (i * (9 : Nat) + (6 : Nat)) (FV.b false)).isB = true := by first | omega | assumption | rfl)
    (h17 : i * (9 : Nat) + (7 : Nat) < n * (9 : Nat) := by first | omega | assumption | rfl)
    (h18 : FV.isI IntKind.i64 (vs.getD (i * (9 : Nat) + (7 : Nat)) (FV.b false)) = true := by first | omega | assumption | rfl)
    (h19 : i * (9 : Nat) + (8 : Nat) < n * (9 : Nat) := by first | omega | assumption | rfl)
    (h20 : (vs.getD (i * (9 : Nat) + (8 : Nat)) (FV.b false)).isB = true := by first | omega | assumption | rfl)
    (h21 : (vs.getD (i * (9 : Nat) + (1 : Nat)) (FV.b false)).asB = true := by first | omega | assumption | rfl)
    (h22 : xs.length = (9 : Nat) := by first | omega | assumption | rfl)
    (h23 : now ≤ (vs.getD (i * (9 : Nat) + (2 : Nat)) (FV.b false)).asI ∧ (0 : Int) ≤ xs.getD (8 : Nat) (0 : Int) ∧ xs.getD (8 : Nat) (0 : Int) ≤ (1000 : Int) ∧ lowB xs (vs.getD (i * (9 : Nat) + (2 : Nat)) (FV.b false)).asI = false := by first | omega | assumption | rfl | ((repeat' with_reducible apply And.intro) <;> first | rfl | assumption | omega))
    (h24 : (vs.getD (i * (9 : Nat) + (2 : Nat)) (FV.b false)).asI ≤ (vs.getD (i * (9 : Nat) + (2 : Nat)) (FV.b false)).asI ∧ (vs.getD (i * (9 : Nat) + (8 : Nat)) (FV.b false)).asB = true := by first | omega | assumption | rfl | ((repeat' with_reducible apply And.intro) <;> first | rfl | assumption | omega))
    (h25 : ts.length = ts.length ∧ ts.length * (10 : Nat) = ts.length * (10 : Nat) ∧ flat ts = flat ts ∧ ts.length ≤ (60 : Nat) := by first | omega | assumption | rfl | ((repeat' with_reducible apply And.intro) <;> first | rfl | assumption | omega))
    (h26 : ts.length = ts.length ∧ ts.length * (10 : Nat) = ts.length * (10 : Nat) ∧ flat ts = flat ts ∧ ts.length ≤ (60 : Nat) ∧ waitI ts = (-1 : Int) := by first | omega | assumption | rfl | ((repeat' with_reducible apply And.intro) <;> first | rfl | assumption | omega)) : roundK Try.prog ((S6c FCpyN (FDCpy ts) FEdgN FMsgN FWtN (FWan ts)).on [(55, true), (84, true), (132, false)]) noL Try.f6.ntmps 1 (loopOf Try.f6 0) live6 [.bool false, pt 1, pt 3, sl 0 n 2, w63 n, w63 i] [opsB n vs, PBe 2 w now t (.pointer none), eB true xs, DBe 4 w ts.length cc, rowA true ts.length (flat ts)] on out =
     (on [Value.bool false, Value.pointer (some (Addr.mk (1 : Nat) (0 : Nat) none)), Value.pointer (some (Addr.mk (3 : Nat) (0 : Nat) none)), Value.slice (some (Addr.mk (0 : Nat) (0 : Nat) none)) n (2 :
     Nat), Value.int IntKind.i64 (↑n : Int), Value.int IntKind.i64 ((↑i : Int) + (1 : Int))] [some (Blk.mk false (9 : Nat) [Seg.any (n * (9 : Nat)) vs]), some (Blk.mk true (5 : Nat) [Seg.vals
     [Value.pointer (some (Addr.mk (2 : Nat) (0 : Nat) none))], Seg.ints IntKind.i64 (2 : Nat) [w, now], Seg.vals [Value.bool t, Value.pointer none]]), some (Blk.mk true (9 : Nat) [Seg.ints IntKind.i64 (9
     : Nat) xs]), some (Blk.mk true (2 : Nat) [Seg.ints IntKind.i64 (1 : Nat) [w], Seg.vals [Value.slice (some (Addr.mk (4 : Nat) (0 : Nat) none)) ts.length (1 : Nat)]]), some (Blk.mk true (10 : Nat)
     [Seg.any (ts.length * (10 : Nat)) (flat ts)])]) :=
  Eq.trans (b :=
     bif decide ((↑i : Int) < (↑n : Int)) then bif decide ((0 : Int) ≤ (↑i : Int)) && decide ((↑i : Int) < (↑n : Int)) then bif ((0 : Nat) + (↑i : Int).toNat * (9 : Nat)).blt (n * (9 : Nat)) then bif
     (vs.getD ((0 : Nat) + (↑i : Int).toNat * (9 : Nat)) (FV.b false)).isB then bif ((0 : Nat) + (↑i : Int).toNat * (9 : Nat) + (1 : Nat)).blt (n * (9 : Nat)) then bif (vs.getD ((0 : Nat) + (↑i :
     Int).toNat * (9 : Nat) + (1 : Nat)) (FV.b false)).isB then bif ((0 : Nat) + (↑i : Int).toNat * (9 : Nat) + (1 : Nat) + (1 : Nat)).blt (n * (9 : Nat)) then bif FV.isI IntKind.i64 (vs.getD ((0 : Nat) +
     (↑i : Int).toNat * (9 : Nat) + (1 : Nat) + (1 : Nat)) (FV.b false)) then bif ((0 : Nat) + (↑i : Int).toNat * (9 : Nat) + (1 : Nat) + (1 : Nat) + (1 : Nat)).blt (n * (9 : Nat)) then bif FV.isI
     IntKind.u8 (vs.getD ((0 : Nat) + (↑i : Int).toNat * (9 : Nat) + (1 : Nat) + (1 : Nat) + (1 : Nat)) (FV.b false)) then bif ((0 : Nat) + (↑i : Int).toNat * (9 : Nat) + (1 : Nat) + (1 : Nat) + (1 : Nat)
     + (1 : Nat)).blt (n * (9 : Nat)) then bif (vs.getD ((0 : Nat) + (↑i : Int).toNat * (9 : Nat) + (1 : Nat) + (1 : Nat) + (1 : Nat) + (1 : Nat)) (FV.b false)).isB then bif ((0 : Nat) + (↑i : Int).toNat *
     (9 : Nat) + (1 : Nat) + (1 : Nat) + (1 : Nat) + (1 : Nat) + (1 : Nat)).blt (n * (9 : Nat)) then bif FV.isI IntKind.i64 (vs.getD ((0 : Nat) + (↑i : Int).toNat * (9 : Nat) + (1 : Nat) + (1 : Nat) + (1 :
     Nat) + (1 : Nat) + (1 : Nat)) (FV.b false)) then bif ((0 : Nat) + (↑i : Int).toNat * (9 : Nat) + (1 : Nat) + (1 : Nat) + (1 : Nat) + (1 : Nat) + (1 : Nat) + (1 : Nat)).blt (n * (9 : Nat)) then bif
     (vs.getD ((0 : Nat) + (↑i : Int).toNat * (9 : Nat) + (1 : Nat) + (1 : Nat) + (1 : Nat) + (1 : Nat) + (1 : Nat) + (1 : Nat)) (FV.b false)).isB then bif ((0 : Nat) + (↑i : Int).toNat * (9 : Nat) + (1 :
     Nat) + (1 : Nat) + (1 : Nat) + (1 : Nat) + (1 : Nat) + (1 : Nat) + (1 : Nat)).blt (n * (9 : Nat)) then bif FV.isI IntKind.i64 (vs.getD ((0 : Nat) + (↑i : Int).toNat * (9 : Nat) + (1 : Nat) + (1 : Nat)
     + (1 : Nat) + (1 : Nat) + (1 : Nat) + (1 : Nat) + (1 : Nat)) (FV.b false)) then bif ((0 : Nat) + (↑i : Int).toNat * (9 : Nat) + (1 : Nat) + (1 : Nat) + (1 : Nat) + (1 : Nat) + (1 : Nat) + (1 : Nat) +
     (1 : Nat) + (1 : Nat)).blt (n * (9 : Nat)) then bif (vs.getD ((0 : Nat) + (↑i : Int).toNat * (9 : Nat) + (1 : Nat) + (1 : Nat) + (1 : Nat) + (1 : Nat) + (1 : Nat) + (1 : Nat) + (1 : Nat) + (1 : Nat))
     (FV.b false)).isB then bif (vs.getD ((0 : Nat) + (↑i : Int).toNat * (9 : Nat) + (1 : Nat)) (FV.b false)).asB then bif chk (xs.length = (9 : Nat)) then bif chk (now ≤ (vs.getD ((0 : Nat) + (↑i :
     Int).toNat * (9 : Nat) + (1 : Nat) + (1 : Nat)) (FV.b false)).asI ∧ (0 : Int) ≤ xs.getD (8 : Nat) (0 : Int) ∧ xs.getD (8 : Nat) (0 : Int) ≤ (1000 : Int) ∧ lowB xs (vs.getD ((0 : Nat) + (↑i :
     Int).toNat * (9 : Nat) + (1 : Nat) + (1 : Nat)) (FV.b false)).asI = false) then bif chk ((vs.getD ((0 : Nat) + (↑i : Int).toNat * (9 : Nat) + (1 : Nat) + (1 : Nat)) (FV.b false)).asI ≤ (vs.getD ((0 :
     Nat) + (↑i : Int).toNat * (9 : Nat) + (1 : Nat) + (1 : Nat)) (FV.b false)).asI ∧ (vs.getD ((0 : Nat) + (↑i : Int).toNat * (9 : Nat) + (1 : Nat) + (1 : Nat) + (1 : Nat) + (1 : Nat) + (1 : Nat) + (1 :
     Nat) + (1 : Nat) + (1 : Nat)) (FV.b false)).asB = true) then bif chk (ts.length = ts.length ∧ ts.length * (10 : Nat) = ts.length * (10 : Nat) ∧ flat ts = flat ts ∧ ts.length ≤ (60 : Nat)) then bif chk
     (ts.length = ts.length ∧ ts.length * (10 : Nat) = ts.length * (10 : Nat) ∧ flat ts = flat ts ∧ ts.length ≤ (60 : Nat) ∧ waitI ts = (-1 : Int)) then on [Value.bool false, Value.pointer (some (Addr.mk
     (1 : Nat) (0 : Nat) none)), Value.pointer (some (Addr.mk (3 : Nat) (0 : Nat) none)), Value.slice (some (Addr.mk (0 : Nat) (0 : Nat) none)) n (2 : Nat), Value.int IntKind.i64 (↑n : Int), Value.int
     IntKind.i64 (IntKind.i64.wrap ((↑i : Int) + (1 : Int)))] [some (Blk.mk false (9 : Nat) [Seg.any (n * (9 : Nat)) vs]), some (Blk.mk true (5 : Nat) [Seg.vals [Value.pointer (some (Addr.mk (2 : Nat) (0 :
     Nat) none))], Seg.ints IntKind.i64 (2 : Nat) [w, now], Seg.vals [Value.bool t, Value.pointer none]]), some (Blk.mk true (9 : Nat) [Seg.ints IntKind.i64 (9 : Nat) xs]), some (Blk.mk true (2 : Nat)
     [Seg.ints IntKind.i64 (1 : Nat) [w], Seg.vals [Value.slice (some (Addr.mk (4 : Nat) (0 : Nat) none)) ts.length (1 : Nat)]]), some (Blk.mk true (10 : Nat) [Seg.any (ts.length * (10 : Nat)) (flat ts)])]
     else none else none else none else none else none else none else none else none else none else none else none else none else none else none else none else none else none else none else none else none
     else none else none else none else none else none else none) (by kernel_rfl) (by simp only [-eq_self, Int.toNat_natCast, Nat.zero_add, swrap w1.1 w1.2]; exact (go_t (dec_t h1) (go_t (and_t (dec_t h2) (dec_t h1)) (go_t (blt_t h3) (go_t h4 (go_t (blt_t h5) (go_t h6 (go_t (blt_t h7) (go_t h8 (go_t (blt_t h9) (go_t h10 (go_t (blt_t h11) (go_t h12 (go_t (blt_t h13) (go_t h14 (go_t (blt_t h15) (go_t h16 (go_t (blt_t h17) (go_t h18 (go_t (blt_t h19) (go_t h20 (go_t h21 (go_t (chk_t h22) (go_t (chk_t h23) (go_t (chk_t h24) (go_t (chk_t h25) (go_t (chk_t h26) rfl)))))))))))))))))))))))))))
--CFEND
--CP p6cNX (w now : Int) (t : Bool) (n i cc : Nat) (xs : List Int) (vs : List FV) (ts : List Th) (on : List Value → Heap → Out) (out : Exit → List Value → Heap → Out) :: roundK Try.prog ((S6c FCpyN (FDCpy ts) FEdgN FMsgX FWtN (FWan ts)).on [(55, true), (84, true), (132, false)]) noL Try.f6.ntmps 1 (loopOf Try.f6 0) live6 [.bool false, pt 1, pt 3, sl 0 n 2, w63 n, w63 i] [opsB n vs, PBe 2 w now t (.pointer none), eB true xs, DBe 4 w ts.length cc, rowA true ts.length (flat ts)] on out
theorem p6cNX (w now : Int) (t : Bool) (n i cc : Nat) (xs : List Int) (vs : List FV) (ts : List Th) (on : List Value → Heap → Out) (out : Exit → List Value → Heap → Out)
    (w1 : -9223372036854775808 ≤ (↑i : Int) + (1 : Int) ∧ (↑i : Int) + (1 : Int) ≤ 9223372036854775807 := by omega)
    (h1 : (↑i : Int) < (↑n : Int) := by first | omega | assumption | rfl)
    (h2 : (0 : Int) ≤ (↑i : Int) := by first | omega | assumption | rfl)
    (h3 : i * (9 : Nat) < n * (9 : Nat) := by first | omega | assumption | rfl)
    (h4 : (vs.getD (i * (9 : Nat)) (FV.b false)).isB = true := by first | omega | assumption | rfl)
    (h5 : i * (9 : Nat) + (1 : Nat) < n * (9 : Nat) := by first | omega | assumption | rfl)
    (h6 : (vs.getD (i * (9 : Nat) + (1 : Nat)) (FV.b false)).isB = true := by first | omega | assumption | rfl)
    (h7 : i * (9 : Nat) + (2 : Nat) < n * (9 : Nat) := by first | omega | assumption | rfl)
    (h8 : FV.isI IntKind.i64 (vs.getD (i * (9 : Nat) + (2 : Nat)) (FV.b false)) = true := by first | omega | assumption | rfl)
    (h9 : i * (9 : Nat) + (3 : Nat) < n * (9 : Nat) := by first | omega | assumption | rfl)
    (h10 : FV.isI IntKind.u8 (vs.getD (i * (9 : Nat) + (3 : Nat)) (FV.b false)) = true := by first | omega | assumption | rfl)
    (h11 : i * (9 : Nat) + (4 : Nat) < n * (9 : Nat) := by first | omega | assumption | rfl)
    (h12 : (vs.getD (i * (9 : Nat) + (4 : Nat)) (FV.b false)).isB = true := by first | omega | assumption | rfl)
    (h13 : i * (9 : Nat) + (5 : Nat) < n * (9 : Nat) := by first | omega | assumption | rfl)
    (h14 : FV.isI IntKind.i64 (vs.getD (i * (9 : Nat) + (5 : Nat)) (FV.b false)) = true := by first | omega | assumption | rfl)
    (h15 : i * (9 : Nat) + (6 : Nat) < n * (9 : Nat) := by first | omega | assumption | rfl)
    (h16 : (vs.getD (i * (9 : Nat) + (6 : Nat)) (FV.b false)).isB = true := by first | omega | assumption | rfl)
    (h17 : i * (9 : Nat) + (7 : Nat) < n * (9 : Nat) := by first | omega | assumption | rfl)
    (h18 : FV.isI IntKind.i64 (vs.getD (i * (9 : Nat) + (7 : Nat)) (FV.b false)) = true := by first | omega | assumption | rfl)
    (h19 : i * (9 : Nat) + (8 : Nat) < n * (9 : Nat) := by first | omega | assumption | rfl)
    (h20 : (vs.getD (i * (9 : Nat) + (8 : Nat)) (FV.b false)).isB = true := by first | omega | assumption | rfl)
    (h21 : (vs.getD (i * (9 : Nat) + (1 : Nat)) (FV.b false)).asB = true := by first | omega | assumption | rfl)
    (h22 : xs.length = (9 : Nat) := by first | omega | assumption | rfl)
    (h23 : now ≤ (vs.getD (i * (9 : Nat) + (2 : Nat)) (FV.b false)).asI ∧ (0 : Int) ≤ xs.getD (8 : Nat) (0 : Int) ∧ xs.getD (8 : Nat) (0 : Int) ≤ (1000 : Int) ∧ lowB xs (vs.getD (i * (9 : Nat) + (2 : Nat)) (FV.b false)).asI = false := by first | omega | assumption | rfl | ((repeat' with_reducible apply And.intro) <;> first | rfl | assumption | omega))
    (h24 : (vs.getD (i * (9 : Nat) + (2 : Nat)) (FV.b false)).asI ≤ (vs.getD (i * (9 : Nat) + (2 : Nat)) (FV.b false)).asI ∧ (vs.getD (i * (9 : Nat) + (8 : Nat)) (FV.b false)).asB = false ∧ (0 : Int) ≤ (vs.getD (i * (9 : Nat) + (2 : Nat)) (FV.b false)).asI ∧ (0 : Int) ≤ w ∧ w ≤ (1000000000 : Int) ∧ (0 : Int) ≤ (pushR xs (vs.getD (i * (9 : Nat) + (2 : Nat)) (FV.b false)).asI).getD (8 : Nat) (0 : Int) ∧ (pushR xs (vs.getD (i * (9 : Nat) + (2 : Nat)) (FV.b false)).asI).getD (8 : Nat) (0 : Int) ≤ (1000 : Int) ∧ ((pushR xs (vs.getD (i * (9 : Nat) + (2 : Nat)) (FV.b false)).asI).getD (8 : Nat) (0 : Int) = (0 : Int) ∨ (0 : Int) ≤ lastR (pushR xs (vs.getD (i * (9 : Nat) + (2 : Nat)) (FV.b false)).asI) ∧ lastR (pushR xs (vs.getD (i * (9 : Nat) + (2 : Nat)) (FV.b false)).asI) ≤ (vs.getD (i * (9 : Nat) + (2 : Nat)) (FV.b false)).asI) ∧ ((pushR xs (vs.getD (i * (9 : Nat) + (2 : Nat)) (FV.b false)).asI).getD (8 : Nat) (0 : Int) = (0 : Int) ∨ false = true ∨ w < (vs.getD (i * (9 : Nat) + (2 : Nat)) (FV.b false)).asI - lastR (pushR xs (vs.getD (i * (9 : Nat) + (2 : Nat)) (FV.b false)).asI) ∨ cnt (allX (pushR xs (vs.getD (i * (9 : Nat) + (2 : Nat)) (FV.b false)).asI)) ((vs.getD (i * (9 : Nat) + (2 : Nat)) (FV.b false)).asI - w) (vs.getD (i * (9 : Nat) + (2 : Nat)) (FV.b false)).asI ≠ (1 : Nat)) := by first | omega | assumption | rfl | ((repeat' with_reducible apply And.intro) <;> first | rfl | assumption | omega))
    (h25 : ts.length = ts.length ∧ ts.length * (10 : Nat) = ts.length * (10 : Nat) ∧ flat ts = flat ts ∧ ts.length ≤ (60 : Nat) := by first | omega | assumption | rfl | ((repeat' with_reducible apply And.intro) <;> first | rfl | assumption | omega))
    (h26 : ts.length = ts.length ∧ ts.length * (10 : Nat) = ts.length * (10 : Nat) ∧ flat ts = flat ts ∧ ts.length ≤ (60 : Nat) ∧ waitI ts = (-1 : Int) := by first | omega | assumption | rfl | ((repeat' with_reducible apply And.intro) <;> first | rfl | assumption | omega)) : roundK Try.prog ((S6c FCpyN (FDCpy ts) FEdgN FMsgX FWtN (FWan ts)).on [(55, true), (84, true), (132, false)]) noL Try.f6.ntmps 1 (loopOf Try.f6 0) live6 [.bool false, pt 1, pt 3, sl 0 n 2, w63 n, w63 i] [opsB n vs, PBe 2 w now t (.pointer none), eB true xs, DBe 4 w ts.length cc, rowA true ts.length (flat ts)] on out =
     (on [Value.bool false, Value.pointer (some (Addr.mk (1 : Nat) (0 : Nat) none)), Value.pointer (some (Addr.mk (3 : Nat) (0 : Nat) none)), Value.slice (some (Addr.mk (0 : Nat) (0 : Nat) none)) n (2 :
     Nat), Value.int IntKind.i64 (↑n : Int), Value.int IntKind.i64 ((↑i : Int) + (1 : Int))] [some (Blk.mk false (9 : Nat) [Seg.any (n * (9 : Nat)) vs]), some (Blk.mk true (5 : Nat) [Seg.vals
     [Value.pointer (some (Addr.mk (2 : Nat) (0 : Nat) none))], Seg.ints IntKind.i64 (2 : Nat) [w, now], Seg.vals [Value.bool t, Value.pointer none]]), some (Blk.mk true (9 : Nat) [Seg.ints IntKind.i64 (9
     : Nat) xs]), some (Blk.mk true (2 : Nat) [Seg.ints IntKind.i64 (1 : Nat) [w], Seg.vals [Value.slice (some (Addr.mk (4 : Nat) (0 : Nat) none)) ts.length (1 : Nat)]]), some (Blk.mk true (10 : Nat)
     [Seg.any (ts.length * (10 : Nat)) (flat ts)])]) :=
  Eq.trans (b :=
     bif decide ((↑i : Int) < (↑n : Int)) then bif decide ((0 : Int) ≤ (↑i : Int)) && decide ((↑i : Int) < (↑n : Int)) then bif ((0 : Nat) + (↑i : Int).toNat * (9 : Nat)).blt (n * (9 : Nat)) then bif
     (vs.getD ((0 : Nat) + (↑i : Int).toNat * (9 : Nat)) (FV.b false)).isB then bif ((0 : Nat) + (↑i : Int).toNat * (9 : Nat) + (1 : Nat)).blt (n * (9 : Nat)) then bif (vs.getD ((0 : Nat) + (↑i :
     Int).toNat * (9 : Nat) + (1 : Nat)) (FV.b false)).isB then bif ((0 : Nat) + (↑i : Int).toNat * (9 : Nat) + (1 : Nat) + (1 : Nat)).blt (n * (9 : Nat)) then bif FV.isI IntKind.i64 (vs.getD ((0 : Nat) +
     (↑i : Int).toNat * (9 : Nat) + (1 : Nat) + (1 : Nat)) (FV.b false)) then bif ((0 : Nat) + (↑i : Int).toNat * (9 : Nat) + (1 : Nat) + (1 : Nat) + (1 : Nat)).blt (n * (9 : Nat)) then bif FV.isI
     IntKind.u8 (vs.getD ((0 : Nat) + (↑i : Int).toNat * (9 : Nat) + (1 : Nat) + (1 : Nat) + (1 : Nat)) (FV.b false)) then bif ((0 : Nat) + (↑i : Int).toNat * (9 : Nat) + (1 : Nat) + (1 : Nat) + (1 : Nat)
     + (1 : Nat)).blt (n * (9 : Nat)) then bif (vs.getD ((0 : Nat) + (↑i : Int).toNat * (9 : Nat) + (1 : Nat) + (1 : Nat) + (1 : Nat) + (1 : Nat)) (FV.b false)).isB then bif ((0 : Nat) + (↑i : Int).toNat *
     (9 : Nat) + (1 : Nat) + (1 : Nat) + (1 : Nat) + (1 : Nat) + (1 : Nat)).blt (n * (9 : Nat)) then bif FV.isI IntKind.i64 (vs.getD ((0 : Nat) + (↑i : Int).toNat * (9 : Nat) + (1 : Nat) + (1 : Nat) + (1 :
     Nat) + (1 : Nat) + (1 : Nat)) (FV.b false)) then bif ((0 : Nat) + (↑i : Int).toNat * (9 : Nat) + (1 : Nat) + (1 : Nat) + (1 : Nat) + (1 : Nat) + (1 : Nat) + (1 : Nat)).blt (n * (9 : Nat)) then bif
     (vs.getD ((0 : Nat) + (↑i : Int).toNat * (9 : Nat) + (1 : Nat) + (1 : Nat) + (1 : Nat) + (1 : Nat) + (1 : Nat) + (1 : Nat)) (FV.b false)).isB then bif ((0 : Nat) + (↑i : Int).toNat * (9 : Nat) + (1 :
     Nat) + (1 : Nat) + (1 : Nat) + (1 : Nat) + (1 : Nat) + (1 : Nat) + (1 : Nat)).blt (n * (9 : Nat)) then bif FV.isI IntKind.i64 (vs.getD ((0 : Nat) + (↑i : Int).toNat * (9 : Nat) + (1 : Nat) + (1 : Nat)
     + (1 : Nat) + (1 : Nat) + (1 : Nat) + (1 : Nat) + (1 : Nat)) (FV.b false)) then bif ((0 : Nat) + (↑i : Int).toNat * (9 : Nat) + (1 : Nat) + (1 : Nat) + (1 : Nat) + (1 : Nat) + (1 : Nat) + (1 : Nat) +
     (1 : Nat) + (1 : Nat)).blt (n * (9 : Nat)) then bif (vs.getD ((0 : Nat) + (↑i : Int).toNat * (9 : Nat) + (1 : Nat) + (1 : Nat) + (1 : Nat) + (1 : Nat) + (1 : Nat) + (1 : Nat) + (1 : Nat) + (1 : Nat))
     (FV.b false)).isB then bif (vs.getD ((0 : Nat) + (↑i : Int).toNat * (9 : Nat) + (1 : Nat)) (FV.b false)).asB then bif chk (xs.length = (9 : Nat)) then bif chk (now ≤ (vs.getD ((0 : Nat) + (↑i :
     Int).toNat * (9 : Nat) + (1 : Nat) + (1 : Nat)) (FV.b false)).asI ∧ (0 : Int) ≤ xs.getD (8 : Nat) (0 : Int) ∧ xs.getD (8 : Nat) (0 : Int) ≤ (1000 : Int) ∧ lowB xs (vs.getD ((0 : Nat) + (↑i :
     Int).toNat * (9 : Nat) + (1 : Nat) + (1 : Nat)) (FV.b false)).asI = false) then bif chk ((vs.getD ((0 : Nat) + (↑i : Int).toNat * (9 : Nat) + (1 : Nat) + (1 : Nat)) (FV.b false)).asI ≤ (vs.getD ((0 :
     Nat) + (↑i : Int).toNat * (9 : Nat) + (1 : Nat) + (1 : Nat)) (FV.b false)).asI ∧ (vs.getD ((0 : Nat) + (↑i : Int).toNat * (9 : Nat) + (1 : Nat) + (1 : Nat) + (1 : Nat) + (1 : Nat) + (1 : Nat) + (1 :
     Nat) + (1 : Nat) + (1 : Nat)) (FV.b false)).asB = false ∧ (0 : Int) ≤ (vs.getD ((0 : Nat) + (↑i : Int).toNat * (9 : Nat) + (1 : Nat) + (1 : Nat)) (FV.b false)).asI ∧ (0 : Int) ≤ w ∧ w ≤ (1000000000 :
     Int) ∧ (0 : Int) ≤ (pushR xs (vs.getD ((0 : Nat) + (↑i : Int).toNat * (9 : Nat) + (1 : Nat) + (1 : Nat)) (FV.b false)).asI).getD (8 : Nat) (0 : Int) ∧ (pushR xs (vs.getD ((0 : Nat) + (↑i : Int).toNat
     * (9 : Nat) + (1 : Nat) + (1 : Nat)) (FV.b false)).asI).getD (8 : Nat) (0 : Int) ≤ (1000 : Int) ∧ ((pushR xs (vs.getD ((0 : Nat) + (↑i : Int).toNat * (9 : Nat) + (1 : Nat) + (1 : Nat)) (FV.b
     false)).asI).getD (8 : Nat) (0 : Int) = (0 : Int) ∨ (0 : Int) ≤ lastR (pushR xs (vs.getD ((0 : Nat) + (↑i : Int).toNat * (9 : Nat) + (1 : Nat) + (1 : Nat)) (FV.b false)).asI) ∧ lastR (pushR xs
     (vs.getD ((0 : Nat) + (↑i : Int).toNat * (9 : Nat) + (1 : Nat) + (1 : Nat)) (FV.b false)).asI) ≤ (vs.getD ((0 : Nat) + (↑i : Int).toNat * (9 : Nat) + (1 : Nat) + (1 : Nat)) (FV.b false)).asI) ∧
     ((pushR xs (vs.getD ((0 : Nat) + (↑i : Int).toNat * (9 : Nat) + (1 : Nat) + (1 : Nat)) (FV.b false)).asI).getD (8 : Nat) (0 : Int) = (0 : Int) ∨ false = true ∨ w < (vs.getD ((0 : Nat) + (↑i :
     Int).toNat * (9 : Nat) + (1 : Nat) + (1 : Nat)) (FV.b false)).asI - lastR (pushR xs (vs.getD ((0 : Nat) + (↑i : Int).toNat * (9 : Nat) + (1 : Nat) + (1 : Nat)) (FV.b false)).asI) ∨ cnt (allX (pushR xs
     (vs.getD ((0 : Nat) + (↑i : Int).toNat * (9 : Nat) + (1 : Nat) + (1 : Nat)) (FV.b false)).asI)) ((vs.getD ((0 : Nat) + (↑i : Int).toNat * (9 : Nat) + (1 : Nat) + (1 : Nat)) (FV.b false)).asI - w)
     (vs.getD ((0 : Nat) + (↑i : Int).toNat * (9 : Nat) + (1 : Nat) + (1 : Nat)) (FV.b false)).asI ≠ (1 : Nat))) then bif chk (ts.length = ts.length ∧ ts.length * (10 : Nat) = ts.length * (10 : Nat) ∧ flat
     ts = flat ts ∧ ts.length ≤ (60 : Nat)) then bif chk (ts.length = ts.length ∧ ts.length * (10 : Nat) = ts.length * (10 : Nat) ∧ flat ts = flat ts ∧ ts.length ≤ (60 : Nat) ∧ waitI ts = (-1 : Int)) then
     on [Value.bool false, Value.pointer (some (Addr.mk (1 : Nat) (0 : Nat) none)), Value.pointer (some (Addr.mk (3 : Nat) (0 : Nat) none)), Value.slice (some (Addr.mk (0 : Nat) (0 : Nat) none)) n (2 :
     Nat), Value.int IntKind.i64 (↑n : Int), Value.int IntKind.i64 (IntKind.i64.wrap ((↑i : Int) + (1 : Int)))] [some (Blk.mk false (9 : Nat) [Seg.any (n * (9 : Nat)) vs]), some (Blk.mk true (5 : Nat)
     [Seg.vals [Value.pointer (some (Addr.mk (2 : Nat) (0 : Nat) none))], Seg.ints IntKind.i64 (2 : Nat) [w, now], Seg.vals [Value.bool t, Value.pointer none]]), some (Blk.mk true (9 : Nat) [Seg.ints
     IntKind.i64 (9 : Nat) xs]), some (Blk.mk true (2 : Nat) [Seg.ints IntKind.i64 (1 : Nat) [w], Seg.vals [Value.slice (some (Addr.mk (4 : Nat) (0 : Nat) none)) ts.length (1 : Nat)]]), some (Blk.mk true
     (10 : Nat) [Seg.any (ts.length * (10 : Nat)) (flat ts)])] else none else none else none else none else none else none else none else none else none else none else none else none else none else none
     else none else none else none else none else none else none else none else none else none else none else none else none) (by kernel_rfl) (by simp only [-eq_self, Int.toNat_natCast, Nat.zero_add, swrap w1.1 w1.2]; exact (go_t (dec_t h1) (go_t (and_t (dec_t h2) (dec_t h1)) (go_t (blt_t h3) (go_t h4 (go_t (blt_t h5) (go_t h6 (go_t (blt_t h7) (go_t h8 (go_t (blt_t h9) (go_t h10 (go_t (blt_t h11) (go_t h12 (go_t (blt_t h13) (go_t h14 (go_t (blt_t h15) (go_t h16 (go_t (blt_t h17) (go_t h18 (go_t (blt_t h19) (go_t h20 (go_t h21 (go_t (chk_t h22) (go_t (chk_t h23) (go_t (chk_t h24) (go_t (chk_t h25) (go_t (chk_t h26) rfl)))))))))))))))))))))))))))
--CFEND
--CP p6cNP (w now : Int) (t : Bool) (n i cc : Nat) (xs : List Int) (vs : List FV) (ts : List Th) (on : List Value → Heap → Out) (out : Exit → List Value → Heap → Out) :: roundK Try.prog ((S6c FCpyN (FDCpy ts) FEdgN FMsgP FWtN (FWan ts)).on [(55, true), (84, true), (132, false)]) noL Try.f6.ntmps 1 (loopOf Try.f6 0) live6 [.bool false, pt 1, pt 3, sl 0 n 2, w63 n, w63 i] [opsB n vs, PBe 2 w now t (.pointer none), eB true xs, DBe 4 w ts.length cc, rowA true ts.length (flat ts)] on out
theorem p6cNP (w now : Int) (t : Bool) (n i cc : Nat) (xs : List Int) (vs : List FV) (ts : List Th) (on : List Value → Heap → Out) (out : Exit → List Value → Heap → Out)
    (w1 : -9223372036854775808 ≤ (↑i : Int) + (1 : Int) ∧ (↑i : Int) + (1 : Int) ≤ 9223372036854775807 := by omega)
    (h1 : (↑i : Int) < (↑n : Int) := by first | omega | assumption | rfl)
    (h2 : (0 : Int) ≤ (↑i : Int) := by first | omega | assumption | rfl)
    (h3 : i * (9 : Nat) < n * (9 : Nat) := by first | omega | assumption | rfl)
    (h4 : (vs.getD (i * (9 : Nat)) (FV.b false)).isB = true := by first | omega | assumption | rfl)
    (h5 : i * (9 : Nat) + (1 : Nat) < n * (9 : Nat) := by first | omega | assumption | rfl)
    (h6 : (vs.getD (i * (9 : Nat) + (1 : Nat)) (FV.b false)).isB = true := by first | omega | assumption | rfl)
    (h7 : i * (9 : Nat) + (2 : Nat) < n * (9 : Nat) := by first | omega | assumption | rfl)
    (h8 : FV.isI IntKind.i64 (vs.getD (i * (9 : Nat) + (2 : Nat)) (FV.b false)) = true := by first | omega | assumption | rfl)
    (h9 : i * (9 : Nat) + (3 : Nat) < n * (9 : Nat) := by first | omega | assumption | rfl)
    (h10 : FV.isI IntKind.u8 (vs.getD (i * (9 : Nat) + (3 : Nat)) (FV.b false)) = true := by first | omega | assumption | rfl)
    (h11 : i * (9 : Nat) + (4 : Nat) < n * (9 : Nat) := by first | omega | assumption | rfl)
    (h12 : (vs.getD (i * (9 : Nat) + (4 : Nat)) (FV.b false)).isB = true := by first | omega | assumption | rfl)
    (h13 : i * (9 : Nat) + (5 : Nat) < n * (9 : Nat) := by first | omega | assumption | rfl)
    (h14 : FV.isI IntKind.i64 (vs.getD (i * (9 : Nat) + (5 : Nat)) (FV.b false)) = true := by first | omega | assumption | rfl)
    (h15 : i * (9 : Nat) + (6 : Nat) < n * (9 : Nat) := by first | omega | assumption | rfl)
    (h16 : (vs.getD (i * (9 : Nat) + (6 : Nat)) (FV.b false)).isB = true := by first | omega | assumption | rfl)
    (h17 : i * (9 : Nat) + (7 : Nat) < n * (9 : Nat) := by first | omega | assumption | rfl)
    (h18 : FV.isI IntKind.i64 (vs.getD (i * (9 : Nat) + (7 : Nat)) (FV.b false)) = true := by first | omega | assumption | rfl)
    (h19 : i * (9 : Nat) + (8 : Nat) < n * (9 : Nat) := by first | omega | assumption | rfl)
    (h20 : (vs.getD (i * (9 : Nat) + (8 : Nat)) (FV.b false)).isB = true := by first | omega | assumption | rfl)
    (h21 : (vs.getD (i * (9 : Nat) + (1 : Nat)) (FV.b false)).asB = true := by first | omega | assumption | rfl)
    (h22 : xs.length = (9 : Nat) := by first | omega | assumption | rfl)
    (h23 : now ≤ (vs.getD (i * (9 : Nat) + (2 : Nat)) (FV.b false)).asI ∧ (0 : Int) ≤ xs.getD (8 : Nat) (0 : Int) ∧ xs.getD (8 : Nat) (0 : Int) ≤ (1000 : Int) ∧ lowB xs (vs.getD (i * (9 : Nat) + (2 : Nat)) (FV.b false)).asI = false := by first | omega | assumption | rfl | ((repeat' with_reducible apply And.intro) <;> first | rfl | assumption | omega))
    (h24 : (vs.getD (i * (9 : Nat) + (2 : Nat)) (FV.b false)).asI ≤ (vs.getD (i * (9 : Nat) + (2 : Nat)) (FV.b false)).asI ∧ (vs.getD (i * (9 : Nat) + (8 : Nat)) (FV.b false)).asB = false ∧ (0 : Int) ≤ (vs.getD (i * (9 : Nat) + (2 : Nat)) (FV.b false)).asI ∧ (0 : Int) ≤ w ∧ w ≤ (1000000000 : Int) ∧ (0 : Int) ≤ (pushR xs (vs.getD (i * (9 : Nat) + (2 : Nat)) (FV.b false)).asI).getD (8 : Nat) (0 : Int) ∧ (pushR xs (vs.getD (i * (9 : Nat) + (2 : Nat)) (FV.b false)).asI).getD (8 : Nat) (0 : Int) ≤ (1000 : Int) ∧ ((pushR xs (vs.getD (i * (9 : Nat) + (2 : Nat)) (FV.b false)).asI).getD (8 : Nat) (0 : Int) = (0 : Int) ∨ (0 : Int) ≤ lastR (pushR xs (vs.getD (i * (9 : Nat) + (2 : Nat)) (FV.b false)).asI) ∧ lastR (pushR xs (vs.getD (i * (9 : Nat) + (2 : Nat)) (FV.b false)).asI) ≤ (vs.getD (i * (9 : Nat) + (2 : Nat)) (FV.b false)).asI) ∧ (pushR xs (vs.getD (i * (9 : Nat) + (2 : Nat)) (FV.b false)).asI).getD (8 : Nat) (0 : Int) ≠ (0 : Int) ∧ false = false ∧ (vs.getD (i * (9 : Nat) + (2 : Nat)) (FV.b false)).asI - lastR (pushR xs (vs.getD (i * (9 : Nat) + (2 : Nat)) (FV.b false)).asI) ≤ w ∧ cnt (allX (pushR xs (vs.getD (i * (9 : Nat) + (2 : Nat)) (FV.b false)).asI)) ((vs.getD (i * (9 : Nat) + (2 : Nat)) (FV.b false)).asI - w) (vs.getD (i * (9 : Nat) + (2 : Nat)) (FV.b false)).asI = (1 : Nat) := by first | omega | assumption | rfl | ((repeat' with_reducible apply And.intro) <;> first | rfl | assumption | omega))
    (h25 : ts.length = ts.length ∧ ts.length * (10 : Nat) = ts.length * (10 : Nat) ∧ flat ts = flat ts ∧ ts.length ≤ (60 : Nat) := by first | omega | assumption | rfl | ((repeat' with_reducible apply And.intro) <;> first | rfl | assumption | omega))
    (h26 : ts.length = ts.length ∧ ts.length * (10 : Nat) = ts.length * (10 : Nat) ∧ flat ts = flat ts ∧ ts.length ≤ (60 : Nat) ∧ waitI ts = (-1 : Int) := by first | omega | assumption | rfl | ((repeat' with_reducible apply And.intro) <;> first | rfl | assumption | omega)) : roundK Try.prog ((S6c FCpyN (FDCpy ts) FEdgN FMsgP FWtN (FWan ts)).on [(55, true), (84, true), (132, false)]) noL Try.f6.ntmps 1 (loopOf Try.f6 0) live6 [.bool false, pt 1, pt 3, sl 0 n 2, w63 n, w63 i] [opsB n vs, PBe 2 w now t (.pointer none), eB true xs, DBe 4 w ts.length cc, rowA true ts.length (flat ts)] on out =
     (on [Value.bool false, Value.pointer (some (Addr.mk (1 : Nat) (0 : Nat) none)), Value.pointer (some (Addr.mk (3 : Nat) (0 : Nat) none)), Value.slice (some (Addr.mk (0 : Nat) (0 : Nat) none)) n (2 :
     Nat), Value.int IntKind.i64 (↑n : Int), Value.int IntKind.i64 ((↑i : Int) + (1 : Int))] [some (Blk.mk false (9 : Nat) [Seg.any (n * (9 : Nat)) vs]), some (Blk.mk true (5 : Nat) [Seg.vals
     [Value.pointer (some (Addr.mk (2 : Nat) (0 : Nat) none))], Seg.ints IntKind.i64 (2 : Nat) [w, now], Seg.vals [Value.bool t, Value.pointer none]]), some (Blk.mk true (9 : Nat) [Seg.ints IntKind.i64 (9
     : Nat) xs]), some (Blk.mk true (2 : Nat) [Seg.ints IntKind.i64 (1 : Nat) [w], Seg.vals [Value.slice (some (Addr.mk (4 : Nat) (0 : Nat) none)) ts.length (1 : Nat)]]), some (Blk.mk true (10 : Nat)
     [Seg.any (ts.length * (10 : Nat)) (flat ts)])]) :=
  Eq.trans (b :=
     bif decide ((↑i : Int) < (↑n : Int)) then bif decide ((0 : Int) ≤ (↑i : Int)) && decide ((↑i : Int) < (↑n : Int)) then bif ((0 : Nat) + (↑i : Int).toNat * (9 : Nat)).blt (n * (9 : Nat)) then bif
     (vs.getD ((0 : Nat) + (↑i : Int).toNat * (9 : Nat)) (FV.b false)).isB then bif ((0 : Nat) + (↑i : Int).toNat * (9 : Nat) + (1 : Nat)).blt (n * (9 : Nat)) then bif (vs.getD ((0 : Nat) + (↑i :
     Int).toNat * (9 : Nat) + (1 : Nat)) (FV.b false)).isB then bif ((0 : Nat) + (↑i : Int).toNat * (9 : Nat) + (1 : Nat) + (1 : Nat)).blt (n * (9 : Nat)) then bif FV.isI IntKind.i64 (vs.getD ((0 : Nat) +
     (↑i : Int).toNat * (9 : Nat) + (1 : Nat) + (1 : Nat)) (FV.b false)) then bif ((0 : Nat) + (↑i : Int).toNat * (9 : Nat) + (1 : Nat) + (1 : Nat) + (1 : Nat)).blt (n * (9 : Nat)) then bif FV.isI
     IntKind.u8 (vs.getD ((0 : Nat) + (↑i : Int).toNat * (9 : Nat) + (1 : Nat) + (1 : Nat) + (1 : Nat)) (FV.b false)) then bif ((0 : Nat) + (↑i : Int).toNat * (9 : Nat) + (1 : Nat) + (1 : Nat) + (1 : Nat)
     + (1 : Nat)).blt (n * (9 : Nat)) then bif (vs.getD ((0 : Nat) + (↑i : Int).toNat * (9 : Nat) + (1 : Nat) + (1 : Nat) + (1 : Nat) + (1 : Nat)) (FV.b false)).isB then bif ((0 : Nat) + (↑i : Int).toNat *
     (9 : Nat) + (1 : Nat) + (1 : Nat) + (1 : Nat) + (1 : Nat) + (1 : Nat)).blt (n * (9 : Nat)) then bif FV.isI IntKind.i64 (vs.getD ((0 : Nat) + (↑i : Int).toNat * (9 : Nat) + (1 : Nat) + (1 : Nat) + (1 :
     Nat) + (1 : Nat) + (1 : Nat)) (FV.b false)) then bif ((0 : Nat) + (↑i : Int).toNat * (9 : Nat) + (1 : Nat) + (1 : Nat) + (1 : Nat) + (1 : Nat) + (1 : Nat) + (1 : Nat)).blt (n * (9 : Nat)) then bif
     (vs.getD ((0 : Nat) + (↑i : Int).toNat * (9 : Nat) + (1 : Nat) + (1 : Nat) + (1 : Nat) + (1 : Nat) + (1 : Nat) + (1 : Nat)) (FV.b false)).isB then bif ((0 : Nat) + (↑i : Int).toNat * (9 : Nat) + (1 :
     Nat) + (1 : Nat) + (1 : Nat) + (1 : Nat) + (1 : Nat) + (1 : Nat) + (1 : Nat)).blt (n * (9 : Nat)) then bif FV.isI IntKind.i64 (vs.getD ((0 : Nat) + (↑i : Int).toNat * (9 : Nat) + (1 : Nat) + (1 : Nat)
     + (1 : Nat) + (1 : Nat) + (1 : Nat) + (1 : Nat) + (1 : Nat)) (FV.b false)) then bif ((0 : Nat) + (↑i : Int).toNat * (9 : Nat) + (1 : Nat) + (1 : Nat) + (1 : Nat) + (1 : Nat) + (1 : Nat) + (1 : Nat) +
     (1 : Nat) + (1 : Nat)).blt (n * (9 : Nat)) then bif (vs.getD ((0 : Nat) + (↑i : Int).toNat * (9 : Nat) + (1 : Nat) + (1 : Nat) + (1 : Nat) + (1 : Nat) + (1 : Nat) + (1 : Nat) + (1 : Nat) + (1 : Nat))
     (FV.b false)).isB then bif (vs.getD ((0 : Nat) + (↑i : Int).toNat * (9 : Nat) + (1 : Nat)) (FV.b false)).asB then bif chk (xs.length = (9 : Nat)) then bif chk (now ≤ (vs.getD ((0 : Nat) + (↑i :
     Int).toNat * (9 : Nat) + (1 : Nat) + (1 : Nat)) (FV.b false)).asI ∧ (0 : Int) ≤ xs.getD (8 : Nat) (0 : Int) ∧ xs.getD (8 : Nat) (0 : Int) ≤ (1000 : Int) ∧ lowB xs (vs.getD ((0 : Nat) + (↑i :
     Int).toNat * (9 : Nat) + (1 : Nat) + (1 : Nat)) (FV.b false)).asI = false) then bif chk ((vs.getD ((0 : Nat) + (↑i : Int).toNat * (9 : Nat) + (1 : Nat) + (1 : Nat)) (FV.b false)).asI ≤ (vs.getD ((0 :
     Nat) + (↑i : Int).toNat * (9 : Nat) + (1 : Nat) + (1 : Nat)) (FV.b false)).asI ∧ (vs.getD ((0 : Nat) + (↑i : Int).toNat * (9 : Nat) + (1 : Nat) + (1 : Nat) + (1 : Nat) + (1 : Nat) + (1 : Nat) + (1 :
     Nat) + (1 : Nat) + (1 : Nat)) (FV.b false)).asB = false ∧ (0 : Int) ≤ (vs.getD ((0 : Nat) + (↑i : Int).toNat * (9 : Nat) + (1 : Nat) + (1 : Nat)) (FV.b false)).asI ∧ (0 : Int) ≤ w ∧ w ≤ (1000000000 :
     Int) ∧ (0 : Int) ≤ (pushR xs (vs.getD ((0 : Nat) + (↑i : Int).toNat * (9 : Nat) + (1 : Nat) + (1 : Nat)) (FV.b false)).asI).getD (8 : Nat) (0 : Int) ∧ (pushR xs (vs.getD ((0 : Nat) + (↑i : Int).toNat
     * (9 : Nat) + (1 : Nat) + (1 : Nat)) (FV.b false)).asI).getD (8 : Nat) (0 : Int) ≤ (1000 : Int) ∧ ((pushR xs (vs.getD ((0 : Nat) + (↑i : Int).toNat * (9 : Nat) + (1 : Nat) + (1 : Nat)) (FV.b
     false)).asI).getD (8 : Nat) (0 : Int) = (0 : Int) ∨ (0 : Int) ≤ lastR (pushR xs (vs.getD ((0 : Nat) + (↑i : Int).toNat * (9 : Nat) + (1 : Nat) + (1 : Nat)) (FV.b false)).asI) ∧ lastR (pushR xs
     (vs.getD ((0 : Nat) + (↑i : Int).toNat * (9 : Nat) + (1 : Nat) + (1 : Nat)) (FV.b false)).asI) ≤ (vs.getD ((0 : Nat) + (↑i : Int).toNat * (9 : Nat) + (1 : Nat) + (1 : Nat)) (FV.b false)).asI) ∧ (pushR
     xs (vs.getD ((0 : Nat) + (↑i : Int).toNat * (9 : Nat) + (1 : Nat) + (1 : Nat)) (FV.b false)).asI).getD (8 : Nat) (0 : Int) ≠ (0 : Int) ∧ false = false ∧ (vs.getD ((0 : Nat) + (↑i : Int).toNat * (9 :
     Nat) + (1 : Nat) + (1 : Nat)) (FV.b false)).asI - lastR (pushR xs (vs.getD ((0 : Nat) + (↑i : Int).toNat * (9 : Nat) + (1 : Nat) + (1 : Nat)) (FV.b false)).asI) ≤ w ∧ cnt (allX (pushR xs (vs.getD ((0
     : Nat) + (↑i : Int).toNat * (9 : Nat) + (1 : Nat) + (1 : Nat)) (FV.b false)).asI)) ((vs.getD ((0 : Nat) + (↑i : Int).toNat * (9 : Nat) + (1 : Nat) + (1 : Nat)) (FV.b false)).asI - w) (vs.getD ((0 :
     Nat) + (↑i : Int).toNat * (9 : Nat) + (1 : Nat) + (1 : Nat)) (FV.b false)).asI = (1 : Nat)) then bif chk (ts.length = ts.length ∧ ts.length * (10 : Nat) = ts.length * (10 : Nat) ∧ flat ts = flat ts ∧
     ts.length ≤ (60 : Nat)) then bif chk (ts.length = ts.length ∧ ts.length * (10 : Nat) = ts.length * (10 : Nat) ∧ flat ts = flat ts ∧ ts.length ≤ (60 : Nat) ∧ waitI ts = (-1 : Int)) then on [Value.bool
     false, Value.pointer (some (Addr.mk (1 : Nat) (0 : Nat) none)), Value.pointer (some (Addr.mk (3 : Nat) (0 : Nat) none)), Value.slice (some (Addr.mk (0 : Nat) (0 : Nat) none)) n (2 : Nat), Value.int
     IntKind.i64 (↑n : Int), Value.int IntKind.i64 (IntKind.i64.wrap ((↑i : Int) + (1 : Int)))] [some (Blk.mk false (9 : Nat) [Seg.any (n * (9 : Nat)) vs]), some (Blk.mk true (5 : Nat) [Seg.vals
     [Value.pointer (some (Addr.mk (2 : Nat) (0 : Nat) none))], Seg.ints IntKind.i64 (2 : Nat) [w, now], Seg.vals [Value.bool t, Value.pointer none]]), some (Blk.mk true (9 : Nat) [Seg.ints IntKind.i64 (9
     : Nat) xs]), some (Blk.mk true (2 : Nat) [Seg.ints IntKind.i64 (1 : Nat) [w], Seg.vals [Value.slice (some (Addr.mk (4 : Nat) (0 : Nat) none)) ts.length (1 : Nat)]]), some (Blk.mk true (10 : Nat)
     [Seg.any (ts.length * (10 : Nat)) (flat ts)])] else none else none else none else none else none else none else none else none else none else none else none else none else none else none else none
     else none else none else none else none else none else none else none else none else none else none else none) (by kernel_rfl) (by simp only [-eq_self, Int.toNat_natCast, Nat.zero_add, swrap w1.1 w1.2]; exact (go_t (dec_t h1) (go_t (and_t (dec_t h2) (dec_t h1)) (go_t (blt_t h3) (go_t h4 (go_t (blt_t h5) (go_t h6 (go_t (blt_t h7) (go_t h8 (go_t (blt_t h9) (go_t h10 (go_t (blt_t h11) (go_t h12 (go_t (blt_t h13) (go_t h14 (go_t (blt_t h15) (go_t h16 (go_t (blt_t h17) (go_t h18 (go_t (blt_t h19) (go_t h20 (go_t h21 (go_t (chk_t h22) (go_t (chk_t h23) (go_t (chk_t h24) (go_t (chk_t h25) (go_t (chk_t h26) rfl)))))))))))))))))))))))))))
--CFEND
--CP p6eN (w now : Int) (t : Bool) (n i cc : Nat) (xs : List Int) (vs : List FV) (ts ts' : List Th) (on : List Value → Heap → Out) (out : Exit → List Value → Heap → Out) :: roundK Try.prog ((S6e FEdgN (FREN ts) FWtN (FWan ts')).on [(55, true), (84, false), (102, true), (122, false), (126, false), (132, false)]) noL Try.f6.ntmps 1 (loopOf Try.f6 0) live6 [.bool false, pt 1, pt 3, sl 0 n 2, w63 n, w63 i] [opsB n vs, PBe 2 w now t (.pointer none), eB true xs, DBe 4 w ts.length cc, rowA true ts.length (flat ts)] on out
theorem p6eN (w now : Int) (t : Bool) (n i cc : Nat) (xs : List Int) (vs : List FV) (ts ts' : List Th) (on : List Value → Heap → Out) (out : Exit → List Value → Heap → Out)
    (w1 : -9223372036854775808 ≤ (↑i : Int) + (1 : Int) ∧ (↑i : Int) + (1 : Int) ≤ 9223372036854775807 := by omega)
    (h1 : (↑i : Int) < (↑n : Int) := by first | omega | assumption | rfl)
    (h2 : (0 : Int) ≤ (↑i : Int) := by first | omega | assumption | rfl)
    (h3 : i * (9 : Nat) < n * (9 : Nat) := by first | omega | assumption | rfl)
    (h4 : (vs.getD (i * (9 : Nat)) (FV.b false)).isB = true := by first | omega | assumption | rfl)
    (h5 : i * (9 : Nat) + (1 : Nat) < n * (9 : Nat) := by first | omega | assumption | rfl)
    (h6 : (vs.getD (i * (9 : Nat) + (1 : Nat)) (FV.b false)).isB = true := by first | omega | assumption | rfl)
    (h7 : i * (9 : Nat) + (2 : Nat) < n * (9 : Nat) := by first | omega | assumption | rfl)
    (h8 : FV.isI IntKind.i64 (vs.getD (i * (9 : Nat) + (2 : Nat)) (FV.b false)) = true := by first | omega | assumption | rfl)
    (h9 : i * (9 : Nat) + (3 : Nat) < n * (9 : Nat) := by first | omega | assumption | rfl)
    (h10 : FV.isI IntKind.u8 (vs.getD (i * (9 : Nat) + (3 : Nat)) (FV.b false)) = true := by first | omega | assumption | rfl)
    (h11 : i * (9 : Nat) + (4 : Nat) < n * (9 : Nat) := by first | omega | assumption | rfl)
    (h12 : (vs.getD (i * (9 : Nat) + (4 : Nat)) (FV.b false)).isB = true := by first | omega | assumption | rfl)
    (h13 : i * (9 : Nat) + (5 : Nat) < n * (9 : Nat) := by first | omega | assumption | rfl)
    (h14 : FV.isI IntKind.i64 (vs.getD (i * (9 : Nat) + (5 : Nat)) (FV.b false)) = true := by first | omega | assumption | rfl)
    (h15 : i * (9 : Nat) + (6 : Nat) < n * (9 : Nat) := by first | omega | assumption | rfl)
    (h16 : (vs.getD (i * (9 : Nat) + (6 : Nat)) (FV.b false)).isB = true := by first | omega | assumption | rfl)
    (h17 : i * (9 : Nat) + (7 : Nat) < n * (9 : Nat) := by first | omega | assumption | rfl)
    (h18 : FV.isI IntKind.i64 (vs.getD (i * (9 : Nat) + (7 : Nat)) (FV.b false)) = true := by first | omega | assumption | rfl)
    (h19 : i * (9 : Nat) + (8 : Nat) < n * (9 : Nat) := by first | omega | assumption | rfl)
    (h20 : (vs.getD (i * (9 : Nat) + (8 : Nat)) (FV.b false)).isB = true := by first | omega | assumption | rfl)
    (h21 : (vs.getD (i * (9 : Nat) + (1 : Nat)) (FV.b false)).asB = false := by first | omega | assumption | rfl)
    (h22 : (vs.getD (i * (9 : Nat)) (FV.b false)).asB = true := by first | omega | assumption | rfl)
    (h23 : now ≤ (vs.getD (i * (9 : Nat) + (2 : Nat)) (FV.b false)).asI ∧ (0 : Int) ≤ xs.getD (8 : Nat) (0 : Int) ∧ xs.getD (8 : Nat) (0 : Int) ≤ (1000 : Int) ∧ lowB xs (vs.getD (i * (9 : Nat) + (2 : Nat)) (FV.b false)).asI = false := by first | omega | assumption | rfl | ((repeat' with_reducible apply And.intro) <;> first | rfl | assumption | omega))
    (h24 : ts.length = ts.length ∧ ts.length * (10 : Nat) = ts.length * (10 : Nat) ∧ flat ts = flat ts ∧ ts.length ≤ (60 : Nat) ∧ mayP ts (vs.getD (i * (9 : Nat) + (2 : Nat)) (FV.b false)).asI ∧ waitI ts = (-1 : Int) := by first | omega | assumption | rfl | ((repeat' with_reducible apply And.intro) <;> first | rfl | assumption | omega))
    (h25 : ts.length + (1 : Nat) = ts'.length ∧ (ts.length + (1 : Nat)) * (10 : Nat) = ts'.length * (10 : Nat) ∧ flat (ts ++ [tE (vs.getD (i * (9 : Nat) + (2 : Nat)) (FV.b false)).asI]) = flat ts' ∧ ts.length + (1 : Nat) ≤ (60 : Nat) ∧ waitI ts' = (-1 : Int) := by first | omega | assumption | rfl | ((repeat' with_reducible apply And.intro) <;> first | rfl | assumption | omega)) : roundK Try.prog ((S6e FEdgN (FREN ts) FWtN (FWan ts')).on [(55, true), (84, false), (102, true), (122, false), (126, false), (132, false)]) noL Try.f6.ntmps 1 (loopOf Try.f6 0) live6 [.bool false, pt 1, pt 3, sl 0 n 2, w63 n, w63 i] [opsB n vs, PBe 2 w now t (.pointer none), eB true xs, DBe 4 w ts.length cc, rowA true ts.length (flat ts)] on out =
     (on [Value.bool false, Value.pointer (some (Addr.mk (1 : Nat) (0 : Nat) none)), Value.pointer (some (Addr.mk (3 : Nat) (0 : Nat) none)), Value.slice (some (Addr.mk (0 : Nat) (0 : Nat) none)) n (2 :
     Nat), Value.int IntKind.i64 (↑n : Int), Value.int IntKind.i64 ((↑i : Int) + (1 : Int))] [some (Blk.mk false (9 : Nat) [Seg.any (n * (9 : Nat)) vs]), some (Blk.mk true (5 : Nat) [Seg.vals
     [Value.pointer (some (Addr.mk (2 : Nat) (0 : Nat) none))], Seg.ints IntKind.i64 (2 : Nat) [w, (vs.getD (i * (9 : Nat) + (2 : Nat)) (FV.b false)).asI], Seg.vals [Value.bool false, Value.pointer
     none]]), some (Blk.mk true (9 : Nat) [Seg.ints IntKind.i64 (9 : Nat) (pushR xs (vs.getD (i * (9 : Nat) + (2 : Nat)) (FV.b false)).asI)]), some (Blk.mk true (2 : Nat) [Seg.ints IntKind.i64 (1 : Nat)
     [w], Seg.vals [Value.slice (some (Addr.mk (4 : Nat) (0 : Nat) none)) (ts.length + (1 : Nat)) (1 : Nat)]]), some (Blk.mk true (10 : Nat) [Seg.any ((ts.length + (1 : Nat)) * (10 : Nat)) (flat (ts ++ [tE
     (vs.getD (i * (9 : Nat) + (2 : Nat)) (FV.b false)).asI]))])]) :=
  Eq.trans (b :=
     bif decide ((↑i : Int) < (↑n : Int)) then bif decide ((0 : Int) ≤ (↑i : Int)) && decide ((↑i : Int) < (↑n : Int)) then bif ((0 : Nat) + (↑i : Int).toNat * (9 : Nat)).blt (n * (9 : Nat)) then bif
     (vs.getD ((0 : Nat) + (↑i : Int).toNat * (9 : Nat)) (FV.b false)).isB then bif ((0 : Nat) + (↑i : Int).toNat * (9 : Nat) + (1 : Nat)).blt (n * (9 : Nat)) then bif (vs.getD ((0 : Nat) + (↑i :
     Int).toNat * (9 : Nat) + (1 : Nat)) (FV.b false)).isB then bif ((0 : Nat) + (↑i : Int).toNat * (9 : Nat) + (1 : Nat) + (1 : Nat)).blt (n * (9 : Nat)) then bif FV.isI IntKind.i64 (vs.getD ((0 : Nat) +
     (↑i : Int).toNat * (9 : Nat) + (1 : Nat) + (1 : Nat)) (FV.b false)) then bif ((0 : Nat) + (↑i : Int).toNat * (9 : Nat) + (1 : Nat) + (1 : Nat) + (1 : Nat)).blt (n * (9 : Nat)) then bif FV.isI
     IntKind.u8 (vs.getD ((0 : Nat) + (↑i : Int).toNat * (9 : Nat) + (1 : Nat) + (1 : Nat) + (1 : Nat)) (FV.b false)) then bif ((0 : Nat) + (↑i : Int).toNat * (9 : Nat) + (1 : Nat) + (1 : Nat) + (1 : Nat)
     + (1 : Nat)).blt (n * (9 : Nat)) then bif (vs.getD ((0 : Nat) + (↑i : Int).toNat * (9 : Nat) + (1 : Nat) + (1 : Nat) + (1 : Nat) + (1 : Nat)) (FV.b false)).isB then bif ((0 : Nat) + (↑i : Int).toNat *
     (9 : Nat) + (1 : Nat) + (1 : Nat) + (1 : Nat) + (1 : Nat) + (1 : Nat)).blt (n * (9 : Nat)) then bif FV.isI IntKind.i64 (vs.getD ((0 : Nat) + (↑i : Int).toNat * (9 : Nat) + (1 : Nat) + (1 : Nat) + (1 :
     Nat) + (1 : Nat) + (1 : Nat)) (FV.b false)) then bif ((0 : Nat) + (↑i : Int).toNat * (9 : Nat) + (1 : Nat) + (1 : Nat) + (1 : Nat) + (1 : Nat) + (1 : Nat) + (1 : Nat)).blt (n * (9 : Nat)) then bif
     (vs.getD ((0 : Nat) + (↑i : Int).toNat * (9 : Nat) + (1 : Nat) + (1 : Nat) + (1 : Nat) + (1 : Nat) + (1 : Nat) + (1 : Nat)) (FV.b false)).isB then bif ((0 : Nat) + (↑i : Int).toNat * (9 : Nat) + (1 :
     Nat) + (1 : Nat) + (1 : Nat) + (1 : Nat) + (1 : Nat) + (1 : Nat) + (1 : Nat)).blt (n * (9 : Nat)) then bif FV.isI IntKind.i64 (vs.getD ((0 : Nat) + (↑i : Int).toNat * (9 : Nat) + (1 : Nat) + (1 : Nat)
     + (1 : Nat) + (1 : Nat) + (1 : Nat) + (1 : Nat) + (1 : Nat)) (FV.b false)) then bif ((0 : Nat) + (↑i : Int).toNat * (9 : Nat) + (1 : Nat) + (1 : Nat) + (1 : Nat) + (1 : Nat) + (1 : Nat) + (1 : Nat) +
     (1 : Nat) + (1 : Nat)).blt (n * (9 : Nat)) then bif (vs.getD ((0 : Nat) + (↑i : Int).toNat * (9 : Nat) + (1 : Nat) + (1 : Nat) + (1 : Nat) + (1 : Nat) + (1 : Nat) + (1 : Nat) + (1 : Nat) + (1 : Nat))
     (FV.b false)).isB then bif (vs.getD ((0 : Nat) + (↑i : Int).toNat * (9 : Nat) + (1 : Nat)) (FV.b false)).asB then none else bif (vs.getD ((0 : Nat) + (↑i : Int).toNat * (9 : Nat)) (FV.b false)).asB
     then bif chk (now ≤ (vs.getD ((0 : Nat) + (↑i : Int).toNat * (9 : Nat) + (1 : Nat) + (1 : Nat)) (FV.b false)).asI ∧ (0 : Int) ≤ xs.getD (8 : Nat) (0 : Int) ∧ xs.getD (8 : Nat) (0 : Int) ≤ (1000 : Int)
     ∧ lowB xs (vs.getD ((0 : Nat) + (↑i : Int).toNat * (9 : Nat) + (1 : Nat) + (1 : Nat)) (FV.b false)).asI = false) then bif chk (ts.length = ts.length ∧ ts.length * (10 : Nat) = ts.length * (10 : Nat) ∧
     flat ts = flat ts ∧ ts.length ≤ (60 : Nat) ∧ mayP ts (vs.getD ((0 : Nat) + (↑i : Int).toNat * (9 : Nat) + (1 : Nat) + (1 : Nat)) (FV.b false)).asI ∧ waitI ts = (-1 : Int)) then bif chk (ts.length + (1
     : Nat) = ts'.length ∧ (ts.length + (1 : Nat)) * (10 : Nat) = ts'.length * (10 : Nat) ∧ flat (ts ++ [tE (vs.getD ((0 : Nat) + (↑i : Int).toNat * (9 : Nat) + (1 : Nat) + (1 : Nat)) (FV.b false)).asI]) =
     flat ts' ∧ ts.length + (1 : Nat) ≤ (60 : Nat) ∧ waitI ts' = (-1 : Int)) then on [Value.bool false, Value.pointer (some (Addr.mk (1 : Nat) (0 : Nat) none)), Value.pointer (some (Addr.mk (3 : Nat) (0 :
     Nat) none)), Value.slice (some (Addr.mk (0 : Nat) (0 : Nat) none)) n (2 : Nat), Value.int IntKind.i64 (↑n : Int), Value.int IntKind.i64 (IntKind.i64.wrap ((↑i : Int) + (1 : Int)))] [some (Blk.mk false
     (9 : Nat) [Seg.any (n * (9 : Nat)) vs]), some (Blk.mk true (5 : Nat) [Seg.vals [Value.pointer (some (Addr.mk (2 : Nat) (0 : Nat) none))], Seg.ints IntKind.i64 (2 : Nat) [w, (vs.getD ((0 : Nat) + (↑i :
     Int).toNat * (9 : Nat) + (1 : Nat) + (1 : Nat)) (FV.b false)).asI], Seg.vals [Value.bool false, Value.pointer none]]), some (Blk.mk true (9 : Nat) [Seg.ints IntKind.i64 (9 : Nat) (pushR xs (vs.getD
     ((0 : Nat) + (↑i : Int).toNat * (9 : Nat) + (1 : Nat) + (1 : Nat)) (FV.b false)).asI)]), some (Blk.mk true (2 : Nat) [Seg.ints IntKind.i64 (1 : Nat) [w], Seg.vals [Value.slice (some (Addr.mk (4 : Nat)
     (0 : Nat) none)) (ts.length + (1 : Nat)) (1 : Nat)]]), some (Blk.mk true (10 : Nat) [Seg.any ((ts.length + (1 : Nat)) * (10 : Nat)) (flat (ts ++ [tE (vs.getD ((0 : Nat) + (↑i : Int).toNat * (9 : Nat)
     + (1 : Nat) + (1 : Nat)) (FV.b false)).asI]))])] else none else none else none else none else none else none else none else none else none else none else none else none else none else none else none
     else none else none else none else none else none else none else none else none else none) (by kernel_rfl) (by simp only [-eq_self, Int.toNat_natCast, Nat.zero_add, swrap w1.1 w1.2]; exact (go_t (dec_t h1) (go_t (and_t (dec_t h2) (dec_t h1)) (go_t (blt_t h3) (go_t h4 (go_t (blt_t h5) (go_t h6 (go_t (blt_t h7) (go_t h8 (go_t (blt_t h9) (go_t h10 (go_t (blt_t h11) (go_t h12 (go_t (blt_t h13) (go_t h14 (go_t (blt_t h15) (go_t h16 (go_t (blt_t h17) (go_t h18 (go_t (blt_t h19) (go_t h20 (go_f h21 (go_t h22 (go_t (chk_t h23) (go_t (chk_t h24) (go_t (chk_t h25) rfl))))))))))))))))))))))))))
--CFEND
end Go.Proofs.Ytpidmcpnkfgcjaa.VC
