/- PairPlays: what waits, the last edge, the edges that are kept. -/
import Derived.Test.YtpidmcpnkfgcjaaP8
namespace Go.Proofs.Ytpidmcpnkfgcjaa.VC
open Go Go.Proofs

noncomputable def L34a (ts : List Th) : LF := fun vs h k => match vs, h with
  | [.int .i64 0, .pointer (some ⟨0, 0, none⟩), .int .i64 i], [some ⟨false, 2, [.ints .i64 1 [w], .vals [.slice (some ⟨1, 0, none⟩) n cc]]⟩, some ⟨false, 10, [.any N vs]⟩] =>
    bif chk (i = (ts.length : Int) - 1 ∧ n = ts.length ∧ N = ts.length * 10 ∧ vs = flat ts ∧ n ≤ 60 ∧ fdn pW ts ts.length = none) then
      k (.exit 0) [w63 0, pt 0, w63 (-1)] (dH false w ts cc) else none
  | _, _ => none
noncomputable def L34b (ts : List Th) (j : Nat) : LF := fun vs h k => match vs, h with
  | [.int .i64 0, .pointer (some ⟨0, 0, none⟩), .int .i64 i], [some ⟨false, 2, [.ints .i64 1 [w], .vals [.slice (some ⟨1, 0, none⟩) n cc]]⟩, some ⟨false, 10, [.any N vs]⟩] =>
    bif chk (i = (ts.length : Int) - 1 ∧ n = ts.length ∧ N = ts.length * 10 ∧ vs = flat ts ∧ n ≤ 60 ∧ fdn pW ts ts.length = some j) then
      k .ret [w63 (bif (ts.getD j th0).g then -1 else (j : Int)), pt 0, w63 j] (dH false w ts cc) else none
  | _, _ => none
noncomputable def L55a (ts : List Th) : LF := fun vs h k => match vs, h with
  | [.int .i64 0, .pointer (some ⟨0, 0, none⟩), .int .i64 i], [some ⟨false, 2, [.ints .i64 1 [w], .vals [.slice (some ⟨1, 0, none⟩) n cc]]⟩, some ⟨false, 10, [.any N vs]⟩] =>
    bif chk (i = (ts.length : Int) - 1 ∧ n = ts.length ∧ N = ts.length * 10 ∧ vs = flat ts ∧ n ≤ 60 ∧ fdn pE ts ts.length = none) then
      k (.exit 0) [w63 0, pt 0, w63 (-1)] (dH false w ts cc) else none
  | _, _ => none
noncomputable def L55b (ts : List Th) (j : Nat) : LF := fun vs h k => match vs, h with
  | [.int .i64 0, .pointer (some ⟨0, 0, none⟩), .int .i64 i], [some ⟨false, 2, [.ints .i64 1 [w], .vals [.slice (some ⟨1, 0, none⟩) n cc]]⟩, some ⟨false, 10, [.any N vs]⟩] =>
    bif chk (i = (ts.length : Int) - 1 ∧ n = ts.length ∧ N = ts.length * 10 ∧ vs = flat ts ∧ n ≤ 60 ∧ fdn pE ts ts.length = some j) then
      k .ret [w63 j, pt 0, w63 j] (dH false w ts cc) else none
  | _, _ => none
theorem loopOK34a (ts : List Th) : LoopOK Try.prog Try.f34.ntmps 2 (loopOf Try.f34 0) live34 (L34a ts) := by
  refine LoopOK.of_T ?_
  intro vs h k out hk
  unfold L34a at hk
  split at hk
  · rename_i i w n cc N vs
    obtain ⟨hb, hk2⟩ := bif_t hk
    obtain ⟨rfl, rfl, rfl, rfl, h5, h6⟩ := chk_iff.1 hb
    refine ⟨_, _, _, hk2, fun _ => ?_⟩
    have := loop34 (cc := cc) (w := w) h5 ts.length (Nat.le_refl _)
    rw [h6] at this
    exact this
  · cases hk
theorem loopOK34b (ts : List Th) (j : Nat) : LoopOK Try.prog Try.f34.ntmps 2 (loopOf Try.f34 0) live34 (L34b ts j) := by
  refine LoopOK.of_T ?_
  intro vs h k out hk
  unfold L34b at hk
  split at hk
  · rename_i i w n cc N vs
    obtain ⟨hb, hk2⟩ := bif_t hk
    obtain ⟨rfl, rfl, rfl, rfl, h5, h6⟩ := chk_iff.1 hb
    refine ⟨_, _, _, hk2, fun _ => ?_⟩
    have := loop34 (cc := cc) (w := w) h5 ts.length (Nat.le_refl _)
    rw [h6] at this
    exact this
  · cases hk
theorem loopOK55a (ts : List Th) : LoopOK Try.prog Try.f55.ntmps 2 (loopOf Try.f55 0) live55 (L55a ts) := by
  refine LoopOK.of_T ?_
  intro vs h k out hk
  unfold L55a at hk
  split at hk
  · rename_i i w n cc N vs
    obtain ⟨hb, hk2⟩ := bif_t hk
    obtain ⟨rfl, rfl, rfl, rfl, h5, h6⟩ := chk_iff.1 hb
    refine ⟨_, _, _, hk2, fun _ => ?_⟩
    have := loop55 (cc := cc) (w := w) h5 ts.length (Nat.le_refl _)
    rw [h6] at this
    exact this
  · cases hk
theorem loopOK55b (ts : List Th) (j : Nat) : LoopOK Try.prog Try.f55.ntmps 2 (loopOf Try.f55 0) live55 (L55b ts j) := by
  refine LoopOK.of_T ?_
  intro vs h k out hk
  unfold L55b at hk
  split at hk
  · rename_i i w n cc N vs
    obtain ⟨hb, hk2⟩ := bif_t hk
    obtain ⟨rfl, rfl, rfl, rfl, h5, h6⟩ := chk_iff.1 hb
    refine ⟨_, _, _, hk2, fun _ => ?_⟩
    have := loop55 (cc := cc) (w := w) h5 ts.length (Nat.le_refl _)
    rw [h6] at this
    exact this
  · cases hk
noncomputable def L34aS (ts : List Th) : LSpec := oneL 2 live34 (L34a ts)
noncomputable def L34bS (ts : List Th) (j : Nat) : LSpec := oneL 2 live34 (L34b ts j)
noncomputable def L55aS (ts : List Th) : LSpec := oneL 2 live55 (L55a ts)
noncomputable def L55bS (ts : List Th) (j : Nat) : LSpec := oneL 2 live55 (L55b ts j)
--CP pWai (w : Int) (cc : Nat) (ts : List Th) :: fnK Try.prog (mkS []) (L34aS ts) Try.f34 [pt 0] (dH false w ts cc)
theorem pWai (w : Int) (cc : Nat) (ts : List Th)
    (w1 : -9223372036854775808 ≤ (↑ts.length : Int) - (1 : Int) ∧ (↑ts.length : Int) - (1 : Int) ≤ 9223372036854775807 := by omega)
    (h1 : (↑ts.length : Int) - (1 : Int) = (↑ts.length : Int) - (1 : Int) ∧ ts.length = ts.length ∧ ts.length * (10 : Nat) = ts.length * (10 : Nat) ∧ flat ts = flat ts ∧ ts.length ≤ (60 : Nat) ∧ fdn pW ts ts.length = none := by first | omega | assumption | rfl | ((repeat' with_reducible apply And.intro) <;> first | rfl | assumption | omega)) : fnK Try.prog (mkS []) (L34aS ts) Try.f34 [pt 0] (dH false w ts cc) =
     (some (Res.ret (Value.int IntKind.i64 (-1 : Int)) [some (Blk.mk false (2 : Nat) [Seg.ints IntKind.i64 (1 : Nat) [w], Seg.vals [Value.slice (some (Addr.mk (1 : Nat) (0 : Nat) none)) ts.length cc]]),
     some (Blk.mk false (10 : Nat) [Seg.any (ts.length * (10 : Nat)) (flat ts)])])) :=
  Eq.trans (b :=
     bif chk (IntKind.i64.wrap ((↑ts.length : Int) - (1 : Int)) = (↑ts.length : Int) - (1 : Int) ∧ ts.length = ts.length ∧ ts.length * (10 : Nat) = ts.length * (10 : Nat) ∧ flat ts = flat ts ∧ ts.length ≤
     (60 : Nat) ∧ fdn pW ts ts.length = none) then some (Res.ret (Value.int IntKind.i64 (-1 : Int)) [some (Blk.mk false (2 : Nat) [Seg.ints IntKind.i64 (1 : Nat) [w], Seg.vals [Value.slice (some (Addr.mk
     (1 : Nat) (0 : Nat) none)) ts.length cc]]), some (Blk.mk false (10 : Nat) [Seg.any (ts.length * (10 : Nat)) (flat ts)])]) else none) (by kernel_rfl) (by simp only [-eq_self, swrap w1.1 w1.2]; exact (go_t (chk_t h1) rfl))
--CFEND
--CP pWaj (w : Int) (cc j : Nat) (ts : List Th) :: fnK Try.prog (mkS []) (L34bS ts j) Try.f34 [pt 0] (dH false w ts cc)
theorem pWaj (w : Int) (cc j : Nat) (ts : List Th)
    (w1 : -9223372036854775808 ≤ (↑ts.length : Int) - (1 : Int) ∧ (↑ts.length : Int) - (1 : Int) ≤ 9223372036854775807 := by omega)
    (h1 : (↑ts.length : Int) - (1 : Int) = (↑ts.length : Int) - (1 : Int) ∧ ts.length = ts.length ∧ ts.length * (10 : Nat) = ts.length * (10 : Nat) ∧ flat ts = flat ts ∧ ts.length ≤ (60 : Nat) ∧ fdn pW ts ts.length = some j := by first | omega | assumption | rfl | ((repeat' with_reducible apply And.intro) <;> first | rfl | assumption | omega)) : fnK Try.prog (mkS []) (L34bS ts j) Try.f34 [pt 0] (dH false w ts cc) =
     (some (Res.ret (Value.int IntKind.i64 (bif (ts.getD j th0).g then (-1 : Int) else (↑j : Int))) [some (Blk.mk false (2 : Nat) [Seg.ints IntKind.i64 (1 : Nat) [w], Seg.vals [Value.slice (some (Addr.mk
     (1 : Nat) (0 : Nat) none)) ts.length cc]]), some (Blk.mk false (10 : Nat) [Seg.any (ts.length * (10 : Nat)) (flat ts)])])) :=
  Eq.trans (b :=
     bif chk (IntKind.i64.wrap ((↑ts.length : Int) - (1 : Int)) = (↑ts.length : Int) - (1 : Int) ∧ ts.length = ts.length ∧ ts.length * (10 : Nat) = ts.length * (10 : Nat) ∧ flat ts = flat ts ∧ ts.length ≤
     (60 : Nat) ∧ fdn pW ts ts.length = some j) then some (Res.ret (Value.int IntKind.i64 (bif (ts.getD j th0).g then (-1 : Int) else (↑j : Int))) [some (Blk.mk false (2 : Nat) [Seg.ints IntKind.i64 (1 :
     Nat) [w], Seg.vals [Value.slice (some (Addr.mk (1 : Nat) (0 : Nat) none)) ts.length cc]]), some (Blk.mk false (10 : Nat) [Seg.any (ts.length * (10 : Nat)) (flat ts)])]) else none) (by kernel_rfl) (by simp only [-eq_self, swrap w1.1 w1.2]; exact (go_t (chk_t h1) rfl))
--CFEND
--CP pLai (w : Int) (cc : Nat) (ts : List Th) :: fnK Try.prog (mkS []) (L55aS ts) Try.f55 [pt 0] (dH false w ts cc)
theorem pLai (w : Int) (cc : Nat) (ts : List Th)
    (w1 : -9223372036854775808 ≤ (↑ts.length : Int) - (1 : Int) ∧ (↑ts.length : Int) - (1 : Int) ≤ 9223372036854775807 := by omega)
    (h1 : (↑ts.length : Int) - (1 : Int) = (↑ts.length : Int) - (1 : Int) ∧ ts.length = ts.length ∧ ts.length * (10 : Nat) = ts.length * (10 : Nat) ∧ flat ts = flat ts ∧ ts.length ≤ (60 : Nat) ∧ fdn pE ts ts.length = none := by first | omega | assumption | rfl | ((repeat' with_reducible apply And.intro) <;> first | rfl | assumption | omega)) : fnK Try.prog (mkS []) (L55aS ts) Try.f55 [pt 0] (dH false w ts cc) =
     (some (Res.ret (Value.int IntKind.i64 (-1 : Int)) [some (Blk.mk false (2 : Nat) [Seg.ints IntKind.i64 (1 : Nat) [w], Seg.vals [Value.slice (some (Addr.mk (1 : Nat) (0 : Nat) none)) ts.length cc]]),
     some (Blk.mk false (10 : Nat) [Seg.any (ts.length * (10 : Nat)) (flat ts)])])) :=
  Eq.trans (b :=
     bif chk (IntKind.i64.wrap ((↑ts.length : Int) - (1 : Int)) = (↑ts.length : Int) - (1 : Int) ∧ ts.length = ts.length ∧ ts.length * (10 : Nat) = ts.length * (10 : Nat) ∧ flat ts = flat ts ∧ ts.length ≤
     (60 : Nat) ∧ fdn pE ts ts.length = none) then some (Res.ret (Value.int IntKind.i64 (-1 : Int)) [some (Blk.mk false (2 : Nat) [Seg.ints IntKind.i64 (1 : Nat) [w], Seg.vals [Value.slice (some (Addr.mk
     (1 : Nat) (0 : Nat) none)) ts.length cc]]), some (Blk.mk false (10 : Nat) [Seg.any (ts.length * (10 : Nat)) (flat ts)])]) else none) (by kernel_rfl) (by simp only [-eq_self, swrap w1.1 w1.2]; exact (go_t (chk_t h1) rfl))
--CFEND
--CP pLaj (w : Int) (cc j : Nat) (ts : List Th) :: fnK Try.prog (mkS []) (L55bS ts j) Try.f55 [pt 0] (dH false w ts cc)
theorem pLaj (w : Int) (cc j : Nat) (ts : List Th)
    (w1 : -9223372036854775808 ≤ (↑ts.length : Int) - (1 : Int) ∧ (↑ts.length : Int) - (1 : Int) ≤ 9223372036854775807 := by omega)
    (h1 : (↑ts.length : Int) - (1 : Int) = (↑ts.length : Int) - (1 : Int) ∧ ts.length = ts.length ∧ ts.length * (10 : Nat) = ts.length * (10 : Nat) ∧ flat ts = flat ts ∧ ts.length ≤ (60 : Nat) ∧ fdn pE ts ts.length = some j := by first | omega | assumption | rfl | ((repeat' with_reducible apply And.intro) <;> first | rfl | assumption | omega)) : fnK Try.prog (mkS []) (L55bS ts j) Try.f55 [pt 0] (dH false w ts cc) =
     (some (Res.ret (Value.int IntKind.i64 (↑j : Int)) [some (Blk.mk false (2 : Nat) [Seg.ints IntKind.i64 (1 : Nat) [w], Seg.vals [Value.slice (some (Addr.mk (1 : Nat) (0 : Nat) none)) ts.length cc]]),
     some (Blk.mk false (10 : Nat) [Seg.any (ts.length * (10 : Nat)) (flat ts)])])) :=
  Eq.trans (b :=
     bif chk (IntKind.i64.wrap ((↑ts.length : Int) - (1 : Int)) = (↑ts.length : Int) - (1 : Int) ∧ ts.length = ts.length ∧ ts.length * (10 : Nat) = ts.length * (10 : Nat) ∧ flat ts = flat ts ∧ ts.length ≤
     (60 : Nat) ∧ fdn pE ts ts.length = some j) then some (Res.ret (Value.int IntKind.i64 (↑j : Int)) [some (Blk.mk false (2 : Nat) [Seg.ints IntKind.i64 (1 : Nat) [w], Seg.vals [Value.slice (some (Addr.mk
     (1 : Nat) (0 : Nat) none)) ts.length cc]]), some (Blk.mk false (10 : Nat) [Seg.any (ts.length * (10 : Nat)) (flat ts)])]) else none) (by kernel_rfl) (by simp only [-eq_self, swrap w1.1 w1.2]; exact (go_t (chk_t h1) rfl))
--CFEND
noncomputable def FWai (ts : List Th) : FSpec := fun args h k => match args, h with
  | [.pointer (some ⟨0, 0, none⟩)], [some ⟨false, 2, [.ints .i64 1 [w], .vals [.slice (some ⟨1, 0, none⟩) n cc]]⟩, some ⟨false, 10, [.any N vs]⟩] =>
    bif chk (n = ts.length ∧ N = ts.length * 10 ∧ vs = flat ts ∧ n ≤ 60) then k (w63 (waitI ts)) (dH false w ts cc) else none
  | _, _ => none
noncomputable def FLai (ts : List Th) : FSpec := fun args h k => match args, h with
  | [.pointer (some ⟨0, 0, none⟩)], [some ⟨false, 2, [.ints .i64 1 [w], .vals [.slice (some ⟨1, 0, none⟩) n cc]]⟩, some ⟨false, 10, [.any N vs]⟩] =>
    bif chk (n = ts.length ∧ N = ts.length * 10 ∧ vs = flat ts ∧ n ≤ 60) then k (w63 (lastI ts)) (dH false w ts cc) else none
  | _, _ => none
theorem okWai (ts : List Th) : EntryOK Try.prog 34 (FWai ts) := by
  refine EntryOK.of_paths (fn := Try.f34) follows_ok Try.func34 (by kernel_rfl) (by kernel_rfl) ?_
  intro args h k out hF
  unfold FWai at hF
  split at hF
  · rename_i w n cc N vs
    obtain ⟨hb, hF2⟩ := bif_t hF
    obtain ⟨rfl, rfl, rfl, hn⟩ := chk_iff.1 hb
    refine ⟨_, _, hF2, fun _ => ?_⟩
    cases hf : fdn pW ts ts.length with
    | none =>
      refine ⟨_, L34aS ts, mk0, loops_one rfl (by kernel_rfl) (loopOK34a ts), (pWai w cc ts).trans ?_⟩
      unfold waitI waitO
      rw [hf]
    | some j =>
      refine ⟨_, L34bS ts j, mk0, loops_one rfl (by kernel_rfl) (loopOK34b ts j), (pWaj w cc j ts).trans ?_⟩
      unfold waitI waitO
      rw [hf]
      cases hg : (ts.getD j th0).g <;> simp only [hg, cond_true, cond_false]
  · cases hF
theorem okLai (ts : List Th) : EntryOK Try.prog 55 (FLai ts) := by
  refine EntryOK.of_paths (fn := Try.f55) follows_ok Try.func55 (by kernel_rfl) (by kernel_rfl) ?_
  intro args h k out hF
  unfold FLai at hF
  split at hF
  · rename_i w n cc N vs
    obtain ⟨hb, hF2⟩ := bif_t hF
    obtain ⟨rfl, rfl, rfl, hn⟩ := chk_iff.1 hb
    refine ⟨_, _, hF2, fun _ => ?_⟩
    cases hf : fdn pE ts ts.length with
    | none =>
      refine ⟨_, L55aS ts, mk0, loops_one rfl (by kernel_rfl) (loopOK55a ts), (pLai w cc ts).trans ?_⟩
      unfold lastI
      rw [hf]
    | some j =>
      refine ⟨_, L55bS ts j, mk0, loops_one rfl (by kernel_rfl) (loopOK55b ts j), (pLaj w cc j ts).trans ?_⟩
      unfold lastI
      rw [hf]
  · cases hF
end Go.Proofs.Ytpidmcpnkfgcjaa.VC
