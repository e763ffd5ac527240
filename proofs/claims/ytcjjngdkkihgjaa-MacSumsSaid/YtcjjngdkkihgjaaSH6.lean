/- SHA-256: a block's turn, whole. -/
import Derived.Test.YtcjjngdkkihgjaaSH5
namespace Go.Proofs.Ytcjjngdkkihgjaa.VC
open Go Go.Proofs

def addL (S n : List Int) : List Int := (List.range 8).map fun j => w32 (n.getD j 0 + S.getD j 0)
theorem w32_of {n : Nat} {S : List Int} (h : segOK (.ints .u32 n S)) : S.length = n ∧ ∀ x ∈ S, W32 x := ⟨h.1, fun x hx => by
  have e : IntKind.u32.max = 4294967295 := by decide
  have h1 := (h.2 x hx).1
  have h2 := e ▸ (h.2 x hx).2
  exact ⟨h1, by omega⟩⟩
noncomputable def L72f : LF := fun vs h k => match vs, h with
  | [.int .i64 0, .pointer (some ⟨1, 0, none⟩), .pointer (some ⟨2, 0, none⟩), .pointer (some ⟨3, 0, none⟩), .pointer (some ⟨4, 0, none⟩), .pointer (some ⟨5, 0, none⟩)],
    [some ⟨false, 1, [.ints .u8 N B]⟩, some ⟨true, 8, [.ints .u32 8 S]⟩, some ⟨true, 8, [.ints .u32 8 Z]⟩, some ⟨true, 64, [.ints .u32 64 w]⟩, some ⟨true, 64, [.ints .u32 64 kk]⟩, some ⟨true, 8, [.ints .u32 8 n]⟩] =>
    k (.exit 0) [w63 64, pt 1, pt 2, pt 3, pt 4, pt 5] [rU N B, oW 8 S, oW 8 Z, oW 64 w, oW 64 kk, oW 8 (lst 8 (rnds w kk 64 0 n))]
  | _, _ => none
noncomputable def L72bf : LF := fun vs h k => match vs, h with
  | [.int .i64 0, .pointer (some ⟨1, 0, none⟩), .pointer (some ⟨2, 0, none⟩), .pointer (some ⟨3, 0, none⟩)],
    [some ⟨false, 1, [.ints .u8 N B]⟩, some ⟨true, 8, [.ints .u32 8 S]⟩, some ⟨true, 8, [.ints .u32 8 Z]⟩, some ⟨true, 8, [.ints .u32 8 n]⟩] =>
    k (.exit 2) [w63 8, pt 1, pt 2, pt 3] [rU N B, oW 8 S, oW 8 Z, oW 8 (addL S n)]
  | _, _ => none
theorem loopOK72 : LoopOK Try.prog Try.f72.ntmps 1 (loopOf Try.f72 0) live72 L72f := by
  refine LoopOK.of_T ?_
  intro vs h k out hk
  unfold L72f at hk
  split at hk
  · refine ⟨_, _, _, hk, fun real => ?_⟩
    obtain ⟨h1, h2⟩ := w32_of ((real.segs (i := 5) rfl) _ (List.mem_cons_self ..))
    rw [lst_eq (rnds_ok _ _ 64 0 _ h1 h2).1]
    exact loop72 _ _ _ _ _ _ 64 0 _ rfl h1 h2
  · cases hk
theorem loopOK72b : LoopOK Try.prog Try.f72.ntmps 1 (loopOf Try.f72 1) live72b L72bf := by
  refine LoopOK.of_rounds mk0 follows_ok (L := noL) noL_ok ?_
  intro vs h k out hk
  unfold L72bf at hk
  split at hk
  · refine ⟨_, _, _, hk, fun real => ?_⟩
    obtain ⟨h1, _⟩ := w32_of ((real.segs (i := 1) rfl) _ (List.mem_cons_self ..))
    obtain ⟨h2, _⟩ := w32_of ((real.segs (i := 3) rfl) _ (List.mem_cons_self ..))
    obtain ⟨s, t, u, v, w, x, y, z, rfl⟩ := len8 h1
    obtain ⟨a, b, c, d, e, f, g, i, rfl⟩ := len8 h2
    refine ⟨9, ?_⟩
    rw [p72b]
    simp only [wrap_u32]
    rfl
  · cases hk
noncomputable def L72 : LSpec := manyL [(3, live72, L72f), (13, live72b, L72bf)]
theorem loops72 : LoopsOK Try.prog L72 Try.f72.ntmps 1 (bodyOf Try.f72) :=
  LsOK.all (bs := [loopOf Try.f72 0, loopOf Try.f72 1]) (by kernel_rfl) (LsOK.cons (by kernel_rfl) loopOK72 (LsOK.cons (by kernel_rfl) loopOK72b LsOK.nil))
noncomputable def FRds : FSpec := fun args h k => match args, h with
  | [], [] => k (aggW 64 kC) []
  | _, _ => none
theorem okRds : EntryOK Try.prog 103 FRds := by
  refine EntryOK.of_paths (fn := Try.f103) follows_ok Try.func103 (by kernel_rfl) (by kernel_rfl) ?_
  intro args h k out hF
  unfold FRds at hF
  split at hF
  · exact ⟨_, _, hF, fun _ => ⟨mkS [], noL, mk0, noL_ok, cRds⟩⟩
  · cases hF
noncomputable def FSta : FSpec := fun args h k => match args, h with
  | [], [] => k (aggW 8 h0C) []
  | _, _ => none
theorem okSta : EntryOK Try.prog 71 FSta := by
  refine EntryOK.of_paths (fn := Try.f71) follows_ok Try.func71 (by kernel_rfl) (by kernel_rfl) ?_
  intro args h k out hF
  unfold FSta at hF
  split at hF
  · exact ⟨_, _, hF, fun _ => ⟨mkS [], noL, mk0, noL_ok, cSta⟩⟩
  · cases hF
noncomputable def S72t : Spec := mkS [(102, false, FWds), (103, false, FRds)]
theorem S72t_ok : SpecOK Try.prog S72t := mkS_cons okWds (mkS_cons okRds (mkS_nil _))
theorem cTurn (N o k : Nat) (B : List Int) (a b c d e f g h : Int) : fnK Try.prog S72t L72 Try.f72 [.agg ⟨[w32v a, w32v b, w32v c, w32v d, w32v e, w32v f, w32v g, w32v h]⟩, slV 0 o 64 k] [rU N B] =
    (bif chk (o + 64 ≤ N) then some (Res.ret (aggW 8 (addL [a, b, c, d, e, f, g, h] (lst 8 (rnds (lst 64 (sch B o)) (lst 64 kC) 64 0 [a, b, c, d, e, f, g, h])))) [rU N B]) else none) := by kernel_rfl
theorem kC_len : kC.length = 64 := by kernel_rfl
theorem rndL_len {n : List Int} (hn : n.length = 8) (k w : Int) : (rndL n k w).length = 8 := by
  obtain ⟨a, b, c, d, e, f, g, i, rfl⟩ := len8 hn
  rfl
theorem rnds_len (w kk : List Int) : ∀ (m i : Nat) (n : List Int), n.length = 8 → (rnds w kk m i n).length = 8
  | 0, _, _, h => h
  | m + 1, i, _, h => rnds_len w kk m (i + 1) _ (rndL_len h _ _)
/-- The words behind a block. -/
noncomputable def turnL (B : List Int) (o : Nat) (S : List Int) : List Int := addL S (rnds (sch B o) kC 64 0 S)
/-- The same, whole. -/
noncomputable def turnO (B : List Int) (o : Nat) (S : List Int) : List Int := Classical.choose (⟨turnL B o S, rfl⟩ : ∃ X, X = turnL B o S)
theorem turnO_eq (B : List Int) (o : Nat) (S : List Int) : turnO B o S = turnL B o S := Classical.choose_spec (⟨turnL B o S, rfl⟩ : ∃ X, X = turnL B o S)
theorem turnL_len (B : List Int) (o : Nat) (S : List Int) : (turnL B o S).length = 8 := rfl
theorem turnL_W32 (B : List Int) (o : Nat) (S : List Int) : ∀ x ∈ turnL B o S, W32 x := fun x hx => by
  obtain ⟨j, _, rfl⟩ := List.mem_map.1 hx
  exact W32.w _
noncomputable def FTurn : FSpec := fun args h k => match args, h with
  | [.agg ⟨[.int .u32 a, .int .u32 b, .int .u32 c, .int .u32 d, .int .u32 e, .int .u32 f, .int .u32 g, .int .u32 i]⟩, .slice (some ⟨0, o, none⟩) m _], [some ⟨false, 1, [.ints .u8 N B]⟩] =>
    bif chk (m = 64 ∧ o + 64 ≤ N) then k (aggW 8 (turnO B o [a, b, c, d, e, f, g, i])) [rU N B] else none
  | _, _ => none
theorem okTurn : EntryOK Try.prog 72 FTurn := by
  refine EntryOK.of_paths (fn := Try.f72) follows_ok Try.func72 (by kernel_rfl) (by kernel_rfl) ?_
  intro args h k out hF
  unfold FTurn at hF
  split at hF
  · obtain ⟨hb, hF2⟩ := bif_t hF
    obtain ⟨rfl, h1⟩ := chk_iff.1 hb
    refine ⟨_, _, hF2, fun _ => ⟨S72t, L72, S72t_ok, loops72, ?_⟩⟩
    rw [turnO_eq, cTurn, chk_iff.2 h1, lst_eq (sch_len _ _), lst_eq kC_len, lst_eq (rnds_len _ _ 64 0 _ rfl)]
    rfl
  · cases hF
end Go.Proofs.Ytcjjngdkkihgjaa.VC
