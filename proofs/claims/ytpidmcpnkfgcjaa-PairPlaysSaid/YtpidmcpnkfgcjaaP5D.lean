/- PairPlays: what it takes of PairOnce (P5, P6); never beside P6. -/
import Derived.Test.YtpidmcpnkfgcjaaP4
import Derived.Test.YtpidmcpnkfgcjaaOY
namespace Go.Proofs.Ytpidmcpnkfgcjaa.VC
open Go Go.Proofs
abbrev opsB (n : Nat) (vs : List FV) : Option Blk := some ⟨false, 9, [.any (n * 9) vs]⟩
abbrev PBe (e : Nat) (w now : Int) (t : Bool) (nx : Value) : Option Blk := some ⟨true, 5, [.vals [pt e], .ints .i64 2 [w, now], .vals [.bool t, nx]]⟩
theorem okNew : EntryOK Try.prog 26 FNew := by
  refine EntryOK.of_paths (fn := Try.f26) follows_ok Try.func26 (by kernel_rfl) (by kernel_rfl) ?_
  intro args h k out hF
  unfold FNew at hF
  split at hF
  · obtain ⟨hb, hF2⟩ := bif_t hF
    have hc := chk_iff.1 hb
    exact ⟨_, _, hF2, fun _ => ⟨_, noL, SpecOK.on (mkS_cons ok11 (mkS_nil _)) _, noL_ok, pNew _⟩⟩
  · cases hF
theorem okNewR : EntryOK Try.prog 26 FNewR := by
  refine EntryOK.of_paths (fn := Try.f26) follows_ok Try.func26 (by kernel_rfl) (by kernel_rfl) ?_
  intro args h k out hF
  unfold FNewR at hF
  split at hF
  · rename_i w
    obtain ⟨hb, hF2⟩ := bif_t hF
    have hc := chk_iff.1 hb
    refine ⟨_, _, hF2, fun _ => ?_⟩
    by_cases c : w < 100000000
    · exact ⟨_, noL, SpecOK.on (mkS_cons ok11 (mkS_nil _)) _, noL_ok, pNewR1 w⟩
    · exact ⟨_, noL, SpecOK.on (mkS_cons ok11 (mkS_nil _)) _, noL_ok, pNewR2 w⟩
  · cases hF
theorem okComeZ : EntryOK Try.prog 52 FComeZ := by
  refine EntryOK.of_paths (fn := Try.f52) follows_ok Try.func52 (by kernel_rfl) (by kernel_rfl) ?_
  intro args h k out hF
  unfold FComeZ at hF
  split at hF
  · exact ⟨_, _, hF, fun _ => ⟨_, noL, mk0, noL_ok, pComeZ _⟩⟩
  · cases hF
theorem okEdgZ : EntryOK Try.prog 28 FEdgZ := by
  refine EntryOK.of_paths (fn := Try.f28) follows_ok Try.func28 (by kernel_rfl) (by kernel_rfl) ?_
  intro args h k out hF
  unfold FEdgZ at hF
  split at hF
  · exact ⟨_, _, hF, fun _ => ⟨_, noL, mkS_cons okComeZ (mkS_nil _), noL_ok, pEdgZ _⟩⟩
  · cases hF
theorem okMsgZ : EntryOK Try.prog 29 FMsgZ := by
  refine EntryOK.of_paths (fn := Try.f29) follows_ok Try.func29 (by kernel_rfl) (by kernel_rfl) ?_
  intro args h k out hF
  unfold FMsgZ at hF
  split at hF
  · exact ⟨_, _, hF, fun _ => ⟨_, noL, mkS_cons okComeZ (mkS_nil _), noL_ok, pMsgZ _ ⟨_, _, _, _, _, _⟩⟩⟩
  · cases hF
theorem okCpyZ : EntryOK Try.prog 27 FCpyZ := by
  refine EntryOK.of_paths (fn := Try.f27) follows_ok Try.func27 (by kernel_rfl) (by kernel_rfl) ?_
  intro args h k out hF
  unfold FCpyZ at hF
  split at hF
  · exact ⟨_, _, hF, fun _ => ⟨_, noL, mk0, noL_ok, pCpyZ⟩⟩
  · cases hF
theorem okWtZ : EntryOK Try.prog 33 FWtZ := by
  refine EntryOK.of_paths (fn := Try.f33) follows_ok Try.func33 (by kernel_rfl) (by kernel_rfl) ?_
  intro args h k out hF
  unfold FWtZ at hF
  split at hF
  · exact ⟨_, _, hF, fun _ => ⟨_, noL, mk0, noL_ok, pWtZ⟩⟩
  · cases hF
theorem okEdgK : EntryOK Try.prog 28 FEdgK := fun args h k out hk => by
  unfold FEdgK at hk
  split at hk
  · exact okEdgN _ _ _ _ hk
  · exact okEdgI _ _ _ _ hk
theorem okMsgK : EntryOK Try.prog 29 FMsgK := fun args h k out hk => by
  unfold FMsgK at hk
  split at hk
  · exact okMsgN _ _ _ _ hk
  · exact okMsgX _ _ _ _ hk
  · exact okMsgP _ _ _ _ hk
def FTrue7 : FSpec := fun args h k => match args, h with
  | [], [] => k (.bool true) []
  | _, _ => none
theorem okKnw7 : EntryOK Try.prog 25 FTrue7 := by
  refine EntryOK.of_paths (fn := Try.f25) follows_ok Try.func25 (by kernel_rfl) (by kernel_rfl) ?_
  intro args h k out hF
  unfold FTrue7 at hF
  split at hF
  · refine ⟨_, _, hF, fun _ => ⟨_, noL, mkS_cons okNew (mkS_cons okEdgK (mkS_cons okMsgK (mkS_nil _))), noL_ok, pPKnw (by decide) (by decide) (by decide) (by decide) (by decide) (by decide)⟩⟩
  · cases hF
theorem lastR_push {xs A : List Int} (h : Ring xs A) (c : Int) : lastR (pushR xs c) = c := by
  have hr := h.push c
  have hn := hr.num
  rw [List.length_append, List.length_singleton] at hn
  unfold lastR
  rw [hn, show ((((A.length + 1 : Nat) : Int) - 1) % 8).toNat = A.length % 8 by omega, hr.kept A.length (by rw [List.length_append, List.length_singleton]; omega) (by rw [List.length_append, List.length_singleton]; omega), getD_app, if_neg (by omega), if_pos rfl]
theorem low_of {xs A : List Int} (h : Ring xs A) {c : Int} (h0 : 0 ≤ c) (h1 : A ≠ [] → lastR xs ≤ c) : lowB xs c = false := by
  unfold lowB
  rw [dec_f (by omega), Bool.false_or]
  by_cases hA : A = []
  · subst hA
    rw [eqb_t (show xs.getD 8 0 = 0 from h.num)]; rfl
  · have := h1 hA
    unfold lastR at this
    rw [dec_f (show ¬ c < xs.getD ((xs.getD 8 0 - 1) % 8).toNat 0 by omega)]
    exact Bool.and_false _
/-- An operation's kinds. -/
abbrev opK' : List CK := [.b, .b, .i .i64, .i .u8, .b, .i .i64, .b, .i .i64, .b]
theorem FV.mem {vs : List FV} {j : Nat} {k : IntKind} (h : FV.isI k (vs.getD j (FV.b false)) = true) : vs.getD j (FV.b false) ∈ vs := by
  rw [List.getD_eq_getElem?_getD] at h ⊢
  cases hx : vs[j]? with
  | none => rw [hx] at h; cases h
  | some x => exact List.mem_of_getElem? hx
theorem FV.rng {f : FV} {k : IntKind} (h : f.ok) (hk : FV.isI k f = true) : k.min ≤ f.asI ∧ f.asI ≤ k.max := by
  cases f with
  | i k' x =>
    have e : k = k' := by simpa [FV.isI] using hk
    subst e; exact h
  | b x => cases hk
  | s x => cases hk
end Go.Proofs.Ytpidmcpnkfgcjaa.VC
