/- pair: the entries (printed by gen/p2.py). -/
import Derived.Test.YtpidmcpnkfgcjaaP2
namespace Go.Proofs.Ytpidmcpnkfgcjaa.VC
open Go Go.Proofs

theorem okComeT : EntryOK Try.prog 52 FComeT := by
  refine EntryOK.of_paths (fn := Try.f52) follows_ok Try.func52 (by kernel_rfl) (by kernel_rfl) ?_
  intro args h k out hF
  unfold FComeT at hF
  split at hF
  · rename_i c w now t xs
    obtain ⟨hb, hF2⟩ := bif_t hF
    have hc := chk_iff.1 hb
    refine ⟨_, _, hF2, fun real => ?_⟩
    have hr : c ≤ 9223372036854775807 := (real.int (i := 1) rfl).2
    exact ⟨_, noL, mk0.on _, noL_ok, pComeN c w now t xs⟩
  · rename_i c w now t xs a kd u s l cy n
    obtain ⟨hb, hF2⟩ := bif_t hF
    have hc := chk_iff.1 hb
    refine ⟨_, _, hF2, fun real => ?_⟩
    have hr : c ≤ 9223372036854775807 := (real.int (i := 1) rfl).2
    exact ⟨_, noL, mk0.on _, noL_ok, pComeS c w now a t ⟨kd, u, s, l, cy, n⟩ xs⟩
  · cases hF
theorem okComeF : EntryOK Try.prog 52 FComeF := by
  refine EntryOK.of_paths (fn := Try.f52) follows_ok Try.func52 (by kernel_rfl) (by kernel_rfl) ?_
  intro args h k out hF
  unfold FComeF at hF
  split at hF
  · rename_i c w now t xs
    obtain ⟨hb, hF2⟩ := bif_t hF
    have hc := chk_iff.1 hb
    refine ⟨_, _, hF2, fun real => ?_⟩
    have hr : c ≤ 9223372036854775807 := (real.int (i := 1) rfl).2
    exact ⟨_, noL, mk0.on _, noL_ok, pComeRN c w now t xs⟩
  · rename_i c w now t xs a kd u s l cy n
    obtain ⟨hb, hF2⟩ := bif_t hF
    have hc := chk_iff.1 hb
    refine ⟨_, _, hF2, fun real => ?_⟩
    have hr : c ≤ 9223372036854775807 := (real.int (i := 1) rfl).2
    exact ⟨_, noL, mk0.on _, noL_ok, pComeRS c w now a t ⟨kd, u, s, l, cy, n⟩ xs⟩
  · cases hF
theorem SPT_ok : SpecOK Try.prog SPT := mkS_cons okComeT (mkS_cons ok13a (mkS_cons ok16l (mkS_cons ok18 (mkS_nil _))))
theorem SPTn_ok : SpecOK Try.prog SPTn := mkS_cons okComeT (mkS_cons ok16z (mkS_nil _))
theorem SPF_ok : SpecOK Try.prog SPF := mkS_cons okComeF (mkS_nil _)
theorem okEdgR : EntryOK Try.prog 28 FEdgR := by
  refine EntryOK.of_paths (fn := Try.f28) follows_ok Try.func28 (by kernel_rfl) (by kernel_rfl) ?_
  intro args h k out hF
  unfold FEdgR at hF
  split at hF
  · rename_i c w now t xs
    obtain ⟨hb, hF2⟩ := bif_t hF
    have hc := chk_iff.1 hb
    refine ⟨_, _, hF2, fun real => ?_⟩
    have hr : c ≤ 9223372036854775807 := (real.int (i := 1) rfl).2
    exact ⟨_, noL, SPF_ok.on _, noL_ok, pEdgRN c w now t xs⟩
  · rename_i c w now t xs a kd u s l cy n
    obtain ⟨hb, hF2⟩ := bif_t hF
    have hc := chk_iff.1 hb
    refine ⟨_, _, hF2, fun real => ?_⟩
    have hr : c ≤ 9223372036854775807 := (real.int (i := 1) rfl).2
    exact ⟨_, noL, SPF_ok.on _, noL_ok, pEdgRS c w now a t ⟨kd, u, s, l, cy, n⟩ xs⟩
  · cases hF
theorem okEdgN : EntryOK Try.prog 28 FEdgN := by
  refine EntryOK.of_paths (fn := Try.f28) follows_ok Try.func28 (by kernel_rfl) (by kernel_rfl) ?_
  intro args h k out hF
  unfold FEdgN at hF
  split at hF
  · rename_i c w now t xs
    obtain ⟨hb, hF2⟩ := bif_t hF
    have hc := chk_iff.1 hb
    refine ⟨_, _, hF2, fun real => ?_⟩
    have hr : c ≤ 9223372036854775807 := (real.int (i := 1) rfl).2
    have hq : 0 ≤ xs.getD 8 0 ∧ xs.getD 8 0 ≤ 1000 ∧ lowB xs c = false := ⟨hc.2.1, hc.2.2.1, hc.2.2.2⟩
    exact ⟨_, noL, SPT_ok.on _, noL_ok, pEdgN c w now t xs⟩
  · cases hF
theorem okEdgO : EntryOK Try.prog 28 FEdgO := by
  refine EntryOK.of_paths (fn := Try.f28) follows_ok Try.func28 (by kernel_rfl) (by kernel_rfl) ?_
  intro args h k out hF
  unfold FEdgO at hF
  split at hF
  · rename_i c w now t xs a kd u s l cy n
    obtain ⟨hb, hF2⟩ := bif_t hF
    have hc := chk_iff.1 hb
    refine ⟨_, _, hF2, fun real => ?_⟩
    have hr : c ≤ 9223372036854775807 := (real.int (i := 1) rfl).2
    obtain ⟨q1, q2, q2b, q3, q4, q5, q6⟩ := hc
    have hq : 0 ≤ xs.getD 8 0 ∧ xs.getD 8 0 ≤ 1000 ∧ lowB xs c = false := ⟨q2, q2b, q3⟩
    exact ⟨_, noL, SPT_ok.on _, noL_ok, (pEdgO c w now a t ⟨kd, u, s, l, cy, n⟩ xs).trans (by rw [dec_f (by omega)])⟩
  · cases hF
theorem okEdgI : EntryOK Try.prog 28 FEdgI := by
  refine EntryOK.of_paths (fn := Try.f28) follows_ok Try.func28 (by kernel_rfl) (by kernel_rfl) ?_
  intro args h k out hF
  unfold FEdgI at hF
  split at hF
  · rename_i c w now t xs a kd u s l cy n
    obtain ⟨hb, hF2⟩ := bif_t hF
    have hc := chk_iff.1 hb
    refine ⟨_, _, hF2, fun real => ?_⟩
    have hr : c ≤ 9223372036854775807 := (real.int (i := 1) rfl).2
    obtain ⟨q1, q2, q2b, q3, q4, q5, q6⟩ := hc
    have hq : 0 ≤ xs.getD 8 0 ∧ xs.getD 8 0 ≤ 1000 ∧ lowB xs c = false := ⟨q2, q2b, q3⟩
    exact ⟨_, noL, SPT_ok.on _, noL_ok, (pEdgI c w now a t ⟨kd, u, s, l, cy, n⟩ xs).trans (by rw [dec_t q6])⟩
  · cases hF
theorem okMsgR : EntryOK Try.prog 29 FMsgR := by
  refine EntryOK.of_paths (fn := Try.f29) follows_ok Try.func29 (by kernel_rfl) (by kernel_rfl) ?_
  intro args h k out hF
  unfold FMsgR at hF
  split at hF
  · rename_i c xk xu xs' xl xc xn w now t xs
    obtain ⟨hb, hF2⟩ := bif_t hF
    have hc := chk_iff.1 hb
    refine ⟨_, _, hF2, fun real => ?_⟩
    have hr : c ≤ 9223372036854775807 := (real.int (i := 1) rfl).2
    exact ⟨_, noL, SPF_ok.on _, noL_ok, pMsgRN c w now t xs ⟨xk, xu, xs', xl, xc, xn⟩⟩
  · rename_i c xk xu xs' xl xc xn w now t xs a kd u s l cy n
    obtain ⟨hb, hF2⟩ := bif_t hF
    have hc := chk_iff.1 hb
    refine ⟨_, _, hF2, fun real => ?_⟩
    have hr : c ≤ 9223372036854775807 := (real.int (i := 1) rfl).2
    exact ⟨_, noL, SPF_ok.on _, noL_ok, pMsgRS c w now a t ⟨kd, u, s, l, cy, n⟩ xs ⟨xk, xu, xs', xl, xc, xn⟩⟩
  · cases hF
theorem okMsgN : EntryOK Try.prog 29 FMsgN := by
  refine EntryOK.of_paths (fn := Try.f29) follows_ok Try.func29 (by kernel_rfl) (by kernel_rfl) ?_
  intro args h k out hF
  unfold FMsgN at hF
  split at hF
  · rename_i c xk xu xs' xl xc xn w now t xs
    obtain ⟨hb, hF2⟩ := bif_t hF
    have hc := chk_iff.1 hb
    refine ⟨_, _, hF2, fun real => ?_⟩
    have hr : c ≤ 9223372036854775807 := (real.int (i := 1) rfl).2
    have h2 := hc.2
    exact ⟨_, noL, SPT_ok.on _, noL_ok, pMsgNN c w now t xs ⟨xk, xu, xs', xl, xc, xn⟩⟩
  · rename_i c xk xu xs' xl xc xn w now t xs a kd u s l cy n
    obtain ⟨hb, hF2⟩ := bif_t hF
    have hc := chk_iff.1 hb
    refine ⟨_, _, hF2, fun real => ?_⟩
    have hr : c ≤ 9223372036854775807 := (real.int (i := 1) rfl).2
    have h2 := hc.2
    exact ⟨_, noL, SPT_ok.on _, noL_ok, pMsgNS c w now a t ⟨kd, u, s, l, cy, n⟩ xs ⟨xk, xu, xs', xl, xc, xn⟩⟩
  · cases hF
theorem okMsgX : EntryOK Try.prog 29 FMsgX := by
  refine EntryOK.of_paths (fn := Try.f29) follows_ok Try.func29 (by kernel_rfl) (by kernel_rfl) ?_
  intro args h k out hF
  unfold FMsgX at hF
  split at hF
  · rename_i c xk xu xs' xl xc xn w now t xs
    obtain ⟨hb, hF2⟩ := bif_t hF
    have hc := chk_iff.1 hb
    refine ⟨_, _, hF2, fun real => ?_⟩
    have hr : c ≤ 9223372036854775807 := (real.int (i := 1) rfl).2
    obtain ⟨q1, q2, q3, q4, q5, q6, q6b, q7, q8⟩ := hc
    by_cases c0 : xs.getD 8 0 = 0
    · exact ⟨_, noL, SPTn_ok.on _, noL_ok, pMsgX0N c w now t xs ⟨xk, xu, xs', xl, xc, xn⟩⟩
    · have hn : 1 ≤ xs.getD 8 0 ∧ xs.getD 8 0 ≤ 1000 := by omega
      have hl := q7.resolve_left c0
      cases t with
      | true => exact ⟨_, noL, SPT_ok.on _, noL_ok, pMsgX1N c w now true xs ⟨xk, xu, xs', xl, xc, xn⟩⟩
      | false =>
        by_cases c2 : w < c - lastR xs
        · exact ⟨_, noL, SPT_ok.on _, noL_ok, pMsgX2N c w now false xs ⟨xk, xu, xs', xl, xc, xn⟩⟩
        · have h7 : cnt (allX xs) (c - w) c ≠ 1 := by
            rcases q8 with q | q | q | q
            · exact (c0 q).elim
            · cases q
            · exact (c2 q).elim
            · exact q
          exact ⟨_, noL, SPT_ok.on _, noL_ok, pMsgX3N c w now false xs ⟨xk, xu, xs', xl, xc, xn⟩ (h7 := by omega)⟩
  · rename_i c xk xu xs' xl xc xn w now t xs a kd u s l cy n
    obtain ⟨hb, hF2⟩ := bif_t hF
    have hc := chk_iff.1 hb
    refine ⟨_, _, hF2, fun real => ?_⟩
    have hr : c ≤ 9223372036854775807 := (real.int (i := 1) rfl).2
    obtain ⟨q1, q2, q3, q4, q5, q6, q6b, q7, q8⟩ := hc
    by_cases c0 : xs.getD 8 0 = 0
    · exact ⟨_, noL, SPTn_ok.on _, noL_ok, pMsgX0S c w now a t ⟨kd, u, s, l, cy, n⟩ xs ⟨xk, xu, xs', xl, xc, xn⟩⟩
    · have hn : 1 ≤ xs.getD 8 0 ∧ xs.getD 8 0 ≤ 1000 := by omega
      have hl := q7.resolve_left c0
      cases t with
      | true => exact ⟨_, noL, SPT_ok.on _, noL_ok, pMsgX1S c w now a true ⟨kd, u, s, l, cy, n⟩ xs ⟨xk, xu, xs', xl, xc, xn⟩⟩
      | false =>
        by_cases c2 : w < c - lastR xs
        · exact ⟨_, noL, SPT_ok.on _, noL_ok, pMsgX2S c w now a false ⟨kd, u, s, l, cy, n⟩ xs ⟨xk, xu, xs', xl, xc, xn⟩⟩
        · have h7 : cnt (allX xs) (c - w) c ≠ 1 := by
            rcases q8 with q | q | q | q
            · exact (c0 q).elim
            · cases q
            · exact (c2 q).elim
            · exact q
          exact ⟨_, noL, SPT_ok.on _, noL_ok, pMsgX3S c w now a false ⟨kd, u, s, l, cy, n⟩ xs ⟨xk, xu, xs', xl, xc, xn⟩ (h7 := by omega)⟩
  · cases hF
theorem okMsgP : EntryOK Try.prog 29 FMsgP := by
  refine EntryOK.of_paths (fn := Try.f29) follows_ok Try.func29 (by kernel_rfl) (by kernel_rfl) ?_
  intro args h k out hF
  unfold FMsgP at hF
  split at hF
  · rename_i c xk xu xs' xl xc xn w now t xs
    obtain ⟨hb, hF2⟩ := bif_t hF
    have hc := chk_iff.1 hb
    refine ⟨_, _, hF2, fun real => ?_⟩
    have hr : c ≤ 9223372036854775807 := (real.int (i := 1) rfl).2
    obtain ⟨q1, q2, q3, q4, q5, q6, q6b, q7, q8, q9, q10, q11⟩ := hc
    have hn : 1 ≤ xs.getD 8 0 ∧ xs.getD 8 0 ≤ 1000 := by omega
    have hl := q7.resolve_left q8
    exact ⟨_, noL, SPT_ok.on _, noL_ok, pMsgPN c w now t xs ⟨xk, xu, xs', xl, xc, xn⟩ (h7 := by omega)⟩
  · rename_i c xk xu xs' xl xc xn w now t xs a kd u s l cy n
    obtain ⟨hb, hF2⟩ := bif_t hF
    have hc := chk_iff.1 hb
    refine ⟨_, _, hF2, fun real => ?_⟩
    have hr : c ≤ 9223372036854775807 := (real.int (i := 1) rfl).2
    obtain ⟨q1, q2, q3, q4, q5, q6, q6b, q7, q8, q9, q10, q11⟩ := hc
    have hn : 1 ≤ xs.getD 8 0 ∧ xs.getD 8 0 ≤ 1000 := by omega
    have hl := q7.resolve_left q8
    exact ⟨_, noL, SPT_ok.on _, noL_ok, pMsgPS c w now a t ⟨kd, u, s, l, cy, n⟩ xs ⟨xk, xu, xs', xl, xc, xn⟩ (h7 := by omega)⟩
  · cases hF
end Go.Proofs.Ytpidmcpnkfgcjaa.VC
