/- ClockHonest: drifts. -/
import Derived.Test.YtfgehfnlkakioaaH2
namespace Go.Proofs.Ytfgehfnlkakioaa.VC
open Go Go.Proofs

theorem S74_ok : SpecOK Try.prog S74 := mkS_cons ok29 (mkS_cons ok32 (mkS_cons ok36 (mkS_cons ok76 (mkS_nil _))))
theorem sgnFl (v : Nat) : sgn false v = (v : Int) := rfl
theorem ok74 : EntryOK Try.prog 74 F74 := by
  refine EntryOK.of_runs Try.func74 (by kernel_rfl) (by kernel_rfl) ?_
  intro args h k out hF
  unfold F74 at hF
  split at hF
  · rename_i tr co rho
    obtain ⟨hb, hF2⟩ := bif_t hF
    simp only [Bool.and_eq_true, decide_eq_true_eq] at hb
    refine ⟨_, _, hF2, fun real => ⟨ble_true (show Nat.ble 2 Try.f74.ntmps = true by kernel_rfl), ?_⟩⟩
    show RunsTo Try.prog Try.f74 0 (bodyOf Try.f74) _ _ _ _
    have ht : -9223372036854775808 ≤ tr ∧ tr ≤ 9223372036854775807 := real.agg (i := 0) rfl (j := 0) rfl
    have hc : -9223372036854775808 ≤ co ∧ co ≤ 9223372036854775807 := real.agg (i := 0) rfl (j := 1) rfl
    refine RunsTo.cons (s1 := zipS [1, 2] [w63 rho, pt 0]) (h1 := [lB tr co]) (by kernel_rfl) (CodeT.piece S74_ok follows_ok (L := noL) noL_ok (cf74a tr co rho)) ?_
    refine RunsTo.cons (s1 := zipS [1, 2, 5] [w63 rho, pt 0, pt 1]) (h1 := [lB tr co, zC 2 (co - tr), zB (co - tr)]) (by kernel_rfl) (CodeT.piece S74_ok follows_ok (L := noL) noL_ok ?_) ?_
    · rw [cf74b]
      simp (disch := omega) only [numW_digits, sgn_self, nb4, lb4, ble_self, Bool.and_self, condT]
      rfl
    have hz : (co - tr).natAbs ≤ 18446744073709551616 := by omega
    generalize hzz : co - tr = z at *
    refine RunsTo.cons (s1 := zipS [1, 2, 5] [w63 rho, pt 0, pt 1]) (h1 := [lB tr co, zP 2 z, zB z]) (by kernel_rfl) (CodeT.piece S74_ok follows_ok (L := noL) noL_ok (cf74c tr co rho z)) ?_
    refine RunsTo.tail S74_ok follows_ok (L := noL) noL_ok ?_
    refine (cf74d tr co rho z).trans ?_
    refine dc (fun c1 => dc (fun c2 => ?_) (fun c2 => putB (chkF (fun h => c2 h.2.1)).symm)) (fun c1 => putB (chkF (fun h => c1 h.1)).symm)
    have hm := mul_abs (a := rho) (b := tr) (k := 9223372036854775808) (by omega) (by omega)
    simp (disch := omega) only [numW_digits, sgn_self, sgnFl, nb4, lb4, nb6, ble_self, Bool.and_self, condT, chkz, cmpLe]
    refine putB ?_
    unfold driftB
    rw [chkDec]
    subst hzz
    exact decide_eq_decide.2 ⟨fun h => ⟨c1, c2, by omega, by omega⟩, fun h => by omega⟩
  · cases hF
end Go.Proofs.Ytfgehfnlkakioaa.VC
