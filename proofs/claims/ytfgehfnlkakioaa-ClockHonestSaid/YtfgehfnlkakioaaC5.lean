/- clock: New, known; ClockReads: the law. -/
import Derived.Test.YtfgehfnlkakioaaC4
namespace Go.Proofs.Ytfgehfnlkakioaa.VC
open Go Go.Proofs

theorem S77_ok : SpecOK Try.prog S77 := mkS_cons ok34 (mkS_cons ok50 (mkS_cons ok53 (mkS_nil _)))
theorem clamp_wrap {R D : Int} (h : 1 ≤ R ∧ R ≤ 2147484) : (if D < IntKind.i64.wrap (0 - IntKind.i64.wrap (R.tdiv 16)) then IntKind.i64.wrap (0 - IntKind.i64.wrap (R.tdiv 16)) else if D > IntKind.i64.wrap (R.tdiv 16) then IntKind.i64.wrap (R.tdiv 16) else D) =
    clampI D (-(R / 16)) (R / 16) := by
  rw [tdiv16 h.1, swrap (x := R / 16) (by omega) (by omega), swrap (x := 0 - R / 16) (by omega) (by omega), Int.zero_sub]
  rfl
theorem ok77 : EntryOK Try.prog 77 F77 := by
  refine EntryOK.of_fn S77_ok follows_ok Try.func77 (by kernel_rfl) (by kernel_rfl) ?_
  intro args h k out hF
  unfold F77 at hF
  split at hF
  · rename_i rho P Q F D
    cases h1 : (decide (1 ≤ rho) && decide (rho ≤ 500)) with
    | false =>
      rw [h1] at hF
      exact ⟨_, _, hF, fun _ => ⟨noL, noL_ok, by rw [cf77, h1]; rfl⟩⟩
    | true =>
      cases hm : mayB (upI rho 4294967296 1000000) P Q F with
      | false =>
        rw [h1, hm] at hF
        exact ⟨_, _, hF, fun _ => ⟨noL, noL_ok, by rw [cf77, h1, hm]; rfl⟩⟩
      | true =>
        rw [h1, hm] at hF
        refine ⟨_, _, hF, fun _ => ⟨noL, noL_ok, ?_⟩⟩
        simp only [Bool.and_eq_true, decide_eq_true_eq] at h1
        rw [cf77, dec_t h1.1, dec_t h1.2, hm, clamp_wrap (upR h1)]
        rfl
  · cases hF
theorem S78_ok : SpecOK Try.prog S78 := mkS_cons ok51 (mkS_cons ok54 (mkS_nil _))
theorem ok78 : EntryOK Try.prog 78 F78 := by
  refine EntryOK.of_fn S78_ok follows_ok Try.func78 (by kernel_rfl) (by kernel_rfl) ?_
  intro args h k out hF
  unfold F78 at hF
  split at hF
  · rename_i rho P Q F D
    by_cases h1 : 1 ≤ rho
    · by_cases h2 : rho ≤ 500
      · rw [dec_t h1, dec_t h2] at hF
        refine ⟨_, _, hF, fun _ => ⟨noL, noL_ok, ?_⟩⟩
        obtain ⟨u1, u2⟩ := upR ⟨h1, h2⟩
        rw [cf78, dec_f (show ¬ rho < 1 by omega), dec_f (show ¬ rho > 500 by omega)]
        simp only [condF]
        generalize upI rho 4294967296 1000000 = R at *
        rw [tdiv16 u1, swrap (x := R / 16) (by omega) (by omega), swrap (x := 0 - R / 16) (by omega) (by omega)]
        have put : ∀ {a b : Int}, a = b → (some (Res.ret (.tuple ⟨[kV rho R P Q F a false 0 0 0, .bool (mayB R P Q F)]⟩) []) : Out) = some (Res.ret (.tuple ⟨[kV rho R P Q F b false 0 0 0, .bool (mayB R P Q F)]⟩) []) := fun e => by rw [e]
        refine dc (fun c1 => dc (fun c2 => by omega) (fun _ => put ?_)) (fun c1 => dc (fun c2 => put ?_) (fun c2 => put ?_))
        all_goals unfold clampI
        · rw [if_neg (by omega), if_pos c1]
        · rw [if_pos (by omega)]; omega
        · rw [if_neg (by omega), if_neg c1]
      · rw [dec_f h2, Bool.and_false] at hF
        exact ⟨_, _, hF, fun _ => ⟨noL, noL_ok, by rw [cf78, dec_f (show ¬ rho < 1 by omega), dec_t (show rho > 500 by omega)]; rfl⟩⟩
    · rw [dec_f h1, Bool.false_and] at hF
      exact ⟨_, _, hF, fun _ => ⟨noL, noL_ok, by rw [cf78, dec_t (show rho < 1 by omega)]; rfl⟩⟩
  · cases hF
theorem S73_ok : SpecOK Try.prog S73 := mkS_cons ok75 (mkS_cons ok77 (mkS_cons ok81 (mkS_nil _)))
theorem readZ_ok {rho R P Q F D C T E c t e : Int} (h : mayK rho R P Q F D true C T E = true) (h1 : ¬ c < C) (h2 : readT R F D T (c - C) = t) (h3 : readE rho R E (c - C) = e) (h4 : ¬ t < 0) (h5 : ¬ t > 6000000000000000000) (h6 : ¬ e > 4611686018427387904) :
    readZ rho R P Q F D true C T E c = (t, e, 0) := by
  rw [readZ_ge h h1, h2, h3, dec_f h4, dec_f h5, dec_f h6]
  rfl
theorem ok73 : EntryOK Try.prog 73 F22 := by
  refine EntryOK.of_fn S73_ok follows_ok Try.func73 (by kernel_rfl) (by kernel_rfl) ?_
  intro args h k out hF
  unfold F22 at hF
  split at hF
  · refine ⟨_, _, hF, fun _ => ⟨noL, noL_ok, ?_⟩⟩
    have m0 : mayB 429497 16 2 0 = true := mayB_iff.2 (by omega)
    have u : (429497 : Int) = upI 100 4294967296 1000000 := by decide +kernel
    have i1 : inB 0 1000000000000000000 500 = true := inB_iff.2 (by omega)
    have m1 : mayK 100 429497 16 2 0 0 false 0 0 0 = true := may_iff.2 ⟨by omega, by omega, u, m0, by omega, by omega, (fun h => by cases h), fun _ => by omega⟩
    have m2 : mayK 100 429497 16 2 0 0 true 0 1000000000000000000 500 = true := may_iff.2 ⟨by omega, by omega, u, m0, by omega, by omega, (fun _ => i1), (fun h => by cases h)⟩
    rw [cf73, m0, m1, i1, readZ_ok (t := 1000000000000000000) (e := 502) m2 (by decide) (by decide +kernel) (by decide +kernel) (by decide) (by decide) (by decide), readZ_ok (t := 1000000001000000000) (e := 201503) m2 (by decide) (by decide +kernel) (by decide +kernel) (by decide) (by decide) (by decide)]
    rfl
  · cases hF
theorem S18_ok : SpecOK Try.prog S18 := mkS_cons ok72 (mkS_cons ok73 (mkS_cons ok75 (mkS_cons ok77 (mkS_cons ok78 (mkS_cons ok79 (mkS_cons ok80 (mkS_cons ok81 (mkS_cons ok82 (mkS_cons ok83 (mkS_cons ok84 (mkS_nil _)))))))))))
theorem law18 {rho R P Q F D C T E c t e : Int} {s : Bool} : fnK Try.prog S18 noL Try.f18 [kV rho R P Q F D s C T E, w63 c, w63 t, w63 e] [] = some (.ret (.bool true) []) := by
  rw [cf18]
  generalize mayB (upI rho 4294967296 1000000) P Q F = m
  generalize mayK rho R P Q F D s C T E = k
  generalize inB c t e = i
  generalize decide (1 ≤ rho) = b1
  generalize decide (rho ≤ 500) = b2
  cases m <;> cases k <;> cases i <;> cases b1 <;> cases b2 <;>
    simp only [Bool.and_self, Bool.and_true, Bool.and_false, Bool.not_true, Bool.not_false, condT, condF, beq_self_eq_true, bne_self_eq_false]
def F18 : FSpec := fun args h k => match args, h with
  | [.agg ⟨[.int .i64 _, .int .i64 _, .int .u64 _, .int .u64 _, .int .i64 _, .int .i64 _, .bool _, .int .i64 _, .int .i64 _, .int .i64 _]⟩, .int .i64 _, .int .i64 _, .int .i64 _], [] => k (.bool true) []
  | _, _ => none
theorem ok18 : EntryOK Try.prog 18 F18 := by
  refine EntryOK.of_fn S18_ok follows_ok Try.func18 (by kernel_rfl) (by kernel_rfl) ?_
  intro args h k out hF
  unfold F18 at hF
  split at hF
  · exact ⟨_, _, hF, fun _ => ⟨noL, noL_ok, law18⟩⟩
  · cases hF
theorem top18 {rho R P Q F D C T E c t e : Int} {s : Bool} {k : Value → Heap → Out} : F18 [kV rho R P Q F D s C T E, w63 c, w63 t, w63 e] [] k = k (.bool true) [] := rfl
end Go.Proofs.Ytfgehfnlkakioaa.VC
