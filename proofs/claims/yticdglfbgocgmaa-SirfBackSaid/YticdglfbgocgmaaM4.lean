/- sirf: Decode: what it is. -/
import Derived.Test.YticdglfbgocgmaaM3
namespace Go.Proofs.Yticdglfbgocgmaa.VC
open Go Go.Proofs

theorem okLayS : EntryOK Try.prog 65 FLayS := by
  refine EntryOK.of_paths (fn := Try.f65) follows_ok Try.func65 (by kernel_rfl) (by kernel_rfl) ?_
  intro args h k out hF
  unfold FLayS at hF
  split at hF
  · exact ⟨_, _, hF, fun _ => ⟨SOfS, noL, mkS_cons okOfS (mkS_nil _), noL_ok, cfLayS⟩⟩
  · cases hF
theorem SDecS_ok : SpecOK Try.prog SDecS := mkS_cons okGetS (mkS_cons okLayS (mkS_nil _))
theorem decV_len (xs : List Int) (o : Nat) (fl : List Int) : ∀ k, (decV xs o fl k).length = k
  | 0 => rfl
  | k + 1 => by rw [decV, List.length_append, decV_len xs o fl k]; rfl
theorem loopDecS {x : Int} {o n c q N : Nat} {xs fl : List Int} (hq : q ≤ 100) (hf : fldsOK n fl q) (ho : o + n ≤ N) (hN : N ≤ 1000000) : ∀ (r i : Nat), i + r = q → 1 ≤ i →
    LoopT Try.prog Try.f24.ntmps 1 (loopOf Try.f24 0) (zipS liveDecS [slo 0 o n c, pt 1, w63 0, sl 3 q 0, w63 q, w63 i]) [rU N xs, uS x (sl 2 i 1), oI i (decV xs o fl i), oF (2 * q) fl] (.exit 1)
      (zipS liveDecS [slo 0 o n c, pt 1, w63 0, sl 3 q 0, w63 q, w63 q]) [rU N xs, uS x (sl 2 q 1), oI q (decV xs o fl q), oF (2 * q) fl] := by
  intro r
  induction r with
  | zero =>
    intro i hi _
    obtain rfl : i = q := by omega
    exact LoopT.last (by intro h; cases h) (CodeT.out (SDecS_ok.on _) noL_ok fun on out => pDecX x o n c i i N xs _ fl on out)
  | succ r ih =>
    intro i hi h1
    obtain ⟨f1, f2, f3, f4, f5⟩ := hf i (by omega)
    refine LoopT.step (CodeT.on (live := liveDecS) (vs1 := [slo 0 o n c, pt 1, w63 0, sl 3 q 0, w63 q, w63 ((i + 1 : Nat) : Int)]) (h1 := [rU N xs, uS x (sl 2 (i + 1) 1), oI (i + 1) (decV xs o fl (i + 1)), oF (2 * q) fl]) (SDecS_ok.on [(39, true)]) noL_ok fun on out => ?_) (ih (i + 1) (by omega) (by omega))
    refine (pDecR x o n c i q N xs _ fl on out).trans ?_
    rw [List.take_of_length_le (by rw [decV_len]; exact Nat.le_refl _)]
    rfl
theorem loopOKDecS : LoopOK Try.prog Try.f24.ntmps 1 (loopOf Try.f24 0) liveDecS LDecSf := by
  refine LoopOK.of_T ?_
  intro vs h k out hk
  unfold LDecSf at hk
  split at hk
  · rename_i o n c q q' N xs x M fl
    obtain ⟨hb, hk2⟩ := bif_t hk
    obtain ⟨h1, h2, h3, h4, h5, h6, h7⟩ := chk_iff.1 hb
    obtain rfl : q' = q := by omega
    refine ⟨_, _, _, hk2, fun real => ?_⟩
    have hs := real.segs (i := 2) rfl rfl _ (List.mem_cons_self ..)
    obtain rfl : M = 2 * q := by have := hs.1; omega
    obtain ⟨f1, f2, f3, f4, f5⟩ := h5 0 h2
    refine LoopT.step (CodeT.on (live := liveDecS) (vs1 := [slo 0 o n c, pt 1, w63 0, sl 3 q 0, w63 q, w63 1]) (h1 := [rU N xs, uS x (sl 2 1 1), oI 1 (decV xs o fl 1), oF (2 * q) fl]) (SDecS_ok.on [(39, true)]) noL_ok fun on out => ?_) (loopDecS h3 h5 h6 h7 (q - 1) 1 (by omega) (by omega))
    exact pDecR0 x o n c q N xs fl on out
  · cases hk
theorem loopsDecS : LoopsOK Try.prog LDecS Try.f24.ntmps 1 (bodyOf Try.f24) := loops_one rfl (by kernel_rfl) loopOKDecS
noncomputable def FDecS : FSpec := fun args h k => match args, h with
  | [.slice (some ⟨0, o, none⟩) n _], [some ⟨false, 1, [.ints .u8 N xs]⟩] =>
    bif chk (o + n ≤ N ∧ N ≤ 1000000) then (match decide (n = 0), layS (xs.getD o 0) with
      | true, _ => k (.tuple #[.agg #[u8v 0, .slice none 0 0], w63 4]) [rU N xs]
      | false, none => k (.tuple #[.agg #[u8v 0, .slice none 0 0], w63 7]) [rU N xs]
      | false, some (len, fl) => match decide (n = len) with
        | false => k (.tuple #[.agg #[u8v 0, .slice none 0 0], w63 5]) [rU N xs]
        | true => k (.tuple #[.agg #[u8v (xs.getD o 0), sl 1 (fl.length / 2) 1], w63 0]) [rU N xs, oI (fl.length / 2) (decV xs o fl (fl.length / 2))]) else none
  | _, _ => none
theorem layS_cases {x : Int} {r : Nat × List Int} (h : layS x = some r) : x = 2 ∨ x = 4 ∨ x = 7 ∨ x = 41 ∨ x = 52 ∨ x = 11 ∨ x = 12 ∨ x = 166 := by
  unfold layS at h
  split at h <;> first | omega | cases h
theorem layS_none {x : Int} (h : layS x = none) : x ≠ 2 ∧ x ≠ 4 ∧ x ≠ 7 ∧ x ≠ 41 ∧ x ≠ 52 ∧ x ≠ 11 ∧ x ≠ 12 ∧ x ≠ 166 := by
  unfold layS at h
  split at h <;> first | cases h | skip
  refine ⟨?_, ?_, ?_, ?_, ?_, ?_, ?_, ?_⟩ <;> (intro e; simp_all)
theorem okDecS : EntryOK Try.prog 24 FDecS := by
  refine EntryOK.of_paths (fn := Try.f24) follows_ok Try.func24 (by kernel_rfl) (by kernel_rfl) ?_
  intro args h k out hF
  unfold FDecS at hF
  split at hF
  · rename_i o n c N xs
    obtain ⟨hb, hF2⟩ := bif_t hF
    obtain ⟨h1, h2⟩ := chk_iff.1 hb
    split at hF2
    · rename_i hn
      obtain rfl := of_decide_eq_true hn
      exact ⟨_, _, hF2, fun _ => ⟨_, LDecS, SDecS_ok.on _, loopsDecS, pDecS0 o c N xs⟩⟩
    · rename_i hn hl
      have hn := of_decide_eq_false hn
      obtain ⟨a1, a2, a3, a4, a5, a6, a7, a8⟩ := layS_none hl
      refine ⟨_, _, hF2, fun _ => ⟨_, LDecS, SDecS_ok.on _, loopsDecS, (cfDecSN o n c N xs).trans ?_⟩⟩
      exact go_f (eqb_f (by omega)) (go_t (dec_t (by omega)) (go_t (blt_t (by omega)) (go_f (eqb_f a1) (go_f (eqb_f a2) (go_f (eqb_f a3) (go_f (eqb_f a4) (go_f (eqb_f a5) (go_f (eqb_f a6) (go_f (eqb_f a7) (go_f (eqb_f a8) rfl))))))))))
    · rename_i len fl hn hl
      have hn := of_decide_eq_false hn
      have b1 : ((n : Int) == 0) = false := eqb_f (by omega)
      have b2 : decide ((0 : Int) < (n : Int)) = true := dec_t (by omega)
      have b3 : o.blt N = true := blt_t (by omega)
      split at hF2
      · rename_i hlen
        have hlen := of_decide_eq_false hlen
        refine ⟨_, _, hF2, fun _ => ⟨_, LDecS, SDecS_ok.on _, loopsDecS, (cfDecSF o n c N xs).trans ?_⟩⟩
        rw [b1, b2, b3]
        rcases layS_cases hl with e | e | e | e | e | e | e | e <;>
        · rw [e] at hl ⊢
          cases hl
          exact go_t (bne_t (show (n : Int) ≠ _ by omega)) rfl
      · rename_i hlen
        have hlen := of_decide_eq_true hlen
        refine ⟨_, _, hF2, fun _ => ⟨_, LDecS, SDecS_ok.on _, loopsDecS, (cfDecSK o n c N xs).trans ?_⟩⟩
        rw [b1, b2, b3]
        have hsub : ∀ fl k, fldsOK len fl k → fldsOK n fl k := fun fl k h => by rw [hlen]; exact h
        rcases layS_cases hl with e | e | e | e | e | e | e | e <;>
        · rw [e] at hl ⊢
          cases hl
          simp only [Int.reduceBEq, cond_true, cond_false]
          refine go_f (bne_f (show (n : Int) = _ by omega)) (go_t (chk_t ⟨by first | rfl | trivial, by decide, by decide, by first | rfl | trivial, hsub _ _ (by unfold fldsOK; decide), h1, h2⟩) rfl)
  · cases hF
end Go.Proofs.Yticdglfbgocgmaa.VC
