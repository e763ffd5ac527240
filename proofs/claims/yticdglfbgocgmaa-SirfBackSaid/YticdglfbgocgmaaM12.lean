/- The document's Same: what it is. -/
import Derived.Test.YticdglfbgocgmaaM11
namespace Go.Proofs.Yticdglfbgocgmaa.VC
open Go Go.Proofs

theorem loopSm {a b a' b' : Int} {n c c' : Nat} {xs ys : List Int} (hn : n ≤ 1000000) (hs : sameTo xs ys n) : ∀ (r i : Nat), i + r = n →
    LoopT Try.prog Try.f17.ntmps 2 (loopOf Try.f17 0) (zipS liveSame [pt 2, pt 3, .bool false, w63 i]) [rI n xs, rI n ys, uB a b (sl 0 n c), uB a' b' (sl 1 n c')] (.exit 0)
      (zipS liveSame [pt 2, pt 3, .bool false, w63 n]) [rI n xs, rI n ys, uB a b (sl 0 n c), uB a' b' (sl 1 n c')] := by
  intro r
  induction r with
  | zero =>
    intro i hi
    obtain rfl : i = n := by omega
    exact LoopT.last (by intro h; cases h) (CodeT.out (mk0.on _) noL_ok fun on out => pSmX a b a' b' i i c c' i xs ys on out)
  | succ r ih =>
    intro i hi
    have e := hs i (by omega)
    exact LoopT.step (CodeT.on (live := liveSame) (vs1 := [pt 2, pt 3, .bool false, w63 ((i + 1 : Nat) : Int)]) (h1 := [rI n xs, rI n ys, uB a b (sl 0 n c), uB a' b' (sl 1 n c')]) (mk0.on _) noL_ok fun on out => pSmR a b a' b' n n c c' i xs ys on out) (ih (i + 1) (by omega))
theorem loopSmF {a b a' b' : Int} {n c c' q : Nat} {xs ys : List Int} (hn : n ≤ 1000000) (hq : q < n) (hne : xs.getD q 0 ≠ ys.getD q 0) (hs : sameTo xs ys q) : ∀ (r i : Nat), i + r = q →
    LoopT Try.prog Try.f17.ntmps 2 (loopOf Try.f17 0) (zipS liveSame [pt 2, pt 3, .bool false, w63 i]) [rI n xs, rI n ys, uB a b (sl 0 n c), uB a' b' (sl 1 n c')] .ret
      (zipS liveSame [pt 2, pt 3, .bool false, w63 q]) [rI n xs, rI n ys, uB a b (sl 0 n c), uB a' b' (sl 1 n c')] := by
  intro r
  induction r with
  | zero =>
    intro i hi
    obtain rfl : i = q := by omega
    exact LoopT.last (by intro h; cases h) (CodeT.out (mk0.on _) noL_ok fun on out => pSmN a b a' b' n n c c' i xs ys on out)
  | succ r ih =>
    intro i hi
    have e := hs i (by omega)
    exact LoopT.step (CodeT.on (live := liveSame) (vs1 := [pt 2, pt 3, .bool false, w63 ((i + 1 : Nat) : Int)]) (h1 := [rI n xs, rI n ys, uB a b (sl 0 n c), uB a' b' (sl 1 n c')]) (mk0.on _) noL_ok fun on out => pSmR a b a' b' n n c c' i xs ys on out) (ih (i + 1) (by omega))
theorem endSm_spec {n : Nat} {xs ys : List Int} (h : ¬ sameTo xs ys n) : endSm n xs ys < n ∧ xs.getD (endSm n xs ys) 0 ≠ ys.getD (endSm n xs ys) 0 ∧ sameTo xs ys (endSm n xs ys) := by
  have : ∃ i, i < n ∧ xs.getD i 0 ≠ ys.getD i 0 ∧ sameTo xs ys i := by
    induction n with
    | zero => exact (h fun i hi => by omega).elim
    | succ n ih =>
      by_cases hs : sameTo xs ys n
      · refine ⟨n, by omega, fun e => h fun i hi => ?_, hs⟩
        by_cases hin : i = n
        · rw [hin]; exact e
        · exact hs i (by omega)
      · obtain ⟨i, h1, h2⟩ := ih hs
        exact ⟨i, by omega, h2⟩
  exact Classical.epsilon_spec this
theorem loopOKSmT : LoopOK Try.prog Try.f17.ntmps 2 (loopOf Try.f17 0) liveSame LSmTf := by
  refine LoopOK.of_T ?_
  intro vs h k out hk
  unfold LSmTf at hk
  split at hk
  · obtain ⟨hb, hk2⟩ := bif_t hk
    obtain ⟨rfl, rfl, rfl, h4, h5⟩ := chk_iff.1 hb
    exact ⟨_, _, _, hk2, fun real => loopSm h4 h5 _ 0 (Nat.zero_add _)⟩
  · cases hk
theorem loopOKSmF : LoopOK Try.prog Try.f17.ntmps 2 (loopOf Try.f17 0) liveSame LSmFf := by
  refine LoopOK.of_T ?_
  intro vs h k out hk
  unfold LSmFf at hk
  split at hk
  · obtain ⟨hb, hk2⟩ := bif_t hk
    obtain ⟨rfl, rfl, rfl, h4, h5⟩ := chk_iff.1 hb
    obtain ⟨g1, g2, g3⟩ := endSm_spec h5
    exact ⟨_, _, _, hk2, fun real => loopSmF h4 g1 g2 g3 _ 0 (Nat.zero_add _)⟩
  · cases hk
theorem loopOKSm0 : LoopOK Try.prog Try.f17.ntmps 0 (loopOf Try.f17 0) liveSame LSm0f := by
  refine LoopOK.of_T ?_
  intro vs h k out hk
  unfold LSm0f at hk
  split at hk
  · exact ⟨_, _, _, hk, fun real => LoopT.last (by intro h; cases h) (CodeT.out (mk0.on _) noL_ok fun on out => pSmX0 _ _ _ _ on out)⟩
  · cases hk
theorem loopsSmT : LoopsOK Try.prog LSmT Try.f17.ntmps 2 (bodyOf Try.f17) := loops_one rfl (by kernel_rfl) loopOKSmT
theorem loopsSmF : LoopsOK Try.prog LSmF Try.f17.ntmps 2 (bodyOf Try.f17) := loops_one rfl (by kernel_rfl) loopOKSmF
theorem loopsSm0 : LoopsOK Try.prog LSm0 Try.f17.ntmps 0 (bodyOf Try.f17) := loops_one rfl (by kernel_rfl) loopOKSm0
theorem okSmT : EntryOK Try.prog 17 FSmT := by
  refine EntryOK.of_paths (fn := Try.f17) follows_ok Try.func17 (by kernel_rfl) (by kernel_rfl) ?_
  intro args h k out hF
  unfold FSmT at hF
  split at hF
  · obtain ⟨hb, hF2⟩ := bif_t hF
    obtain ⟨h1, h2, rfl, rfl, h5, h6, h7⟩ := chk_iff.1 hb
    exact ⟨_, _, hF2, fun _ => ⟨_, LSmT, mk0.on _, loopsSmT, pSmT _ _ _ _ _ _ _ _ _ _ h1 h2 (by omega) ⟨rfl, rfl, h5, h6, h7⟩⟩⟩
  · obtain ⟨hb, hF2⟩ := bif_t hF
    obtain ⟨h1, h2⟩ := chk_iff.1 hb
    exact ⟨_, _, hF2, fun _ => ⟨_, LSm0, mk0.on _, loopsSm0, pSm0 _ _ _ _ h1 h2⟩⟩
  · cases hF
theorem okSmF : EntryOK Try.prog 17 FSmF := by
  refine EntryOK.of_paths (fn := Try.f17) follows_ok Try.func17 (by kernel_rfl) (by kernel_rfl) ?_
  intro args h k out hF
  unfold FSmF at hF
  split at hF
  · obtain ⟨hb, hF2⟩ := bif_t hF
    obtain ⟨h1, h2, rfl, rfl, h5, h6, h7⟩ := chk_iff.1 hb
    exact ⟨_, _, hF2, fun _ => ⟨_, LSmF, mk0.on _, loopsSmF, pSmFl _ _ _ _ _ _ _ _ _ _ h1 h2 (by omega) ⟨rfl, rfl, h5, h6, h7⟩⟩⟩
  · cases hF
theorem okSsT : EntryOK Try.prog 26 FSsT := by
  refine EntryOK.of_paths (fn := Try.f26) follows_ok Try.func26 (by kernel_rfl) (by kernel_rfl) ?_
  intro args h k out hF
  unfold FSsT at hF
  split at hF
  · obtain ⟨hb, hF2⟩ := bif_t hF
    obtain ⟨h1, h3, h4, h5, h6, h7⟩ := chk_iff.1 hb
    exact ⟨_, _, hF2, fun _ => ⟨SSmT, noL, mkS_cons okSmT (mkS_nil _), noL_ok, pSsT _ _ _ _ _ _ _ _ _ _ (h1 := ⟨h1, rfl, h3, h4, h5, h6, h7⟩)⟩⟩
  · obtain ⟨hb, hF2⟩ := bif_t hF
    have h1 := chk_iff.1 hb
    exact ⟨_, _, hF2, fun _ => ⟨SSmT, noL, mkS_cons okSmT (mkS_nil _), noL_ok, pSs0 _ _ (h1 := ⟨h1, rfl⟩)⟩⟩
  · cases hF
theorem okSsF : EntryOK Try.prog 26 FSsF := by
  refine EntryOK.of_paths (fn := Try.f26) follows_ok Try.func26 (by kernel_rfl) (by kernel_rfl) ?_
  intro args h k out hF
  unfold FSsF at hF
  split at hF
  · obtain ⟨hb, hF2⟩ := bif_t hF
    obtain ⟨h1, h3, h4, h5, h6, h7⟩ := chk_iff.1 hb
    exact ⟨_, _, hF2, fun _ => ⟨SSmF, noL, mkS_cons okSmF (mkS_nil _), noL_ok, pSsF _ _ _ _ _ _ _ _ _ _ (h1 := ⟨h1, rfl, h3, h4, h5, h6, h7⟩)⟩⟩
  · cases hF
end Go.Proofs.Yticdglfbgocgmaa.VC
