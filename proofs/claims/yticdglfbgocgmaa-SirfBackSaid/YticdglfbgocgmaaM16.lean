/- sirf: Payload: what it is. -/
import Derived.Test.YticdglfbgocgmaaM15
namespace Go.Proofs.Yticdglfbgocgmaa.VC
open Go Go.Proofs

theorem SPayR_ok : SpecOK Try.prog SPayR := mkS_cons okPutS (mkS_nil _)
theorem SPayS_ok : SpecOK Try.prog SPayS := mkS_cons okLayS (mkS_nil _)
theorem loopPyT {x : Int} {n q c len k : Nat} {vs bs fl : List Int} (hk : k ≤ q) (hq : q = n) (hk1 : k ≤ 100) (hf : fldsOK len fl k) (hlen : len ≤ 1000000) (hfit : fitsTo fl vs k) : ∀ (r i : Nat), i + r = k →
    LoopT Try.prog Try.f27.ntmps 1 (loopOf Try.f27 0) (zipS livePayS [pt 1, .slice none 0 0, w63 0, sl 2 len 0, sl 3 k 0, w63 k, w63 i]) [rI n vs, rS x (sl 0 q c), oU len (payB bs fl vs i), oF (2 * k) fl] (.exit 1)
      (zipS livePayS [pt 1, .slice none 0 0, w63 0, sl 2 len 0, sl 3 k 0, w63 k, w63 k]) [rI n vs, rS x (sl 0 q c), oU len (payB bs fl vs k), oF (2 * k) fl] := by
  intro r
  induction r with
  | zero =>
    intro i hi
    obtain rfl : i = k := by omega
    exact LoopT.last (by intro h; cases h) (CodeT.out (SPayR_ok.on _) noL_ok fun on out => pPyX x n q c len i i vs _ fl on out)
  | succ r ih =>
    intro i hi
    obtain ⟨f1, f2, f3, f4, f5⟩ := hf i (by omega)
    have hfi := hfit i (by omega)
    exact LoopT.step (CodeT.on (live := livePayS) (vs1 := [pt 1, .slice none 0 0, w63 0, sl 2 len 0, sl 3 k 0, w63 k, w63 ((i + 1 : Nat) : Int)]) (h1 := [rI n vs, rS x (sl 0 q c), oU len (payB bs fl vs (i + 1)), oF (2 * k) fl]) (SPayR_ok.on _) noL_ok fun on out => pPyR x n q c len i k vs _ fl on out (h7 := ⟨rfl, f1, f2, f3, f4, f5, hlen⟩)) (ih (i + 1) (by omega))
theorem loopPyF {x : Int} {n q c len k e : Nat} {vs bs fl : List Int} (hk : k ≤ q) (hq : q = n) (hk1 : k ≤ 100) (hf : fldsOK len fl k) (hlen : len ≤ 1000000) (he : e < k) (hno : ¬ fitI (vs.getD e 0) (fl.getD (e * 2 + 1) 0)) (hfit : fitsTo fl vs e) : ∀ (r i : Nat), i + r = e →
    LoopT Try.prog Try.f27.ntmps 1 (loopOf Try.f27 0) (zipS livePayS [pt 1, .slice none 0 0, w63 0, sl 2 len 0, sl 3 k 0, w63 k, w63 i]) [rI n vs, rS x (sl 0 q c), oU len (payB bs fl vs i), oF (2 * k) fl] .ret
      (zipS livePayS [pt 1, .slice none 0 0, w63 2, sl 2 len 0, sl 3 k 0, w63 k, w63 e]) [rI n vs, rS x (sl 0 q c), oU len (payB bs fl vs (e + 1)), oF (2 * k) fl] := by
  intro r
  induction r with
  | zero =>
    intro i hi
    obtain rfl : i = e := by omega
    obtain ⟨f1, f2, f3, f4, f5⟩ := hf i (by omega)
    exact LoopT.last (by intro h; cases h) (CodeT.out (SPayR_ok.on _) noL_ok fun on out => pPyN x n q c len i k vs _ fl on out (h7 := ⟨rfl, f1, f2, f3, f4, f5, hlen⟩))
  | succ r ih =>
    intro i hi
    obtain ⟨f1, f2, f3, f4, f5⟩ := hf i (by omega)
    have hfi := hfit i (by omega)
    exact LoopT.step (CodeT.on (live := livePayS) (vs1 := [pt 1, .slice none 0 0, w63 0, sl 2 len 0, sl 3 k 0, w63 k, w63 ((i + 1 : Nat) : Int)]) (h1 := [rI n vs, rS x (sl 0 q c), oU len (payB bs fl vs (i + 1)), oF (2 * k) fl]) (SPayR_ok.on _) noL_ok fun on out => pPyR x n q c len i k vs _ fl on out (h7 := ⟨rfl, f1, f2, f3, f4, f5, hlen⟩)) (ih (i + 1) (by omega))
theorem endPy_spec {fl vs : List Int} {k : Nat} (h : ¬ fitsTo fl vs k) : endPy fl vs k < k ∧ ¬ fitI (vs.getD (endPy fl vs k) 0) (fl.getD (endPy fl vs k * 2 + 1) 0) ∧ fitsTo fl vs (endPy fl vs k) := by
  have : ∃ i, i < k ∧ ¬ fitI (vs.getD i 0) (fl.getD (i * 2 + 1) 0) ∧ fitsTo fl vs i := by
    induction k with
    | zero => exact (h fun i hi => by omega).elim
    | succ n ih =>
      by_cases hs : fitsTo fl vs n
      · refine ⟨n, by omega, fun e => h fun i hi => ?_, hs⟩
        by_cases hin : i = n
        · rw [hin]; exact e
        · exact hs i (by omega)
      · obtain ⟨i, h1, h2⟩ := ih hs
        exact ⟨i, by omega, h2⟩
  exact Classical.epsilon_spec this
theorem loopOKPyT : LoopOK Try.prog Try.f27.ntmps 1 (loopOf Try.f27 0) livePayS LPyTf := by
  refine LoopOK.of_T ?_
  intro vs h k out hk
  unfold LPyTf at hk
  split at hk
  · obtain ⟨hb, hk2⟩ := bif_t hk
    obtain ⟨rfl, ⟨h1, h2, h3, h4, h5, h6, rfl, h8, h9⟩, h10⟩ := chk_iff.1 hb
    refine ⟨_, _, _, hk2, fun real => ?_⟩
    rename_i k' _ _ _ _ _ _ _
    have : ∀ q' : Nat, k'.toNat = q' → 0 < q' → k' = q' := fun q' a b => by omega
    rw [this _ h1 h2]
    exact loopPyT h5 h4 h3 h8 h9 h10 _ 0 (Nat.zero_add _)
  · cases hk
theorem loopOKPyF : LoopOK Try.prog Try.f27.ntmps 1 (loopOf Try.f27 0) livePayS LPyFf := by
  refine LoopOK.of_T ?_
  intro vs h k out hk
  unfold LPyFf at hk
  split at hk
  · obtain ⟨hb, hk2⟩ := bif_t hk
    obtain ⟨rfl, ⟨h1, h2, h3, h4, h5, h6, rfl, h8, h9⟩, h10⟩ := chk_iff.1 hb
    refine ⟨_, _, _, hk2, fun real => ?_⟩
    rename_i k' _ _ _ _ _ _ _
    have : ∀ q' : Nat, k'.toNat = q' → 0 < q' → k' = q' := fun q' a b => by omega
    rw [this _ h1 h2]
    obtain ⟨g1, g2, g3⟩ := endPy_spec h10
    exact loopPyF h5 h4 h3 h8 h9 g1 g2 g3 _ 0 (Nat.zero_add _)
  · cases hk
theorem loopsPyT : LoopsOK Try.prog LPyT Try.f27.ntmps 1 (bodyOf Try.f27) := loops_one rfl (by kernel_rfl) loopOKPyT
theorem loopsPyF : LoopsOK Try.prog LPyF Try.f27.ntmps 1 (bodyOf Try.f27) := loops_one rfl (by kernel_rfl) loopOKPyF
/-- The empty payload of a kind. -/
def pay0 (len : Nat) (x : Int) : List Int := (List.replicate len 0).set 0 x
noncomputable def payErr (x : Int) (q : Nat) (vs : List Int) : Int := match layS x with
  | none => 7
  | some (_, fl) => @ite _ (2 * q = fl.length ∧ fitsTo fl vs q) (Classical.propDecidable _) 0 2
noncomputable def FPayK (len : Nat) (fl : List Int) : FSpec := fun args h k => match args, h with
  | [.agg ⟨[.int .u8 x, .slice (some ⟨0, 0, none⟩) q _]⟩], [some ⟨false, 1, [.ints .i64 n vs]⟩] =>
    bif chk (layS x = some (len, fl) ∧ 2 * q = fl.length ∧ q = n ∧ fitsTo fl vs q) then k (.tuple #[sl 1 len 0, w63 0]) [rI n vs, oU len (payB (pay0 len x) fl vs q)] else none
  | _, _ => none
noncomputable def FPayE (e : Int) : FSpec := fun args h k => match args, h with
  | [.agg ⟨[.int .u8 x, .slice (some ⟨0, 0, none⟩) q _]⟩], [some ⟨false, 1, [.ints .i64 n vs]⟩] =>
    bif chk (payErr x q vs = e ∧ e ≠ 0 ∧ q = n ∧ q ≤ 1000000000) then k (.tuple #[.slice none 0 0, w63 e]) [rI n vs] else none
  | _, _ => none
theorem okPayK (len : Nat) (fl : List Int) : EntryOK Try.prog 27 (FPayK len fl) := by
  refine EntryOK.of_paths (fn := Try.f27) follows_ok Try.func27 (by kernel_rfl) (by kernel_rfl) ?_
  intro args h k out hF
  unfold FPayK at hF
  split at hF
  · rename_i x q c n vs
    obtain ⟨hb, hF2⟩ := bif_t hF
    obtain ⟨hl, h2, h3, h4⟩ := chk_iff.1 hb
    obtain ⟨g1, g2, g3, g4, g5, g6⟩ := layS_ok hl
    refine ⟨_, _, hF2, fun _ => ⟨_, LPyT, SPayS_ok.on _, loopsPyT, (cfPyT x n q c vs).trans ?_⟩⟩
    obtain ⟨p, hp⟩ : ∃ p, p = fl.length / 2 := ⟨_, rfl⟩
    obtain rfl : q = p := by omega
    have hpy : pyOK (q : Int) q q n len fl.length fl := ⟨by omega, by omega, by omega, h3, Nat.le_refl _, h2.symm, h2.symm, by rw [hp]; exact g5, by omega⟩
    rcases layS_cases hl with e | e | e | e | e | e | e | e <;>
    · subst e
      cases hl
      simp only [List.length_cons, List.length_nil, Nat.reduceAdd, Nat.reduceDiv] at hp hpy
      subst hp
      simp only [Int.reduceBEq, cond_true, cond_false]
      exact go_f (bne_f rfl) (go_t (chk_t ⟨by first | rfl | trivial, hpy, h4⟩) rfl)
  · cases hF
theorem okPayE (e : Int) : EntryOK Try.prog 27 (FPayE e) := by
  refine EntryOK.of_paths (fn := Try.f27) follows_ok Try.func27 (by kernel_rfl) (by kernel_rfl) ?_
  intro args h k out hF
  unfold FPayE at hF
  split at hF
  · rename_i x q c n vs
    obtain ⟨hb, hF2⟩ := bif_t hF
    obtain ⟨he, h0, h3, _⟩ := chk_iff.1 hb
    refine ⟨_, _, hF2, fun _ => ?_⟩
    unfold payErr at he
    split at he
    · rename_i hl
      subst he
      obtain ⟨a1, a2, a3, a4, a5, a6, a7, a8⟩ := layS_none hl
      refine ⟨_, noL, SPayS_ok.on _, noL_ok, (cfPyN x n q c vs).trans ?_⟩
      rw [eqb_f a1, eqb_f a2, eqb_f a3, eqb_f a4, eqb_f a5, eqb_f a6, eqb_f a7, eqb_f a8]; rfl
    · rename_i len fl hl
      obtain ⟨g1, g2, g3, g4, g5, g6⟩ := layS_ok hl
      by_cases hc : 2 * q = fl.length ∧ fitsTo fl vs q
      · rw [if_pos hc] at he; exact (h0 he.symm).elim
      · rw [if_neg hc] at he
        subst he
        by_cases hq : 2 * q = fl.length
        · have hnf : ¬ fitsTo fl vs q := fun x => hc ⟨hq, x⟩
          refine ⟨_, LPyF, SPayS_ok.on _, loopsPyF, (cfPyF x n q c vs).trans ?_⟩
          obtain ⟨p, hp⟩ : ∃ p, p = fl.length / 2 := ⟨_, rfl⟩
          obtain rfl : q = p := by omega
          have hpy : pyOK (q : Int) q q n len fl.length fl := ⟨by omega, by omega, by omega, h3, Nat.le_refl _, hq.symm, hq.symm, by rw [hp]; exact g5, by omega⟩
          rcases layS_cases hl with e | e | e | e | e | e | e | e <;>
          · subst e
            cases hl
            simp only [List.length_cons, List.length_nil, Nat.reduceAdd, Nat.reduceDiv] at hp hpy
            subst hp
            simp only [Int.reduceBEq, cond_true, cond_false]
            exact go_f (bne_f rfl) (go_t (chk_t ⟨by first | rfl | trivial, hpy, hnf⟩) rfl)
        · refine ⟨_, noL, SPayS_ok.on _, noL_ok, (cfPyC x n q c vs).trans ?_⟩
          rcases layS_cases hl with e | e | e | e | e | e | e | e <;>
          · subst e
            cases hl
            simp only [List.length_cons, List.length_nil, Nat.reduceAdd] at hq
            exact go_t (c := ((q : Int) != _)) (bne_t (by omega)) rfl
  · cases hF
end Go.Proofs.Yticdglfbgocgmaa.VC
