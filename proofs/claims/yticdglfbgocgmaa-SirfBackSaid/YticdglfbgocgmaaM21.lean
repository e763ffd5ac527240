/- sirf, the document's: Payload; Encode: what they are. -/
import Derived.Test.YticdglfbgocgmaaM20
namespace Go.Proofs.Yticdglfbgocgmaa.VC
open Go Go.Proofs

theorem loopOKPrI : LoopOK Try.prog Try.f28.ntmps 1 inPr livePrI LPrIf := by
  refine LoopOK.of_T ?_
  intro vs h k out hk
  unfold LPrIf at hk
  split at hk
  · rename_i ln K' len' cc i m v j n vl x q c K fl len bs
    obtain ⟨hb, hk2⟩ := bif_t hk
    obtain ⟨rfl, rfl, rfl, h4, h5, h6, h7, h8, rfl, h10, h11, h12, h13, h14, h15⟩ := chk_iff.1 hb
    refine ⟨_, _, _, hk2, fun real => ?_⟩
    have hs := real.segs (i := 3) rfl rfl _ (List.mem_cons_self ..)
    obtain ⟨i, rfl⟩ := Int.eq_ofNat_of_zero_le h6
    obtain ⟨m, rfl⟩ := Int.eq_ofNat_of_zero_le (show 0 ≤ m by omega)
    obtain ⟨k2, hk2⟩ : ∃ k2, k2 = K' / 2 := ⟨_, rfl⟩
    rw [← hk2] at h7
    subst h7
    have := loopPrI (x := x) (v := v) (n := n) (q := q) (c := c) (cc := cc) (len := len') (i := i) (k := k2) (m := m) (vs := vl) (bs := bs) (fl := fl) (by omega) (by omega) h10 h11 h12 h13 ⟨h14, h15⟩ hs.1 m 0 (by omega)
    have e0 : v / pw256 ((0 : Nat) : Int) = v := by unfold pw256; simp
    have e1 : putB bs ((fl.getD (2 * (i : Int)).toNat 0).toNat + m) (be v 0) = bs := putB_nil
    rw [e0, e1] at this
    exact this
  · cases hk
theorem loopsPrI : LoopsOK Try.prog LPrI Try.f28.ntmps 1 outPr := loops_one rfl (by kernel_rfl) loopOKPrI
theorem fit_big {v s : Int} (hs : -4 ≤ s ∧ s ≤ 4) (h : fitI v s) : -1000000000000 ≤ v ∧ v ≤ 1000000000000 := by
  have hm := manyI_rng hs
  have hp := pw_4 hm.2
  unfold fitI at h
  split at h <;> omega
theorem roundPr {x : Int} {n q c cc len i k : Nat} {vs bs fl : List Int} (hi : i < k) (hk : k ≤ 100) (hq : k = q) (hn : q = n) (hf : fldsOK len fl k) (hlen : len ≤ 1000000) (hfit : fitI (vs.getD i 0) (fl.getD (i * 2 + 1) 0)) :
    CodeT Try.prog Try.f28.ntmps 1 outPr (zipS livePrO [pt 1, .slice none 0 0, w63 0, w63 len, sl 2 (2 * k) 0, sl 3 len cc, w63 i]) [rI n vs, rS x (sl 0 q c), oI (2 * k) fl, oU len (payB bs fl vs i)] .normal
      (zipS livePrO [pt 1, .slice none 0 0, w63 0, w63 len, sl 2 (2 * k) 0, sl 3 len cc, w63 ((i + 1 : Nat) : Int)]) [rI n vs, rS x (sl 0 q c), oI (2 * k) fl, oU len (payB bs fl vs (i + 1))] := by
  obtain ⟨f1, f2, f3, f4, f5⟩ := hf i hi
  have hv := fit_big ⟨f1, f2⟩ hfit
  have e1 : ((2 : Int) * (i : Int) + 1).toNat = i * 2 + 1 := by omega
  have e2 : ((2 : Int) * (i : Int)).toNat = i * 2 := by omega
  have ek : 2 * k = 2 * (2 * k / 2) := by omega
  by_cases hneg : fl.getD (i * 2 + 1) 0 < 0
  · have em : 0 - fl.getD (i * 2 + 1) 0 = manyI (fl.getD (i * 2 + 1) 0) := by unfold manyI; rw [if_pos (by omega)]
    have hm := manyI_rng ⟨f1, f2⟩
    refine CodeT.on (S := SPrR.on [(37, true), (53, false), (55, true)]) (SPrR_ok.on _) loopsPrI fun on out => ?_
    refine (pPrN x n q c cc len i k vs _ fl on out (w3 := by rw [e1]; omega) (w4 := by rw [e1]; omega) (h7 := by rw [e1]; exact ⟨f1, f2, f3⟩) (h8 := by rw [e1]; exact hfit) (h9 := by rw [e1]; exact hneg)
      (h10 := by rw [e1, e2, em]; exact ⟨rfl, rfl, rfl, by omega, by omega, by omega, ek, by omega, rfl, f4, f5, hlen, by omega, hv.1, hv.2⟩)).trans ?_
    rw [e1, e2, em]; rfl
  · have em : manyI (fl.getD (i * 2 + 1) 0) = fl.getD (i * 2 + 1) 0 := by unfold manyI; rw [if_neg (by omega)]
    rw [em] at f5
    refine CodeT.on (S := SPrR.on [(37, true), (53, false), (55, false)]) (SPrR_ok.on _) loopsPrI fun on out => ?_
    refine (pPrP x n q c cc len i k vs _ fl on out (w3 := by rw [e1]; omega) (h7 := by rw [e1]; exact ⟨f1, f2, f3⟩) (h8 := by rw [e1]; exact hfit) (h9 := by rw [e1]; exact hneg)
      (h10 := by rw [e1, e2]; exact ⟨rfl, rfl, rfl, by omega, by omega, by omega, ek, by omega, rfl, f4, f5, hlen, by omega, hv.1, hv.2⟩)).trans ?_
    rw [e1, e2, payB, em]; rfl
theorem loopPrT {x : Int} {n q c cc len : Nat} {vs bs fl : List Int} (hk : q ≤ 100) (hn : q = n) (hf : fldsOK len fl q) (hlen : len ≤ 1000000) (hfit : fitsTo fl vs q) : ∀ (r i : Nat), i + r = q →
    LoopT Try.prog Try.f28.ntmps 1 outPr (zipS livePrO [pt 1, .slice none 0 0, w63 0, w63 len, sl 2 (2 * q) 0, sl 3 len cc, w63 i]) [rI n vs, rS x (sl 0 q c), oI (2 * q) fl, oU len (payB bs fl vs i)] (.exit 0)
      (zipS livePrO [pt 1, .slice none 0 0, w63 0, w63 len, sl 2 (2 * q) 0, sl 3 len cc, w63 q]) [rI n vs, rS x (sl 0 q c), oI (2 * q) fl, oU len (payB bs fl vs q)] := by
  intro r
  induction r with
  | zero =>
    intro i hi
    obtain rfl : i = q := by omega
    exact LoopT.last (by intro h; cases h) (CodeT.out (SPrR_ok.on _) loopsPrI fun on out => pPrX x n i c cc len i i vs _ fl on out)
  | succ r ih =>
    intro i hi
    exact LoopT.step (roundPr (by omega) hk rfl hn hf hlen (hfit i (by omega))) (ih (i + 1) (by omega))
theorem loopPrF {x : Int} {n q c cc len e : Nat} {vs bs fl : List Int} (hk : q ≤ 100) (hn : q = n) (hf : fldsOK len fl q) (hlen : len ≤ 1000000) (he : e < q) (hno : ¬ fitI (vs.getD e 0) (fl.getD (e * 2 + 1) 0)) (hfit : fitsTo fl vs e) : ∀ (r i : Nat), i + r = e →
    LoopT Try.prog Try.f28.ntmps 1 outPr (zipS livePrO [pt 1, .slice none 0 0, w63 0, w63 len, sl 2 (2 * q) 0, sl 3 len cc, w63 i]) [rI n vs, rS x (sl 0 q c), oI (2 * q) fl, oU len (payB bs fl vs i)] .ret
      (zipS livePrO [pt 1, .slice none 0 0, w63 2, w63 len, sl 2 (2 * q) 0, sl 3 len cc, w63 e]) [rI n vs, rS x (sl 0 q c), oI (2 * q) fl, oU len (payB bs fl vs e)] := by
  intro r
  induction r with
  | zero =>
    intro i hi
    obtain rfl : i = e := by omega
    obtain ⟨f1, f2, f3, f4, f5⟩ := hf i (by omega)
    have e1 : ((2 : Int) * (i : Int) + 1).toNat = i * 2 + 1 := by omega
    exact LoopT.last (by intro h; cases h) (CodeT.out (SPrR_ok.on _) loopsPrI fun on out => pPrU x n q c cc len i q vs _ fl on out (h7 := by rw [e1]; exact ⟨f1, f2, f3⟩) (h8 := by rw [e1]; exact hno))
  | succ r ih =>
    intro i hi
    exact LoopT.step (roundPr (by omega) hk rfl hn hf hlen (hfit i (by omega))) (ih (i + 1) (by omega))
theorem loopOKPrT : LoopOK Try.prog Try.f28.ntmps 1 outPr livePrO LPrTf := by
  refine LoopOK.of_T ?_
  intro vs h k out hk
  unfold LPrTf at hk
  split at hk
  · obtain ⟨hb, hk2⟩ := bif_t hk
    obtain ⟨rfl, rfl, rfl, h4, rfl, h6, h7, h8, h9⟩ := chk_iff.1 hb
    exact ⟨_, _, _, hk2, fun real => loopPrT h6 h4 h7 h8 h9 _ 0 (Nat.zero_add _)⟩
  · cases hk
theorem loopOKPrF : LoopOK Try.prog Try.f28.ntmps 1 outPr livePrO LPrFf := by
  refine LoopOK.of_T ?_
  intro vs h k out hk
  unfold LPrFf at hk
  split at hk
  · obtain ⟨hb, hk2⟩ := bif_t hk
    obtain ⟨rfl, rfl, rfl, h4, rfl, h6, h7, h8, h9⟩ := chk_iff.1 hb
    obtain ⟨g1, g2, g3⟩ := endPy_spec h9
    exact ⟨_, _, _, hk2, fun real => loopPrF h6 h4 h7 h8 g1 g2 g3 _ 0 (Nat.zero_add _)⟩
  · cases hk
theorem loopsPrT : LoopsOK Try.prog LPrT Try.f28.ntmps 1 (bodyOf Try.f28) := loops_one rfl (by kernel_rfl) loopOKPrT
theorem loopsPrF : LoopsOK Try.prog LPrF Try.f28.ntmps 1 (bodyOf Try.f28) := loops_one rfl (by kernel_rfl) loopOKPrF
theorem okPayRK (len : Nat) (fl : List Int) : EntryOK Try.prog 28 (FPayK len fl) := by
  refine EntryOK.of_paths (fn := Try.f28) follows_ok Try.func28 (by kernel_rfl) (by kernel_rfl) ?_
  intro args h k out hF
  unfold FPayK at hF
  split at hF
  · rename_i x q c n vs
    obtain ⟨hb, hF2⟩ := bif_t hF
    obtain ⟨hl, h2, h3, h4⟩ := chk_iff.1 hb
    obtain ⟨g1, g2, g3, g4, g5, g6⟩ := layS_ok hl
    have hq : fl.length / 2 = q := by omega
    rw [hq] at g4 g5
    refine ⟨_, _, hF2, fun _ => ⟨_, LPrT, SpecOK.on (mkS_cons (okLayRv len fl) (mkS_nil _)) _, loopsPrT, (pPrTF x n q c len vs fl (h10 := ⟨rfl, rfl, rfl, h3, h2.symm, g4, g5, by omega, h4⟩)).trans ?_⟩⟩
    rw [dec_t (show (len : Int) = len from rfl)]; rfl
  · cases hF
theorem okPayRE (e : Int) : EntryOK Try.prog 28 (FPayE e) := by
  refine EntryOK.of_paths (fn := Try.f28) follows_ok Try.func28 (by kernel_rfl) (by kernel_rfl) ?_
  intro args h k out hF
  unfold FPayE at hF
  split at hF
  · rename_i x q c n vs
    obtain ⟨hb, hF2⟩ := bif_t hF
    obtain ⟨he, h0, h3, hbig⟩ := chk_iff.1 hb
    refine ⟨_, _, hF2, fun real => ?_⟩
    have hs := real.segs (i := 0) rfl rfl _ (List.mem_cons_self ..)
    unfold payErr at he
    split at he
    · rename_i hl
      subst he
      exact ⟨_, noL, SpecOK.on (mkS_cons okLayRn (mkS_nil _)) _, noL_ok, pPrNF x n q c vs⟩
    · rename_i len fl hl
      obtain ⟨g1, g2, g3, g4, g5, g6⟩ := layS_ok hl
      by_cases hc : 2 * q = fl.length ∧ fitsTo fl vs q
      · rw [if_pos hc] at he; exact (h0 he.symm).elim
      · rw [if_neg hc] at he
        subst he
        by_cases hq : 2 * q = fl.length
        · have hnf : ¬ fitsTo fl vs q := fun x => hc ⟨hq, x⟩
          have hq2 : fl.length / 2 = q := by omega
          rw [hq2] at g4 g5
          exact ⟨_, LPrF, SpecOK.on (mkS_cons (okLayRv len fl) (mkS_nil _)) _, loopsPrF, pPrFF x n q c len vs fl (h10 := ⟨rfl, rfl, rfl, h3, hq.symm, g4, g5, by omega, hnf⟩)⟩
        · exact ⟨_, noL, SpecOK.on (mkS_cons (okLayRv len fl) (mkS_nil _)) _, noL_ok, pPrCF x n q c len vs fl⟩
  · cases hF
end Go.Proofs.Yticdglfbgocgmaa.VC
