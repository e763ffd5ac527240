/- PairPlays: the invariant behind pairs, plain. -/
import Derived.Test.YtpidmcpnkfgcjaaT5
namespace Go.Proofs.Ytpidmcpnkfgcjaa.VC
open Go Go.Proofs

theorem waitI_mark {ts : List Th} {x : Th} {j : Nat} (he : x.e = (ts.getD j th0).e) (ha : x.a = (ts.getD j th0).a) (hm : x.m = (ts.getD j th0).m) (hg : x.g = (ts.getD j th0).g) : waitI (ts.set j x) = waitI ts := by
  have e := fdnW_mark he ha hm
  unfold waitI waitO
  rw [e]
  cases hf : fdn pW ts ts.length with
  | none => rfl
  | some k =>
    have hk : ((ts.set j x).getD k th0).g = (ts.getD k th0).g := by
      by_cases h : j = k
      · subst h
        rw [set_same (fdn_some hf).1]; exact hg
      · rw [set_other h]
    simp only [hk]
section
variable {w c : Int} {i : Nat} {s : S6}
/-- An edge, and what waited is out of the window. -/
theorem Plays.out (h : Plays w i s) (hc : s.now ≤ c) {j : Nat} (hw : waitI s.ts = j) (hj : j < s.ts.length) : Plays w (i + 1) ⟨c, false, pushR s.xs c, none, (s.ts ++ [tE c]).set j (setG (s.ts.getD j th0)), 1⟩ := by
  have h1 := h.edge hc
  have e0 : (s.ts ++ [tE c]).getD j th0 = s.ts.getD j th0 := snoc_get hj
  have hl : j < (s.ts ++ [tE c]).length := by rw [snoc_len]; omega
  have he : (setG (s.ts.getD j th0)).e = ((s.ts ++ [tE c]).getD j th0).e := by rw [e0]; rfl
  have ha : (setG (s.ts.getD j th0)).a = ((s.ts ++ [tE c]).getD j th0).a := by rw [e0]; rfl
  have hm : (setG (s.ts.getD j th0)).m = ((s.ts ++ [tE c]).getD j th0).m := by rw [e0]; rfl
  refine h1.mark (x := setG (s.ts.getD j th0)) (j := j) (b := false) (o := none) he ha hm (fun k hk => ?_) (fun _ => ?_) (fun a m e => by cases e)
  · have hk : lastI (s.ts ++ [tE c]) = k := hk
    rw [lastI_edge rfl] at hk
    obtain rfl : s.ts.length = k := by omega
    show false = (((s.ts ++ [tE c]).set j (setG (s.ts.getD j th0))).getD s.ts.length th0).i
    rw [set_other (by omega), snoc_last]
  · show waitI ((s.ts ++ [tE c]).set j (setG (s.ts.getD j th0))) = -1
    have e := fdnW_mark he ha hm
    rw [fdn_snoc] at e
    exact waitI_gone (j := j) (by rw [e]; exact (waitI_some hw).1) (by rw [set_same hl]; rfl)
/-- An edge, and what waited is in the window. -/
theorem Plays.into (h : Plays w i s) (hc : s.now ≤ c) {j : Nat} (hw : waitI s.ts = j) (hj : j < s.ts.length) : Plays w (i + 1) ⟨c, true, pushR s.xs c, none, ((s.ts ++ [tE c]).set j (setG (s.ts.getD j th0))).set s.ts.length (setI (tE c)), 1⟩ := by
  have h1 := h.out hc hw hj
  have hi := h1.idle rfl
  have e0 : ((s.ts ++ [tE c]).set j (setG (s.ts.getD j th0))).getD s.ts.length th0 = tE c := by rw [set_other (by omega), snoc_last]
  have hl : s.ts.length < ((s.ts ++ [tE c]).set j (setG (s.ts.getD j th0))).length := by rw [List.length_set, snoc_len]; omega
  have he : (setI (tE c)).e = (((s.ts ++ [tE c]).set j (setG (s.ts.getD j th0))).getD s.ts.length th0).e := by rw [e0]; rfl
  have ha : (setI (tE c)).a = (((s.ts ++ [tE c]).set j (setG (s.ts.getD j th0))).getD s.ts.length th0).a := by rw [e0]; rfl
  have hm : (setI (tE c)).m = (((s.ts ++ [tE c]).set j (setG (s.ts.getD j th0))).getD s.ts.length th0).m := by rw [e0]; rfl
  have hg : (setI (tE c)).g = (((s.ts ++ [tE c]).set j (setG (s.ts.getD j th0))).getD s.ts.length th0).g := by rw [e0]; rfl
  refine h1.mark (x := setI (tE c)) (j := s.ts.length) (b := true) (o := none) he ha hm (fun k hk => ?_) (fun _ => ?_) (fun a m e => by cases e)
  · have e0' : (s.ts ++ [tE c]).getD j th0 = s.ts.getD j th0 := snoc_get hj
    have hk : lastI ((s.ts ++ [tE c]).set j (setG (s.ts.getD j th0))) = k := hk
    rw [lastI_mark (by rw [e0']; rfl) (by rw [e0']; rfl) (by rw [e0']; rfl), lastI_edge rfl] at hk
    obtain rfl : s.ts.length = k := by omega
    show true = ((((s.ts ++ [tE c]).set j (setG (s.ts.getD j th0))).set s.ts.length (setI (tE c))).getD s.ts.length th0).i
    rw [set_same hl]; rfl
  · show waitI (((s.ts ++ [tE c]).set j (setG (s.ts.getD j th0))).set s.ts.length (setI (tE c))) = -1
    rw [waitI_mark he ha hm hg]; exact hi
/-- A message, and its pair. -/
theorem Plays.pair (h : Plays w i s) {x : Ms} (hc : s.now ≤ c) (hx : x.n = false) {j : Nat} (hl : lastI s.ts = j) (hj : j < s.ts.length) : Plays w (i + 1) ⟨c, true, s.xs, s.wt, (s.ts ++ [tM c x]).set j (setI (s.ts.getD j th0)), 1⟩ := by
  have h1 := h.msg hc hx
  have e0 : (s.ts ++ [tM c x]).getD j th0 = s.ts.getD j th0 := snoc_get hj
  have hlen : j < (s.ts ++ [tM c x]).length := by rw [snoc_len]; omega
  have he : (setI (s.ts.getD j th0)).e = ((s.ts ++ [tM c x]).getD j th0).e := by rw [e0]; rfl
  have ha : (setI (s.ts.getD j th0)).a = ((s.ts ++ [tM c x]).getD j th0).a := by rw [e0]; rfl
  have hm : (setI (s.ts.getD j th0)).m = ((s.ts ++ [tM c x]).getD j th0).m := by rw [e0]; rfl
  have hg : (setI (s.ts.getD j th0)).g = ((s.ts ++ [tM c x]).getD j th0).g := by rw [e0]; rfl
  refine h1.mark (x := setI (s.ts.getD j th0)) (j := j) (b := true) (o := s.wt) he ha hm (fun k hk => ?_) (fun e => ?_) (fun a m e => ?_)
  · have hk : lastI (s.ts ++ [tM c x]) = k := hk
    rw [lastI_snoc rfl, hl] at hk
    obtain rfl : j = k := by omega
    show true = (((s.ts ++ [tM c x]).set j (setI (s.ts.getD j th0))).getD j th0).i
    rw [set_same hlen]; rfl
  · show waitI ((s.ts ++ [tM c x]).set j (setI (s.ts.getD j th0))) = -1
    rw [waitI_mark he ha hm hg]; exact h1.idle e
  · obtain ⟨q1, k, q2, q3⟩ := h1.wait a m e
    refine ⟨q1, k, ?_, q3⟩
    show waitI ((s.ts ++ [tM c x]).set j (setI (s.ts.getD j th0))) = k
    rw [waitI_mark he ha hm hg]; exact q2
end
end Go.Proofs.Ytpidmcpnkfgcjaa.VC
