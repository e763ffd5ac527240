/- PairPlays: the invariant behind each step, plain. -/
import Derived.Test.YtpidmcpnkfgcjaaT4
namespace Go.Proofs.Ytpidmcpnkfgcjaa.VC
open Go Go.Proofs

theorem waitI_of {ts : List Th} {j : Nat} (hf : fdn pW ts ts.length = some j) (hg : (ts.getD j th0).g = false) : waitI ts = j := by
  unfold waitI waitO
  rw [hf]
  simp only [hg, cond_false]
theorem waitI_gone {ts : List Th} {j : Nat} (hf : fdn pW ts ts.length = some j) (hg : (ts.getD j th0).g = true) : waitI ts = -1 := by
  unfold waitI waitO
  rw [hf]
  simp only [hg, cond_true]
theorem waitI_some {ts : List Th} {j : Nat} (h : waitI ts = j) : fdn pW ts ts.length = some j ∧ (ts.getD j th0).g = false := by
  unfold waitI waitO at h
  cases hf : fdn pW ts ts.length with
  | none => rw [hf] at h; simp only at h; omega
  | some i =>
    rw [hf] at h
    cases hg : (ts.getD i th0).g with
    | true => simp only [hg, cond_true] at h; omega
    | false =>
      simp only [hg, cond_false] at h
      obtain rfl : i = j := by omega
      exact ⟨rfl, hg⟩
/-- What waits, where something else is laid. -/
theorem waitI_snoc {ts : List Th} {t : Th} (hp : pW t = false) : waitI (ts ++ [t]) = waitI ts := by
  have e := fdn_snoc (P := pW) (ts := ts) (t := t)
  rw [hp, cond_false] at e
  cases hf : fdn pW ts ts.length with
  | none =>
    rw [hf] at e
    unfold waitI waitO
    rw [e, hf]
  | some j =>
    have hj := (fdn_some hf).1
    rw [hf] at e
    unfold waitI waitO
    rw [e, hf]
    simp only [snoc_get hj]
theorem waitI_next {ts : List Th} {t : Th} (hp : pW t = true) (hg : t.g = false) : waitI (ts ++ [t]) = ts.length := by
  have e := fdn_snoc (P := pW) (ts := ts) (t := t)
  rw [hp, cond_true] at e
  exact waitI_of e (by rw [snoc_last]; exact hg)
theorem lastI_snoc {ts : List Th} {t : Th} (he : t.e = false) : lastI (ts ++ [t]) = lastI ts := by
  have e := fdn_snoc (P := pE) (ts := ts) (t := t)
  unfold pE at e
  rw [he, cond_false] at e
  unfold lastI
  unfold pE
  rw [e]
theorem lastI_edge {ts : List Th} {t : Th} (he : t.e = true) : lastI (ts ++ [t]) = ts.length := by
  have e := fdn_snoc (P := pE) (ts := ts) (t := t)
  unfold pE at e
  rw [he, cond_true] at e
  unfold lastI
  unfold pE
  rw [e]
theorem lastI_mark {ts : List Th} {t : Th} {j : Nat} (he : t.e = (ts.getD j th0).e) (ha : t.a = (ts.getD j th0).a) (hm : t.m = (ts.getD j th0).m) : lastI (ts.set j t) = lastI ts := by
  have e := fdnE_mark he ha hm
  unfold lastI
  rw [e]
section
variable {w c : Int} {i : Nat} {s : S6}
theorem Plays.later (h : Plays w i s) : Plays w (i + 1) s := ⟨h.ring, Nat.le_succ_of_le h.small, h.w0, h.w1, h.rise, h.now0, h.nowL, h.nowZ, h.taken, h.idle, h.wait⟩
theorem Plays.copy (h : Plays w i s) : Plays w (i + 1) ⟨s.now, s.t, s.xs, s.wt, s.ts, 1⟩ := ⟨h.ring, Nat.le_succ_of_le h.small, h.w0, h.w1, h.rise, h.now0, h.nowL, h.nowZ, h.taken, h.idle, h.wait⟩
/-- An edge: what waits, waits. -/
theorem Plays.edge (h : Plays w i s) (hc : s.now ≤ c) : Plays w (i + 1) ⟨c, false, pushR s.xs c, s.wt, s.ts ++ [tE c], 1⟩ where
  ring := by
    show Ring (pushR s.xs c) (edgT (s.ts ++ [tE c]) (s.ts ++ [tE c]).length)
    rw [edgT_snoc]; exact h.ring.push c
  small := by show (s.ts ++ [tE c]).length ≤ i + 1; rw [snoc_len]; have := h.small; omega
  w0 := h.w0
  w1 := h.w1
  rise := rise_snoc h.rise (h.may.2 hc)
  now0 := by have := h.now0; show 0 ≤ c; omega
  nowL := fun _ => by show c = ((s.ts ++ [tE c]).getD ((s.ts ++ [tE c]).length - 1) th0).a; rw [snoc_len, Nat.add_sub_cancel, snoc_last]
  nowZ := fun z => by have z : (s.ts ++ [tE c]).length = 0 := z; rw [snoc_len] at z; omega
  taken := fun j hj => by
    have hj : lastI (s.ts ++ [tE c]) = j := hj
    rw [lastI_edge rfl] at hj
    obtain rfl : s.ts.length = j := by omega
    show false = ((s.ts ++ [tE c]).getD s.ts.length th0).i
    rw [snoc_last]
  idle := fun e => by show waitI (s.ts ++ [tE c]) = -1; rw [waitI_snoc rfl]; exact h.idle e
  wait := fun a m e => by
    obtain ⟨h1, j, h2, h3, h4, h5⟩ := h.wait a m e
    refine ⟨h1, j, ?_, ?_, ?_, ?_⟩
    · show waitI (s.ts ++ [tE c]) = j; rw [waitI_snoc rfl]; exact h2
    · show j < (s.ts ++ [tE c]).length; rw [snoc_len]; omega
    · show a = ((s.ts ++ [tE c]).getD j th0).a; rw [snoc_get h3]; exact h4
    · show m = ((s.ts ++ [tE c]).getD j th0).m; rw [snoc_get h3]; exact h5
/-- A message that is not Next. -/
theorem Plays.msg (h : Plays w i s) {x : Ms} (hc : s.now ≤ c) (hx : x.n = false) : Plays w (i + 1) ⟨c, s.t, s.xs, s.wt, s.ts ++ [tM c x], 1⟩ where
  ring := by
    show Ring s.xs (edgT (s.ts ++ [tM c x]) (s.ts ++ [tM c x]).length)
    rw [edgT_snoc]; exact h.ring
  small := by show (s.ts ++ [tM c x]).length ≤ i + 1; rw [snoc_len]; have := h.small; omega
  w0 := h.w0
  w1 := h.w1
  rise := rise_snoc h.rise (h.may.2 hc)
  now0 := by have := h.now0; show 0 ≤ c; omega
  nowL := fun _ => by show c = ((s.ts ++ [tM c x]).getD ((s.ts ++ [tM c x]).length - 1) th0).a; rw [snoc_len, Nat.add_sub_cancel, snoc_last]
  nowZ := fun z => by have z : (s.ts ++ [tM c x]).length = 0 := z; rw [snoc_len] at z; omega
  taken := fun j hj => by
    have hj : lastI (s.ts ++ [tM c x]) = j := hj
    rw [lastI_snoc rfl] at hj
    show s.t = ((s.ts ++ [tM c x]).getD j th0).i
    rw [snoc_get (fdn_some (lastI_some.1 hj)).1]
    exact h.taken j hj
  idle := fun e => by show waitI (s.ts ++ [tM c x]) = -1; rw [waitI_snoc (by unfold pW; rw [hx]; rfl)]; exact h.idle e
  wait := fun a m e => by
    obtain ⟨h1, j, h2, h3, h4, h5⟩ := h.wait a m e
    refine ⟨h1, j, ?_, ?_, ?_, ?_⟩
    · show waitI (s.ts ++ [tM c x]) = j; rw [waitI_snoc (by unfold pW; rw [hx]; rfl)]; exact h2
    · show j < (s.ts ++ [tM c x]).length; rw [snoc_len]; omega
    · show a = ((s.ts ++ [tM c x]).getD j th0).a; rw [snoc_get h3]; exact h4
    · show m = ((s.ts ++ [tM c x]).getD j th0).m; rw [snoc_get h3]; exact h5
/-- A message that is Next. -/
theorem Plays.next (h : Plays w i s) {x : Ms} (hc : s.now ≤ c) (hx : x.n = true) : Plays w (i + 1) ⟨c, s.t, s.xs, some (c, x), s.ts ++ [tM c x], 1⟩ where
  ring := by
    show Ring s.xs (edgT (s.ts ++ [tM c x]) (s.ts ++ [tM c x]).length)
    rw [edgT_snoc]; exact h.ring
  small := by show (s.ts ++ [tM c x]).length ≤ i + 1; rw [snoc_len]; have := h.small; omega
  w0 := h.w0
  w1 := h.w1
  rise := rise_snoc h.rise (h.may.2 hc)
  now0 := by have := h.now0; show 0 ≤ c; omega
  nowL := fun _ => by show c = ((s.ts ++ [tM c x]).getD ((s.ts ++ [tM c x]).length - 1) th0).a; rw [snoc_len, Nat.add_sub_cancel, snoc_last]
  nowZ := fun z => by have z : (s.ts ++ [tM c x]).length = 0 := z; rw [snoc_len] at z; omega
  taken := fun j hj => by
    have hj : lastI (s.ts ++ [tM c x]) = j := hj
    rw [lastI_snoc rfl] at hj
    show s.t = ((s.ts ++ [tM c x]).getD j th0).i
    rw [snoc_get (fdn_some (lastI_some.1 hj)).1]
    exact h.taken j hj
  idle := fun e => by cases e
  wait := fun a m e => by
    cases e
    refine ⟨hx, s.ts.length, ?_, ?_, ?_, ?_⟩
    · show waitI (s.ts ++ [tM c x]) = s.ts.length; exact waitI_next (by unfold pW; rw [hx]; rfl) rfl
    · show s.ts.length < (s.ts ++ [tM c x]).length; rw [snoc_len]; omega
    · show c = ((s.ts ++ [tM c x]).getD s.ts.length th0).a; rw [snoc_last]
    · show x = ((s.ts ++ [tM c x]).getD s.ts.length th0).m; rw [snoc_last]
/-- A thing is marked. -/
theorem Plays.mark (h : Plays w i s) {x : Th} {j : Nat} {b : Bool} {o : Option (Int × Ms)} (he : x.e = (s.ts.getD j th0).e) (ha : x.a = (s.ts.getD j th0).a) (hm : x.m = (s.ts.getD j th0).m)
    (ht : ∀ k : Nat, lastI s.ts = k → b = ((s.ts.set j x).getD k th0).i) (hi : o = none → waitI (s.ts.set j x) = -1)
    (hw : ∀ a m, o = some (a, m) → m.n = true ∧ ∃ k : Nat, waitI (s.ts.set j x) = k ∧ k < s.ts.length ∧ a = (s.ts.getD k th0).a ∧ m = (s.ts.getD k th0).m) : Plays w i ⟨s.now, b, s.xs, o, s.ts.set j x, s.cc⟩ where
  ring := by show Ring s.xs (edgT (s.ts.set j x) (s.ts.set j x).length); rw [edgT_mark he ha hm]; exact h.ring
  small := by show (s.ts.set j x).length ≤ i; rw [List.length_set]; exact h.small
  w0 := h.w0
  w1 := h.w1
  rise := rise_mark he ha hm h.rise
  now0 := h.now0
  nowL := fun z => by
    have z : (s.ts.set j x).length ≠ 0 := z
    rw [List.length_set] at z
    show s.now = ((s.ts.set j x).getD ((s.ts.set j x).length - 1) th0).a
    rw [List.length_set, (mark_get he ha hm _).2.1]
    exact h.nowL z
  nowZ := fun z => by have z : (s.ts.set j x).length = 0 := z; rw [List.length_set] at z; exact h.nowZ z
  taken := fun k hk => by
    have hk : lastI (s.ts.set j x) = k := hk
    rw [lastI_mark he ha hm] at hk
    exact ht k hk
  idle := hi
  wait := fun a m e => by
    obtain ⟨h1, k, h2, h3, h4, h5⟩ := hw a m e
    refine ⟨h1, k, h2, ?_, ?_, ?_⟩
    · show k < (s.ts.set j x).length; rw [List.length_set]; exact h3
    · show a = ((s.ts.set j x).getD k th0).a; rw [(mark_get he ha hm k).2.1]; exact h4
    · show m = ((s.ts.set j x).getD k th0).m; rw [(mark_get he ha hm k).2.2]; exact h5
end
end Go.Proofs.Ytpidmcpnkfgcjaa.VC
