/- Regions whose order is open, with stores that others need not wait for: every order comes to the text's end. -/
import Derived.Test.YtfgehfnlkakioaaV16C
namespace Go.Proofs.Ytfgehfnlkakioaa.VC
open Go

section
variable {P : Program} {n : Nat} {ops : Array Oper} {W : List Nat} {A : Nat → Bool} {ss : Nat → Slots} {hh : Nat → Heap} {rr : Nat → List (Nat × Nat × Nat)} {ll : Nat → List (Nat × Nat × Blk)}

/-- One operation more. -/
theorem InvL.step (hr : RunL P n ops (Region.before ops) W A ss hh rr ll) (h0 : rr 0 = []) (hl0 : ll 0 = []) (hk : slotsOK ops (Region.before ops) = true) (he : edgesOK ops = true) {D : Nat → Bool} {ι0 ι : Map} {base : Nat} {w0 w : World} {a : Act}
    (hi : InvL n ops (Region.before ops) ss (hh 0) (hh ops.size) (rr ops.size) (ll ops.size) D ι0 base w0 ι a w) {i : Nat} {o : Oper} (ho : ops[i]? = some o) (hD : D i = false) (hdep : ∀ k, ((Region.before ops).getD i 0).testBit k = true → D k = true) {K : Act → World → Prop} {Q : Exit → Act → World → Prop}
    (hK : ∀ ι' a' w', InvL n ops (Region.before ops) ss (hh 0) (hh ops.size) (rr ops.size) (ll ops.size) (upd D i) ι0 base w0 ι' a' w' → K a' w') : wpOp P ops Q i K a w := by
  have hlt := (Array.getElem?_eq_some_iff.1 ho).1
  have hst := hr i o hlt ho
  have hnm := hi.named hr hk he ho hD hdep
  have cloD : ∀ j k, upd D i j = true → ((Region.before ops).getD j 0).testBit k = true → upd D i k = true := by
    intro j k hj hb
    rw [upd_true] at hj ⊢
    rcases hj with hj | rfl
    · exact .inl (hi.clo j k hj hb)
    · exact .inl (hdep k hb)
  -- what lies behind the operation, and ahead of it
  obtain ⟨M, E, F, f1, f2, f3, f4, f5, f6⟩ := hr.begins (i := i + 1) (m := ops.size - (i + 1)) (by omega)
  rw [show i + 1 + (ops.size - (i + 1)) = ops.size by omega] at f1 f2 f3 f4 f5 f6
  obtain ⟨M0, E0, F0, g1, g2, g3, g4, g5, g6⟩ := hr.begins (i := 0) (m := i) (by omega)
  rw [Nat.zero_add] at g1 g2 g3 g4 g5 g6
  rw [h0, List.append_nil] at g2
  rw [hl0, List.append_nil] at g3
  obtain ⟨Mz, Ez, Fz, z1, z2, z3, z4, z5, z6⟩ := hr.begins (i := 0) (m := ops.size) (by omega)
  rw [Nat.zero_add] at z1 z2 z3 z4 z5 z6
  rw [h0, List.append_nil] at z2
  rw [hl0, List.append_nil] at z3
  have len0 : (hh 0).length ≤ (hh i).length := by rw [g1]; simp
  simp only [wpOp, ho]
  generalize hsn : ss (i + 1) = sn at hst
  generalize hhn : hh (i + 1) = hn at hst
  generalize hrn : rr (i + 1) = rn at hst
  generalize hln : ll (i + 1) = ln at hst
  cases hst with
  | skip k0 kw kl =>
    rw [if_neg (by rw [kw ι a hnm]; simp)]
    have cr : ∀ r ∈ rr ops.size, upd D i r.1 = D r.1 := by
      intro r hr1
      have : r.1 ≠ i := by
        rw [f2, hrn, g2] at hr1
        rcases List.mem_append.1 hr1 with h | h
        · have := (f4 r h).1; omega
        · have := (g4 r h).2.1; omega
      simp [upd, this]
    have cl : ∀ e ∈ ll ops.size, upd D i e.1 = D e.1 := by
      intro e he1
      have : e.1 ≠ i := by
        rw [f3, hln, g3] at he1
        rcases List.mem_append.1 he1 with h | h
        · have := (f5 e h).1; omega
        · have := (g5 e h).2.1; omega
      simp [upd, this]
    have eH : lateF (upd D i) (ll ops.size) (maskF (upd D i) (rr ops.size) (hh ops.size)) = lateF D (ll ops.size) (maskF D (rr ops.size) (hh ops.size)) := by
      rw [lateF_congr cl, maskF_congr cr]
    refine hK ι _ w ⟨cloD, by rw [eH]; exact hi.heap, fun r hr1 hr2 => hi.none r hr1 (upd_false.1 hr2).1, fun e he1 he2 r hr1 hr2 => ?_, Inv.put_size hi.size, Inv.put_defers hi.defers,
      hi.slots_upd hk he (Map.le_refl _) ho hD (by rw [hsn]; exact kl) (VR.undef ι), hi.le, hi.new, hi.fr, by rw [eH]; exact hi.mo⟩
    rw [cl e he1] at he2
    rw [cr r hr1]
    exact hi.hit e he1 he2 r hr1 hr2
  | non k0 kw ks kb ko kl =>
    rename_i s0 v N
    rw [if_pos (kw ι a hnm)]
    have hml : (lateM W A ((Region.before ops).getD i 0) (rr i) (hh i)).length = (hh i).length := by unfold lateM; rw [(killL_get _ _ 0).1, maskF_len]
    have hzl : (hh i).length + N.length ≤ (hh ops.size).length := by rw [f1, hhn]; simp
    have rzi : ∀ r ∈ rr ops.size, r.1 = i → r = (i, (hh i).length, N.length) := by
      intro r hr1 e
      rw [f2, hrn] at hr1
      rcases List.mem_append.1 hr1 with h | h
      · have := (f4 r h).1; omega
      · rcases List.mem_cons.1 h with rfl | h
        · rfl
        · rw [g2] at h; have := (g4 r h).2.1; omega
    have cl : ∀ e ∈ ll ops.size, upd D i e.1 = D e.1 := by
      intro e he1
      have : e.1 ≠ i := by
        rw [f3, hln, g3] at he1
        rcases List.mem_append.1 he1 with h | h
        · have := (f5 e h).1; omega
        · have := (g5 e h).2.1; omega
      simp [upd, this]
    -- ranges that hold a number below belong to the operations ahead
    have early : ∀ r ∈ rr ops.size, ∀ id, inRange r id → id < (hh i).length → r ∈ rr i := by
      intro r hr1 id hr2 hid
      rw [f2, hrn] at hr1
      rcases List.mem_append.1 hr1 with h | h
      · have h9 := (f4 r h).2.2.1; rw [hhn, List.length_append] at h9; unfold inRange at hr2; omega
      · rcases List.mem_cons.1 h with rfl | h
        · unfold inRange at hr2; simp only at hr2; omega
        · exact h
    have seen : ∀ (id : Nat) (blk : Blk), (lateM W A ((Region.before ops).getD i 0) (rr i) (hh i))[id]? = some (some blk) → (lateF D (ll ops.size) (maskF D (rr ops.size) (hh ops.size)))[id]? = some (some blk) := by
      intro id blk hb
      unfold lateM at hb
      have hW : id ∉ W := fun h => (killL_get W _ id).2.1 h blk hb
      rw [(killL_get W _ id).2.2 hW] at hb
      obtain ⟨q1, q2⟩ := maskF_live hb
      have hid := (List.getElem?_eq_some_iff.1 q2).1
      rw [lateF_other, maskF_of fun r hr1 hr2 => ?_]
      · rw [f1, hhn, List.getElem?_append_left (by simp; omega), List.getElem?_append_left hid]; exact q2
      · have := q1 r (early r hr1 id hr2 hid) hr2
        simp only [Bool.and_eq_true] at this
        exact hdep _ this.1
      · intro e he1 he2
        exfalso
        rw [z3] at he1
        obtain ⟨_, _, _, y1, _⟩ := z5 e he1
        rw [he2] at y1
        rcases y1 with y1 | ⟨r, y1, y2, y3⟩
        · exact hW y1
        · have := q1 r (early r y1 id y3 hid) y3
          simp [y2] at this
    have hsub := HR_sub hi.heap seen (by rw [hml]; exact kb)
    rw [hml] at hsub
    have hnm' : SR ι n (restrS (namesOf ops o) s0) a := hnm.congr (fun t => by rw [restrS_get, restrS_get, k0])
    refine .inl (ko _ base w a (hnm'.below ks) hsub _ _ fun v' w' ⟨ι1, q⟩ => ?_)
    simp only [Bool.false_eq_true, if_false] at q
    generalize hmk : lateM W A ((Region.before ops).getD i 0) (rr i) (hh i) = mk at *
    have domN : ∀ (id : Nat) (l : Loc), ι1 id = some l → id < mk.length + N.length := fun id l hl => by have := (q.hr.dom id l hl).1; rwa [List.length_append] at this
    have le1 : Map.le ι1 (ι.mix ι1 mk.length N.length) := by
      intro id l hl
      have h2 := domN id l hl
      simp only [Map.mix]
      by_cases h3 : mk.length ≤ id
      · rw [if_pos ⟨h3, h2⟩]; exact hl
      · rw [if_neg (by omega)]
        rcases q.new id l hl with h | ⟨h, _⟩
        · exact Map.below_le _ _ _ _ h
        · omega
    have rin : (i, (hh i).length, N.length) ∈ rr ops.size := by rw [f2, hrn]; exact List.mem_append_right _ (List.mem_cons_self ..)
    have le2 : Map.le ι (ι.mix ι1 mk.length N.length) := by
      intro id l hl
      simp only [Map.mix]
      by_cases h3 : mk.length ≤ id ∧ id < mk.length + N.length
      · exfalso
        rw [hi.none _ rin hD id (by unfold inRange; simp only; omega)] at hl
        cases hl
      · rw [if_neg h3]; exact hl
    have new1 : ∀ (id : Nat) (l : Loc), mk.length ≤ id → ι1 id = some l → w.heap.size ≤ l.b := by
      intro id l h3 hl
      rcases q.new id l hl with h | ⟨_, h | h⟩
      · simp only [Map.below] at h
        rw [if_neg (by omega)] at h
        cases h
      · exact h
      · exact h.elim
    have hHH : ∀ (id : Nat) (blk : Blk), (lateF (upd D i) (ll ops.size) (maskF (upd D i) (rr ops.size) (hh ops.size)))[id]? = some (some blk) → ((mk.length ≤ id ∧ id < mk.length + N.length) ∧ (mk ++ N)[id]? = some (some blk)) ∨ (¬ (mk.length ≤ id ∧ id < mk.length + N.length) ∧ (lateF D (ll ops.size) (maskF D (rr ops.size) (hh ops.size)))[id]? = some (some blk)) := by
      intro id blk hb
      rw [lateF_congr cl] at hb
      rcases lateF_live hb with ⟨e, e1, e2, e3, e4⟩ | ⟨e1, e2⟩
      · refine .inr ⟨fun h3 => ?_, ?_⟩
        · have := hi.hit e e1 e3 _ rin (by rw [e2]; unfold inRange; simp only; omega)
          simp only at this
          rw [hD] at this; cases this
        · subst e2 e4
          have hidl := (List.getElem?_eq_some_iff.1 hb).1
          rw [lateF_len, maskF_len] at hidl
          exact lateF_hit e1 e3 (by rw [maskF_len]; exact hidl) (fun x hx hxe => by rw [z3] at hx e1; exact (z5 e e1).2.2.2.2.2 x hx hxe)
      · obtain ⟨y1, y2⟩ := maskF_live e2
        by_cases h3 : mk.length ≤ id ∧ id < mk.length + N.length
        · refine .inl ⟨h3, ?_⟩
          rw [f1, hhn, List.getElem?_append_left (by simp; omega), List.getElem?_append_right (by omega)] at y2
          rw [List.getElem?_append_right h3.1, hml]
          exact y2
        · refine .inr ⟨h3, ?_⟩
          rw [lateF_other e1, maskF_of fun r hr1 hr2 => ?_]
          · exact y2
          · have := y1 r hr1 hr2
            rw [upd_true] at this
            rcases this with h | h
            · exact h
            · exfalso
              rw [rzi r hr1 h] at hr2
              unfold inRange at hr2
              simp only at hr2
              omega
    have hHR' := HR_merge hi.heap q.hr q.fr le1 le2 new1 (HD' := lateF (upd D i) (ll ops.size) (maskF (upd D i) (rr ops.size) (hh ops.size))) (by rw [lateF_len, lateF_len, maskF_len, maskF_len]) (by rw [lateF_len, maskF_len]; omega) hHH
    refine hK _ _ w' ⟨cloD, hHR', fun r hr1 hr2 id hid => ?_, fun e e1 e2 r hr1 hr2 => ?_, Inv.put_size hi.size, Inv.put_defers hi.defers,
      hi.slots_upd hk he le2 ho hD (by rw [hsn]; exact kl) (q.vr.mono le1), Map.le_trans hi.le le2, fun id l hl => ?_, hi.fr.trans q.fr (fun _ _ h => h.elim), fun b' hb' hlt' => ?_⟩
    · obtain ⟨d1, d2⟩ := upd_false.1 hr2
      have hnot : ¬ (mk.length ≤ id ∧ id < mk.length + N.length) := by
        rw [f2, hrn] at hr1
        unfold inRange at hid
        rcases List.mem_append.1 hr1 with h | h
        · have h9 := (f4 r h).2.2.1; rw [hhn, List.length_append] at h9; omega
        · rcases List.mem_cons.1 h with rfl | h
          · exact (d2 rfl).elim
          · rw [g2] at h; have := (g4 r h).2.2.2; omega
      simp only [Map.mix]
      rw [if_neg hnot]
      exact hi.none r hr1 d1 id hid
    · rw [cl e e1] at e2
      rw [upd_true]
      exact .inl (hi.hit e e1 e2 r hr1 hr2)
    · by_cases h3 : mk.length ≤ id ∧ id < mk.length + N.length
      · simp only [Map.mix] at hl
        rw [if_pos h3] at hl
        have := new1 id l h3.1 hl
        have := hi.fr.size
        exact .inr ⟨by omega, .inl (by omega)⟩
      · simp only [Map.mix] at hl
        rw [if_neg h3] at hl
        exact hi.new id l hl
    · obtain ⟨id, blk, l, hb, hown, hl, rfl⟩ := hb'
      rcases hHH id blk hb with ⟨h3, h4⟩ | ⟨h3, h4⟩
      · simp only [Map.mix] at hl
        rw [if_pos h3] at hl
        have := new1 id l h3.1 hl
        have := hi.fr.size
        omega
      · simp only [Map.mix] at hl
        rw [if_neg h3] at hl
        exact hi.mo _ ⟨id, blk, l, h4, hown, hl, rfl⟩ hlt'
  | late k0 kw kob kown kid kdis ks kb kp ko knb klen kl =>
    rename_i s0 v h' id ob nb
    rw [if_pos (kw ι a hnm)]
    have hnm' : SR ι n (restrS (namesOf ops o) s0) a := hnm.congr (fun t => by rw [restrS_get, restrS_get, k0])
    obtain ⟨lid, hlid⟩ := kp ι a hnm'
    have hidl := (List.getElem?_eq_some_iff.1 kob).1
    have cr : ∀ r ∈ rr ops.size, upd D i r.1 = D r.1 := by
      intro r hr1
      have : r.1 ≠ i := by
        rw [f2, hrn, g2] at hr1
        rcases List.mem_append.1 hr1 with h | h
        · have := (f4 r h).1; omega
        · have := (g4 r h).2.1; omega
      simp [upd, this]
    have inD : ∀ r ∈ rr ops.size, inRange r id → D r.1 = true := by
      intro r hr1 hr2
      cases hx : D r.1 with
      | true => rfl
      | false => rw [hi.none r hr1 hx id hr2] at hlid; cases hlid
    have ein : (i, id, nb) ∈ ll ops.size := by rw [f3, hln]; exact List.mem_append_right _ (List.mem_cons_self ..)
    have euniq : ∀ e ∈ ll ops.size, e.2.1 = id → e = (i, id, nb) := fun e he1 he2 => by rw [z3] at he1 ein; exact (z5 _ ein).2.2.2.2.2 e he1 he2
    have eidx : ∀ e ∈ ll ops.size, e.1 = i → e = (i, id, nb) := by
      intro e he1 he2
      rw [f3, hln, g3] at he1
      rcases List.mem_append.1 he1 with h | h
      · have := (f5 e h).1; omega
      · rcases List.mem_cons.1 h with rfl | h
        · rfl
        · have := (g5 e h).2.1; omega
    have hHD : (lateF D (ll ops.size) (maskF D (rr ops.size) (hh ops.size)))[id]? = some (some ob) := by
      rw [lateF_other (fun e he1 he2 => by rw [euniq e he1 he2]; exact hD), maskF_of fun r hr1 hr2 => inD r hr1 hr2, f1, hhn, List.getElem?_append_left hidl]
      exact kob
    have hsub := HR_sub hi.heap (h1 := onlyB (hh i) id) (fun j blk hb => by obtain ⟨rfl, e2⟩ := onlyB_live hb; rw [kob] at e2; cases e2; exact hHD) (by rw [onlyB_len]; exact kb)
    rw [onlyB_len] at hsub
    refine .inl (ko _ base w a (hnm'.below ks) hsub _ _ fun v' w' ⟨ι1, q⟩ => ?_)
    simp only [if_true] at q
    have same1 : Map.le ι1 (ι.below (hh i).length) := by
      intro j l hl
      rcases q.new j l hl with h | ⟨h, _⟩
      · exact h
      · have := (q.hr.dom j l hl).1
        rw [onlyB_len] at h
        omega
    have bl : Map.le ι1 ι := Map.le_trans same1 (Map.below_le _ _)
    have hlid1 : ι1 id = ι id := by
      have : (ι.below (hh i).length) id = some lid := by simp only [Map.below]; rw [if_pos hidl]; exact hlid
      rw [q.le _ _ this, hlid]
    have hHH : ∀ (j : Nat) (blk : Blk), (lateF (upd D i) (ll ops.size) (maskF (upd D i) (rr ops.size) (hh ops.size)))[j]? = some (some blk) → (j = id ∧ blk = nb) ∨ (j ≠ id ∧ (lateF D (ll ops.size) (maskF D (rr ops.size) (hh ops.size)))[j]? = some (some blk)) := by
      intro j blk hb
      rw [maskF_congr cr] at hb
      rcases lateF_live hb with ⟨e, e1, e2, e3, e4⟩ | ⟨e1, e2⟩
      · rw [upd_true] at e3
        by_cases hj : j = id
        · have := euniq e e1 (e2.trans hj)
          subst this
          exact .inl ⟨hj, e4⟩
        · refine .inr ⟨hj, ?_⟩
          rcases e3 with e3 | e3
          · have hjl := (List.getElem?_eq_some_iff.1 hb).1
            rw [lateF_len, maskF_len] at hjl
            subst e2 e4
            exact lateF_hit e1 e3 (by rw [maskF_len]; exact hjl) (fun x hx hxe => by rw [z3] at hx e1; exact (z5 e e1).2.2.2.2.2 x hx hxe)
          · have := eidx e e1 e3
            subst this
            exact (hj e2.symm).elim
      · have hj : j ≠ id := by
          rintro rfl
          have := e1 _ ein rfl
          rw [show upd D i i = true by rw [upd_true]; exact .inr rfl] at this
          cases this
        refine .inr ⟨hj, ?_⟩
        rw [lateF_other fun e he1 he2 => (upd_false.1 (e1 e he1 he2)).1]
        exact e2
    have modsW : ∀ b', mods (ι.below (hh i).length) (onlyB (hh i) id) b' → mods ι (lateF D (ll ops.size) (maskF D (rr ops.size) (hh ops.size))) b' := by
      rintro b' ⟨j, blk, l, hb, hown, hl, rfl⟩
      obtain ⟨rfl, e2⟩ := onlyB_live hb
      rw [kob] at e2
      cases e2
      exact ⟨_, _, l, hHD, hown, Map.below_le _ _ _ _ hl, rfl⟩
    have hHR' := HR_late hi.heap hHD kown q.fr (fun j blk hb => (onlyB_live hb).1) (κ := ι.below (hh i).length) (Map.below_le _ _) (by simp only [Map.below]; rw [if_pos hidl]) (h2 := h') (nb := nb)
      (by
        have : ι1 = ι.below (hh i).length := by
          funext j
          cases hx : ι1 j with
          | some l => exact (same1 j l hx).symm
          | none =>
            cases hy : (ι.below (hh i).length) j with
            | none => rfl
            | some l => rw [q.le j l hy] at hx; cases hx
        rw [← this]; exact q.hr) knb (H' := lateF (upd D i) (ll ops.size) (maskF (upd D i) (rr ops.size) (hh ops.size))) (by rw [lateF_len, lateF_len, maskF_len, maskF_len]) hHH
    refine hK ι _ w' ⟨cloD, hHR', fun r hr1 hr2 => hi.none r hr1 (upd_false.1 hr2).1, fun e e1 e2 r hr1 hr2 => ?_, Inv.put_size hi.size, Inv.put_defers hi.defers,
      hi.slots_upd hk he (Map.le_refl _) ho hD (by rw [hsn]; exact kl) (q.vr.mono bl), hi.le, hi.new, hi.fr.trans q.fr (fun b' hb' hm => hi.mo b' (modsW b' hm) hb'), fun b' hb' hlt' => ?_⟩
    · rw [upd_true] at e2 ⊢
      rcases e2 with e2 | e2
      · exact .inl (hi.hit e e1 e2 r hr1 hr2)
      · have := eidx e e1 e2
        subst this
        exact .inl (inD r hr1 hr2)
    · obtain ⟨j, blk, l, hb, hown, hl, rfl⟩ := hb'
      rcases hHH j blk hb with ⟨rfl, rfl⟩ | ⟨_, h4⟩
      · exact hi.mo _ ⟨j, ob, l, hHD, kown, hl, rfl⟩ hlt'
      · exact hi.mo _ ⟨j, blk, l, h4, hown, hl, rfl⟩ hlt'

/-- Every order comes to the same. -/
theorem InvL.any (hr : RunL P n ops (Region.before ops) W A ss hh rr ll) (h0 : rr 0 = []) (hl0 : ll 0 = []) (hk : slotsOK ops (Region.before ops) = true) (he : edgesOK ops = true) {ι0 : Map} {base : Nat} {w0 : World} {Q : Exit → Act → World → Prop}
    (hQ : ∀ a' w', StepS ι0 n base (hh 0) w0 (ss ops.size) (lateF (fun _ => true) (ll ops.size) (hh ops.size)) a' w' → Q .normal a' w') :
    ∀ (fuel : Nat) (listed : Array Bool) (ι : Map) (a : Act) (w : World), listed.size = ops.size → left (fun i => listed.getD i false) ops.size ≤ fuel →
      InvL n ops (Region.before ops) ss (hh 0) (hh ops.size) (rr ops.size) (ll ops.size) (fun i => listed.getD i false) ι0 base w0 ι a w → wpAny P .any ops Q fuel listed a w := by
  intro fuel listed ι a w hsz hfu hi
  obtain ⟨Mz, Ez, Fz, z1, z2, z3, z4, z5, z6⟩ := hr.begins (i := 0) (m := ops.size) (by omega)
  rw [Nat.zero_add] at z1 z2 z3 z4 z5 z6
  rw [h0, List.append_nil] at z2
  rw [hl0, List.append_nil] at z3
  have key : ∀ i, i ∈ Region.ready .any ops listed → (∃ o, ops[i]? = some o) ∧ listed.getD i false = false ∧ ∀ k, ((Region.before ops).getD i 0).testBit k = true → listed.getD k false = true := by
    intro i hm
    obtain ⟨q1, o, q2, q3⟩ := mem_ready.1 hm
    have hlt := (Array.getElem?_eq_some_iff.1 q2).1
    refine ⟨⟨o, q2⟩, ?_, fun k hkb => ?_⟩
    · rw [Array.getD_eq_getD_getElem?, Array.getElem?_eq_getElem (by omega)] at q1 ⊢
      exact q1
    · obtain ⟨e, e1, e2, e3⟩ := before_spec ops i k o q2 hkb
      have hon := q3 e e1 e2
      rcases e3 with e3 | ⟨_, e3⟩
      · rw [← e3]; exact hon
      · exact hi.clo e.on k hon e3
  have fin : (∀ i, i < ops.size → listed.getD i false = true) → Q .normal a w := by
    intro all
    have eH : lateF (fun i => listed.getD i false) (ll ops.size) (maskF (fun i => listed.getD i false) (rr ops.size) (hh ops.size)) = lateF (fun _ => true) (ll ops.size) (hh ops.size) := by
      rw [lateF_congr (keep' := fun _ => true) (fun e he1 => by rw [z3] at he1; exact all _ (by have := (z5 e he1).2.1; omega))]
      congr 1
      apply List.ext_getElem?
      intro j
      exact maskF_of fun r hr1 _ => all _ (by rw [z2] at hr1; have := (z4 r hr1).2.1; omega)
    refine hQ a w ⟨ι, hi.le, hi.new, by rw [← eH]; exact hi.heap, ⟨hi.size, hi.defers, fun t v hv => hi.slots t v ?_⟩, hi.fr, fun b' hb' hlt => hi.mo b' (by rw [eH]; exact hb') hlt, by rw [lateF_len, z1]; simp⟩
    rw [sv_textL hr (Nat.le_refl _) (fun i hi1 _ => all i hi1)]
    exact hv
  have some_ready : Region.ready .any ops listed = [] → ∀ i, i < ops.size → listed.getD i false = true := by
    intro hn i
    induction i using Nat.strongRecOn with
    | _ i ih =>
      intro hi1
      cases hD : listed.getD i false with
      | true => rfl
      | false =>
        exfalso
        have : i ∈ Region.ready .any ops listed := by
          refine mem_ready.2 ⟨?_, ops[i], Array.getElem?_eq_getElem hi1, fun e e1 e2 => ?_⟩
          · rw [Array.getD_eq_getD_getElem?, Array.getElem?_eq_getElem (by omega)] at hD ⊢
            exact hD
          · have := edges_spec he (Array.getElem?_eq_getElem hi1) e1 e2
            exact ih e.on this (by omega)
        rw [hn] at this
        cases this
  cases fuel with
  | zero =>
    have all := left_zero (D := fun i => listed.getD i false) (m := ops.size) (by omega)
    refine ⟨?_, fin all⟩
    cases hrd : Region.ready .any ops listed with
    | nil => rfl
    | cons i l =>
      exfalso
      obtain ⟨⟨o, ho⟩, h1, _⟩ := key i (by rw [hrd]; exact List.mem_cons_self ..)
      have h2 := all i (Array.getElem?_eq_some_iff.1 ho).1
      rw [h1] at h2
      cases h2
  | succ fuel =>
    refine ⟨fun hn => fin (some_ready hn), fun i hm => ?_⟩
    obtain ⟨⟨o, ho⟩, hD, hdep⟩ := key i hm
    have hlt := (Array.getElem?_eq_some_iff.1 ho).1
    have hup : upd (fun i => listed.getD i false) i = fun k => (listed.setIfInBounds i true).getD k false := by
      funext k
      simp only [upd]
      by_cases e : k = i
      · subst e
        rw [Array.getD_eq_getD_getElem? (xs := listed.setIfInBounds k true), Array.getElem?_setIfInBounds_self_of_lt (by omega)]
        simp
      · rw [Array.getD_eq_getD_getElem? (xs := listed.setIfInBounds i true), Array.getElem?_setIfInBounds_ne (fun h => e h.symm), ← Array.getD_eq_getD_getElem?, show (k == i) = false by simp [e], Bool.or_false]
    refine hi.step hr h0 hl0 hk he ho hD hdep fun ι' a' w' hi' => ?_
    rw [hup] at hi'
    refine InvL.any hr h0 hl0 hk he hQ fuel (listed.setIfInBounds i true) ι' a' w' (by simp [hsz]) ?_ hi'
    rw [← hup]
    have := left_upd (D := fun i => listed.getD i false) hD hlt
    omega

/-- A region whose order is open. -/
theorem drawL_region {S : Spec} {out : Res} (hS : SpecOK P S) (hm : P.follows .mixedOrders = true) {id : Nat} {s : Slots} {h : Heap} {k : Slots → Heap → Out} (hok : (slotsOK ops (Region.before ops) && edgesOK ops) = true) (hk : drawL P S n ops (Region.before ops) W A ops.toList 0 s h [] [] (fun s h ls => k s (lateF (fun _ => true) ls h)) = some out) :
    ∃ s' h', k s' h' = some out ∧ ∀ (ι : Map) (base : Nat) (w : World) (a : Act) (Q : Exit → Act → World → Prop), SR ι n s a → HR ι base h w → (∀ a' w', StepS ι n base h w s' h' a' w' → Q .normal a' w') → (Code.region id ops true).wp P Q a w := by
  rw [Bool.and_eq_true] at hok
  obtain ⟨hsl, hed⟩ := hok
  obtain ⟨ss, hh, rr, ll, rfl, rfl, e3, e3b, e4, e5⟩ := drawL_trace hS hk (fun i => by simp)
  simp only [Array.length_toList, Nat.zero_add] at e4 e5
  have hr : RunL P n ops (Region.before ops) W A ss hh rr ll := fun i o h1 h2 => e5 i o (Nat.zero_le _) h1 h2
  refine ⟨_, _, e4, fun ι base w a Q hs hhr hq => wp_region_any hm ?_⟩
  obtain ⟨M, E, F, f1, f2, f3, f4, f5, f6⟩ := hr.begins (i := 0) (m := ops.size) (by omega)
  rw [Nat.zero_add] at f1 f2 f3 f4 f5 f6
  rw [e3, List.append_nil] at f2
  rw [e3b, List.append_nil] at f3
  have nofalse : ∀ i, (Array.replicate ops.size false).getD i false = false := by
    intro i
    rw [Array.getD_eq_getD_getElem?, Array.getElem?_replicate]
    split <;> rfl
  have hDf : (fun i => (Array.replicate ops.size false).getD i false) = fun _ => false := funext nofalse
  refine InvL.any hr e3 e3b hsl hed (w0 := w) hq ops.size _ ι a _ (by simp) (left_le _ _) ?_
  rw [hDf]
  have live : ∀ (id : Nat) (blk : Blk), (lateF (fun _ => false) (ll ops.size) (maskF (fun _ => false) (rr ops.size) (hh ops.size)))[id]? = some (some blk) → (hh 0)[id]? = some (some blk) := by
    intro id blk hb
    rw [lateF_other (fun _ _ _ => rfl)] at hb
    obtain ⟨g1, g2⟩ := maskF_live hb
    have hidl := (List.getElem?_eq_some_iff.1 g2).1
    by_cases hid : id < (hh 0).length
    · rw [f1, List.getElem?_append_left hid] at g2; exact g2
    · exfalso
      obtain ⟨r, hr1, hr2⟩ := f6 id (by omega) hidl
      have := g1 r (by rw [f2]; exact hr1) hr2
      cases this
  refine ⟨fun j i hj => (by cases hj), ?_, fun r hr1 _ id hid => ?_, fun e _ he2 => (by cases he2), hs.1, hs.2.1, fun t u hu => ?_, Map.le_refl _, fun id l hl => .inl hl, ?_, fun b' hb' _ => mods_live live hb'⟩
  · exact HR_ext (HR.sameHeap (w := w) (w' := { w with drawn := w.drawn + 1 }) rfl hhr) live (by rw [lateF_len, maskF_len, f1]; simp)
  · rw [f2] at hr1
    have := (f4 r hr1).2.2.1
    exact hhr.fresh (by unfold inRange at hid; omega)
  · have : ∀ j, sv ops ss (fun _ => false) j t = getS (ss 0) t := by
      intro j
      induction j with
      | zero => rfl
      | succ j ih => simp only [sv]; rw [if_neg (by simp)]; exact ih
    rw [this] at hu
    exact hs.2.2 t u hu
  · exact ⟨Nat.le_refl _, fun b _ _ => rfl, rfl, rfl, rfl, fun a => rfl⟩
end
end Go.Proofs.Ytfgehfnlkakioaa.VC
