/- A map's literal whose entries come in any order: every order comes to the same map. -/
import Derived.Test.YtcjjngdkkihgjaaVX2
namespace Go.Proofs.Ytcjjngdkkihgjaa.VC
open Go

theorem forget1_some {x : Option Blk} {blk : Blk} (h : forget1 x = some blk) : x = some blk := by
  unfold forget1 at h
  split at h
  · cases h
  · exact h
theorem forgetM_get {h N : Heap} {id : Nat} {blk : Blk} (hb : (h ++ forgetM N)[id]? = some (some blk)) : (h ++ N)[id]? = some (some blk) := by
  by_cases hi : id < h.length
  · rw [List.getElem?_append_left hi] at hb ⊢; exact hb
  · rw [List.getElem?_append_right (by omega)] at hb ⊢
    unfold forgetM at hb
    rw [List.getElem?_map] at hb
    cases hx : N[id - h.length]? with
    | none => rw [hx] at hb; cases hb
    | some x => rw [hx] at hb; rw [forget1_some (Option.some.inj hb)]
theorem forgetM_len {h : Heap} : (forgetM h).length = h.length := by unfold forgetM; rw [List.length_map]
theorem OpS_forget {P : Program} {n : Nat} {s : Slots} {h N : Heap} {o : Oper} {v : Value} (ho : OpS P n s h o v (h ++ N) false) : OpS P n s h o v (h ++ forgetM N) false := by
  intro ι base w a hs hr next Q hn
  exact ho ι base w a hs hr next Q fun v' w' ⟨ι', q⟩ => hn v' w' ⟨ι', q.le, q.new, HR_ext q.hr (fun _ _ => forgetM_get) (by rw [List.length_append, List.length_append, forgetM_len]; exact Nat.le_refl _), q.vr, q.fr, fun b hb => q.mo b (mods_live (fun _ _ => forgetM_get) hb)⟩

section
variable {P : Program} {S : Spec} {n : Nat} {out : Res}
theorem drawM_trace (hS : SpecOK P S) {ops : Array Oper} {b : Array Nat} : ∀ {l : List Oper} {j : Nat} {s : Slots} {h : Heap} {rs : List (Nat × Nat × Nat)} {k : Slots → Heap → Out}, drawM P S n ops b l j s h rs k = some out → (∀ i, l[i]? = ops[j + i]?) →
    ∃ (ss : Nat → Slots) (hh : Nat → Heap) (rr : Nat → List (Nat × Nat × Nat)), ss j = s ∧ hh j = h ∧ rr j = rs ∧ k (ss (j + l.length)) (hh (j + l.length)) = some out ∧
      ∀ i o, j ≤ i → i < j + l.length → ops[i]? = some o → StepTr P n ops b (fun _ => false) [] i o (ss i) (hh i) (rr i) (ss (i + 1)) (hh (i + 1)) (rr (i + 1)) ∧ o.guard = none ∧ (calmAt (fun _ => false) ops i = true ∨ rr (i + 1) ≠ []) ∧ (isMk o.op = true → (hh (i + 1)).length = (hh i).length + 1)
  | [], j, s, h, rs, k, hk, _ => ⟨fun _ => s, fun _ => h, fun _ => rs, rfl, rfl, rfl, hk, fun i o h1 h2 => by simp at h2; omega⟩
  | o :: r, j, s, h, rs, k, hk, hl => by
    have hoj : ops[j]? = some o := by have := hl 0; simpa using this.symm
    have hr' : ∀ i, r[i]? = ops[j + 1 + i]? := fun i => by
      have := hl (i + 1)
      rw [List.getElem?_cons_succ] at this
      rw [this]; congr 1; omega
    have glue : ∀ (s1 : Slots) (h1 : Heap) (rs1 : List (Nat × Nat × Nat)), StepTr P n ops b (fun _ => false) [] j o s h rs s1 h1 rs1 → o.guard = none → (calmAt (fun _ => false) ops j = true ∨ rs1 ≠ []) → (isMk o.op = true → h1.length = h.length + 1) → drawM P S n ops b r (j + 1) s1 h1 rs1 k = some out →
        ∃ (ss : Nat → Slots) (hh : Nat → Heap) (rr : Nat → List (Nat × Nat × Nat)), ss j = s ∧ hh j = h ∧ rr j = rs ∧ k (ss (j + (o :: r).length)) (hh (j + (o :: r).length)) = some out ∧
          ∀ i o', j ≤ i → i < j + (o :: r).length → ops[i]? = some o' → StepTr P n ops b (fun _ => false) [] i o' (ss i) (hh i) (rr i) (ss (i + 1)) (hh (i + 1)) (rr (i + 1)) ∧ o'.guard = none ∧ (calmAt (fun _ => false) ops i = true ∨ rr (i + 1) ≠ []) ∧ (isMk o'.op = true → (hh (i + 1)).length = (hh i).length + 1) := by
      intro s1 h1 rs1 hst hg hcm hmk hd
      obtain ⟨ss, hh, rr, e1, e2, e3, e4, e5⟩ := drawM_trace hS hd hr'
      refine ⟨fun i => if i = j then s else ss i, fun i => if i = j then h else hh i, fun i => if i = j then rs else rr i, by simp, by simp, by simp, ?_, fun i o' h1 h2 h3 => ?_⟩
      · have : j + (o :: r).length = j + 1 + r.length := by simp; omega
        rw [this]
        simp only [show ¬ (j + 1 + r.length = j) by omega, if_false]
        exact e4
      · by_cases e : i = j
        · subst e
          rw [hoj] at h3
          cases h3
          simp only [if_true, show ¬ (i + 1 = i) by omega, if_false, e1, e2, e3]
          exact ⟨hst, hg, hcm, hmk⟩
        · simp only [e, if_false, show ¬ (i + 1 = j) by omega]
          exact e5 i o' (by omega) (by simp at h2; omega) h3
    simp only [drawM] at hk
    split at hk
    · cases hk
    · rename_i hg
      have hw : ∀ (ι : Map) (a : Act), SR ι n (restrS (namesOf ops o) s) a → Region.wanted o (yielded ops a.tmps) = true := fun ι a _ => by simp [Region.wanted, hg]
      have hpj : calmAt (fun _ => false) ops j = calmOp (fun _ => false) j o.op := by simp [calmAt, hoj]
      rcases bif_some hk with ⟨hpu, hk⟩ | ⟨hpu, hk⟩
      · obtain ⟨hbd, hk⟩ := bif_none hk
        simp only [Bool.and_eq_true] at hbd
        obtain ⟨hbd, hbd2, _⟩ := hbd
        obtain ⟨v, h1, q1, q2, q3, q4⟩ := opK_sound (n := n) hS hk
        obtain ⟨he, q1⟩ := bif_none q1
        obtain ⟨s1, p1, p2⟩ := putS_some q1
        have hmo := pure_modifies (S := S) (s := restrS (namesOf ops o) s) hpu
        rw [hmo] at q2
        obtain ⟨N, hN⟩ := q4 hmo
        have he := beq_true he
        subst hN
        have hN : N = [] := by
          rw [List.length_append] at he
          have : (padH [] h.length).length = h.length := by simp [padH]
          exact List.length_eq_zero_iff.1 (by omega)
        subst hN
        rw [List.append_nil] at q2
        exact glue s1 h rs (.pure (fun _ => rfl) hw (hpj.trans hpu) hbd hbd2 (Nat.zero_le _) q2 p2) hg (.inl (hpj.trans hpu)) (fun hm => by cases hx : o.op <;> rw [hx] at hm hpu <;> first | (simp [calmOp, pureOp, isLoad] at hpu; done) | (simp [isMk] at hm)) p1
      have hpj := hpj.trans hpu
      obtain ⟨hmo, hk⟩ := bif_none' hk
      obtain ⟨hbd, hk⟩ := bif_none' hk
      simp only [Bool.not_eq_false', Bool.and_eq_true] at hbd
      obtain ⟨v, h1, q1, q2, q3, q4⟩ := opK_sound (n := n) hS hk
      obtain ⟨hmk, q1⟩ := bif_none q1
      obtain ⟨s1, p1, p2⟩ := putS_some q1
      rw [hmo] at q2
      obtain ⟨N, hN⟩ := q4 hmo
      have hml := (maskF_get (keep := fun i => (b.getD j 0).testBit i) rs h 0).1
      rw [maskH_eq] at q2 hbd hN
      subst hN
      have e1 : (maskF (fun i => (b.getD j 0).testBit i) rs h ++ N).drop h.length = N := by rw [← hml]; simp
      have e2 : (maskF (fun i => (b.getD j 0).testBit i) rs h ++ N).length - h.length = (forgetM N).length := by rw [List.length_append, hml, forgetM_len]; omega
      rw [e1, e2] at p1
      exact glue s1 (h ++ forgetM N) _ (.non hpj (fun _ => rfl) hw hbd.1 hbd.2 (OpS_forget q2) p2) hg (.inr (by simp)) (fun hm => by rw [hm] at hmk; simp only [Bool.not_true, Bool.false_or] at hmk; have := beq_true hmk; rw [List.length_append, forgetM_len]; rw [List.length_append, hml] at this; exact this) p1
end

section
variable {P : Program} {n : Nat} {ops : Array Oper} {T : Nat → Bool} {stl : Heap} {ss : Nat → Slots} {hh : Nat → Heap} {rr : Nat → List (Nat × Nat × Nat)}
/-- An operation that does nothing to slots, while the world turns where nothing is told. -/
theorem Inv.still (hr : Run P n ops (Region.before ops) T stl ss hh rr) (h0 : rr 0 = []) {D : Nat → Bool} {z : Nat} {ι0 ι : Map} {base : Nat} {w0 w w' : World} {a : Act}
    (hi : Inv T n ops (Region.before ops) ss hh rr D z ι0 base w0 ι a w) {i : Nat} {o : Oper} (ho : ops[i]? = some o) (hdep : ∀ k, ((Region.before ops).getD i 0).testBit k = true → D k = true) (hp : calmAt T ops i = true) (hd : o.dst = Option.none)
    (hheap : HR ι base (maskF D (rr z) (hh z)) w') (hfr : Fr (fun b => w0.heap.size ≤ b) w w') : Inv T n ops (Region.before ops) ss hh rr (upd D i) z ι0 base w0 ι a w' := by
  have cloD : ∀ j k, upd D i j = true → ((Region.before ops).getD j 0).testBit k = true → upd D i k = true := by
    intro j k hj hb
    rw [upd_true] at hj ⊢
    rcases hj with hj | rfl
    · exact .inl (hi.clo j k hj hb)
    · exact .inl (hdep k hb)
  have rng := hr.ranges h0 (i := z) hi.hz
  have idx : ∀ r ∈ rr z, r.1 ≠ i := fun r hr1 e => by have := (rng r hr1).2.2; rw [e, hp] at this; cases this
  have live : ∀ (id : Nat) (blk : Blk), (maskF (upd D i) (rr z) (hh z))[id]? = some (some blk) → (maskF D (rr z) (hh z))[id]? = some (some blk) := by
    intro id blk hb
    obtain ⟨g1, g2⟩ := maskF_live hb
    rw [maskF_of fun r hr1 hr2 => ?_]
    · exact g2
    · have := g1 r hr1 hr2
      rw [upd_true] at this
      rcases this with h | h
      · exact h
      · exact (idx r hr1 h).elim
  refine ⟨hi.hz, fun k hk1 hk2 => ?_, fun k h1 h2 => by rw [upd_true]; exact .inl (hi.mds k h1 h2), hi.zz, cloD, HR_ext hheap live (by rw [maskF_len, maskF_len]; exact Nat.le_refl _), fun r hr1 hr2 => hi.none r hr1 (upd_false.1 hr2).1, hi.size, hi.defers, fun t u hu => hi.slots t u ?_, hi.le, hi.new, hi.fr.trans hfr (fun b hb h => by omega), fun b' hb' => hi.mo b' (mods_live live hb')⟩
  · rw [upd_true] at hk1
    rcases hk1 with h | rfl
    · exact hi.below k h hk2
    · rw [hp] at hk2; cases hk2
  · rw [← hu]
    refine (sv_congr fun k _ hw => ?_).symm
    simp only [upd]
    by_cases e : k = i
    · subst e
      unfold writes at hw
      rw [ho] at hw
      simp [hd] at hw
    · simp [e]
/-- Whatever all have written is there. -/
theorem Inv.final (hr : Run P n ops (Region.before ops) T stl ss hh rr) {D : Nat → Bool} {z : Nat} {ι0 ι : Map} {base : Nat} {w0 w : World} {a : Act} (hi : Inv T n ops (Region.before ops) ss hh rr D z ι0 base w0 ι a w)
    {t : Nat} {u : Value} (hu : getS (ss ops.size) t = some u) (hD : ∀ k, k < ops.size → writes ops k t → D k = true) : VR ι u (a.tmps.getD t undef) := by
  refine hi.slots t u ?_
  rw [sv_text hr (Nat.le_refl _) hD]
  exact hu
end
/-! #### entries -/
theorem VRs.split {ι : Map} : ∀ {xs xs' ys ys' : List Value}, xs.length = xs'.length → VRs ι (xs ++ ys) (xs' ++ ys') → VRs ι xs xs' ∧ VRs ι ys ys'
  | [], [], ys, ys', _, h => ⟨VRs.nil, h⟩
  | x :: xs, x' :: xs', ys, ys', hl, h => by
    have := VRs.split (xs := xs) (xs' := xs') (by simpa using hl) h.tail
    exact ⟨VRs.cons h.head this.1, this.2⟩
  | [], _ :: _, _, _, hl, _ => by simp at hl
  | _ :: _, [], _, _, hl, _ => by simp at hl
theorem MapRel.mid {ι : Map} {l : Loc} {es : Nat} {w : World} {A B : List (Value × Value)} {e : Value × Value} (h : MapRel ι l ⟨true, es, [.mp false (A ++ B ++ [e])]⟩ w) : MapRel ι l ⟨true, es, [.mp false (A ++ e :: B)]⟩ w := by
  obtain ⟨os, clock, ents, h1, h2, h3, h4, h5, rs, h6, h7, h8⟩ := h
  obtain ⟨lf, h2, _⟩ := h2
  simp only [List.cons.injEq, Seg.mp.injEq, and_true] at h2
  obtain ⟨rfl, rfl⟩ := h2
  have hp : (A ++ e :: B).Perm (A ++ B ++ [e]) := List.perm_middle.trans (List.perm_append_singleton e (A ++ B)).symm
  rw [List.map_append, List.map_append, List.map_eq_append_iff] at h7
  obtain ⟨rab, rc, rfl, h7, h7c⟩ := h7
  rw [List.map_eq_append_iff] at h7
  obtain ⟨ra, rb, rfl, h7a, h7b⟩ := h7
  obtain ⟨r, rfl⟩ : ∃ r, rc = [r] := by
    have := congrArg List.length h7c
    cases rc with
    | nil => simp at this
    | cons r q => cases q with
      | nil => exact ⟨r, rfl⟩
      | cons _ _ => simp at this
  have la : A.length = ra.length := by have := congrArg List.length h7a; simpa using this.symm
  have lb : B.length = rb.length := by have := congrArg List.length h7b; simpa using this.symm
  rw [List.map_append, List.map_append, List.map_append, List.map_append] at h8
  obtain ⟨v1, v3⟩ := VRs.split (by simp [la, lb]) h8
  obtain ⟨v1, v2⟩ := VRs.split (by simp [la]) v1
  refine ⟨os, clock, A ++ e :: B, h1, ⟨false, rfl, fun e => by cases e⟩, h3, ((hp.map _).nodup_iff).2 h4, fun k hk => h5 k ((hp.map _).mem_iff.1 hk), ra ++ r :: rb, List.Perm.trans ?_ h6, ?_, ?_⟩
  · exact List.perm_middle.trans (List.perm_append_singleton r (ra ++ rb)).symm
  · have h7c : r.key = e.1 := by simpa using h7c
    rw [List.map_append, List.map_cons, List.map_append, List.map_cons, h7a, h7b, h7c]
  · rw [List.map_append, List.map_cons, List.map_append, List.map_cons]
    exact VRs.append v1 (VRs.append (xs := [e.2]) (ys := [r.val]) v3 v2)
theorem filter_upd {β : Type} {D : Nat → Bool} {i : Nat} {e : β} : ∀ {L : List (Nat × β)}, (L.map (·.1)).Nodup → (i, e) ∈ L → D i = false → ∃ A B, L.filter (fun x => D x.1) = A ++ B ∧ L.filter (fun x => upd D i x.1) = A ++ (i, e) :: B
  | [], _, h, _ => by cases h
  | x :: r, hn, hm, hD => by
    rw [List.map_cons, List.nodup_cons] at hn
    rcases List.mem_cons.1 hm with rfl | hm
    · refine ⟨[], r.filter (fun x => D x.1), by rw [List.filter_cons_of_neg (by simp [hD])]; rfl, ?_⟩
      rw [List.filter_cons_of_pos (by simp [upd]), List.nil_append]
      congr 1
      refine List.filter_congr fun y hy => ?_
      have : y.1 ≠ i := fun e => hn.1 (by rw [← e]; exact List.mem_map.2 ⟨y, hy, rfl⟩)
      simp [upd, this]
    · obtain ⟨A, B, h1, h2⟩ := filter_upd hn.2 hm hD
      have hx : x.1 ≠ i := fun hxe => hn.1 (List.mem_map.2 ⟨(i, e), hm, hxe.symm⟩)
      have hu : upd D i x.1 = D x.1 := by simp [upd, hx]
      cases hDx : D x.1 with
      | true => exact ⟨x :: A, B, by rw [List.filter_cons_of_pos (by simpa using hDx), h1]; rfl, by rw [List.filter_cons_of_pos (by simp [hu, hDx]), h2]; rfl⟩
      | false => exact ⟨A, B, by rw [List.filter_cons_of_neg (by simp [hDx]), h1], by rw [List.filter_cons_of_neg (by simp [hu, hDx]), h2]⟩
theorem filter_same {β : Type} {D : Nat → Bool} {i : Nat} {L : List (Nat × β)} (h : ∀ x ∈ L, x.1 ≠ i) : L.filter (fun x => upd D i x.1) = L.filter (fun x => D x.1) :=
  List.filter_congr fun y hy => by simp [upd, h y hy]
theorem bif_o {α : Type} {q : Bool} {x : Option α} {l : α} (h : (bif q then x else none) = some l) : q = true ∧ x = some l := by
  cases q with
  | true => exact ⟨rfl, h⟩
  | false => cases h
theorem insL_spec {s : Slots} {t : TypeId} {d id : Nat} : ∀ {l : List Oper} {j : Nat} {L : List (Nat × (Value × Value))}, insL s t d id l j = some L →
    (∀ e ∈ L, j ≤ e.1 ∧ ∃ o key v, l[e.1 - j]? = some o ∧ o.op = .insert t (.tmp d) key v ∧ o.dst = none ∧ getS s d = some (.map (some id)) ∧ opnd s key = some e.2.1 ∧ opnd s v = some e.2.2) ∧
    (∀ (i : Nat) (o : Oper), l[i]? = some o → isIns o.op = true → ∃ e ∈ L, e.1 = j + i) ∧ (L.map (·.1)).Nodup
  | [], j, L, h => by
    simp only [insL] at h
    cases h
    exact ⟨fun e he => (by cases he), fun i o ho => (by simp at ho), List.nodup_nil⟩
  | o :: r, j, L, h => by
    -- what comes behind
    have next : ∀ {L' : List (Nat × (Value × Value))}, insL s t d id r (j + 1) = some L' → (∀ e ∈ L', j + 1 ≤ e.1 ∧ ∃ o' key v, (o :: r)[e.1 - j]? = some o' ∧ o'.op = .insert t (.tmp d) key v ∧ o'.dst = none ∧ getS s d = some (.map (some id)) ∧ opnd s key = some e.2.1 ∧ opnd s v = some e.2.2) ∧
        (∀ (i : Nat) (o' : Oper), r[i]? = some o' → isIns o'.op = true → ∃ e ∈ L', e.1 = j + (i + 1)) ∧ (L'.map (·.1)).Nodup := by
      intro L' h'
      obtain ⟨h1, h2, h3⟩ := insL_spec h'
      refine ⟨fun e he => ?_, fun i o' ho' hi => ?_, h3⟩
      · obtain ⟨q1, o', key, v, q2, q3⟩ := h1 e he
        refine ⟨q1, o', key, v, ?_, q3⟩
        rw [show e.1 - j = e.1 - (j + 1) + 1 by omega, List.getElem?_cons_succ]; exact q2
      · obtain ⟨e, he, q⟩ := h2 i o' ho' hi
        exact ⟨e, he, by omega⟩
    unfold insL at h
    split at h
    · rename_i t' m key v hop
      split at h
      · rename_i id' kv vv hd hg hm hkey hv
        obtain ⟨hc, hq⟩ := bif_o h
        clear h
        have h := hq
        clear hq
        simp only [Bool.and_eq_true] at hc
        obtain rfl := beq_true hc.1
        obtain rfl := beq_true hc.2.1
        obtain rfl := beq_true hc.2.2
        split at h
        · rename_i L' hL'
          cases h
          obtain ⟨h1, h2, h3⟩ := next hL'
          refine ⟨fun e he => ?_, fun i o' ho' hi => ?_, ?_⟩
          · rcases List.mem_cons.1 he with rfl | he
            · exact ⟨Nat.le_refl _, o, key, v, by simp, hop, hd, hm, hkey, hv⟩
            · obtain ⟨q1, q2⟩ := h1 e he
              exact ⟨by omega, q2⟩
          · cases i with
            | zero => exact ⟨_, List.mem_cons_self .., rfl⟩
            | succ i =>
              obtain ⟨e, he, q⟩ := h2 i o' (by simpa using ho') hi
              exact ⟨e, List.mem_cons_of_mem _ he, q⟩
          · rw [List.map_cons, List.nodup_cons]
            refine ⟨fun hm => ?_, h3⟩
            obtain ⟨e, he, q⟩ := List.mem_map.1 hm
            have := (h1 e he).1
            omega
        · cases h
      · cases h
    · cases h
    · rename_i hn1 hn2
      obtain ⟨h1, h2, h3⟩ := next h
      refine ⟨fun e he => ?_, fun i o' ho' hi => ?_, h3⟩
      · obtain ⟨q1, q2⟩ := h1 e he
        exact ⟨by omega, q2⟩
      · cases i with
        | zero =>
          exfalso
          obtain rfl : o = o' := by simpa using ho'
          cases hop : o.op <;> rw [hop] at hi <;> first | cases hi | skip
          exact hn2 _ _ _ _ hop
        | succ i => exact h2 i o' (by simpa using ho') hi
theorem keysD_spec {P : Program} {kt : TypeId} {nk : Nat} {L : List (Nat × (Value × Value))} : ∀ {l : List (Nat × (Value × Value))}, keysD P kt nk l L = true → ∀ e ∈ l, keyV P kt nk e.2.1 = true ∧ ∀ e' ∈ L, e'.1 ≠ e.1 → eqV P 20 kt e.2.1 e'.2.1 = some false
  | [], _, e, he => by cases he
  | (i, (k, v)) :: r, h, e, he => by
    simp only [keysD, Bool.and_eq_true] at h
    rcases List.mem_cons.1 he with rfl | he
    · refine ⟨h.1.1, fun e' he' hne => ?_⟩
      have := List.all_eq_true.1 h.1.2 e' he'
      rw [Bool.or_eq_true] at this
      rcases this with h1 | h1
      · exact (hne (beq_true h1)).elim
      · split at h1
        · rename_i b hb
          rw [hb]
          cases b with
          | false => rfl
          | true => cases h1
        · cases h1
    · exact keysD_spec h.2 e he
theorem findM_miss {P : Program} {kt : TypeId} {key : Value} {found : Nat → Value → Out} {miss : Out} : ∀ {E : List (Value × Value)} {i : Nat}, (∀ e ∈ E, eqV P 20 kt key e.1 = some false) → findM P kt key found miss E i = miss
  | [], _, _ => rfl
  | (k, v) :: r, i, h => by
    have h1 : eqV P 20 kt key k = some false := h (k, v) (List.mem_cons_self ..)
    simp only [findM, h1, cond_false]
    exact findM_miss fun e he => h e (List.mem_cons_of_mem _ he)
theorem keysV_all {P : Program} {kt : TypeId} {nk : Nat} {key : Value} : ∀ {E : List (Value × Value)}, (∀ e ∈ E, keyV P kt nk e.1 = true ∧ eqV P 20 kt key e.1 = some false) → keysV P kt nk key E = true
  | [], _ => rfl
  | (k, v) :: r, h => by
    have h1 := h (k, v) (List.mem_cons_self ..)
    simp only [keysV, h1.1, h1.2, Option.isSome_some, Bool.true_and]
    exact keysV_all fun e he => h e (List.mem_cons_of_mem _ he)
theorem updM_new {P : Program} {h : Heap} {t kt et : TypeId} {id es nk : Nat} {key v : Value} {E : List (Value × Value)} {k : Value → Heap → Out} (ht : P.underlying t = some (.map kt et)) (hb : getB h id = some ⟨true, es, [.mp false E]⟩) (hk : keyT P 8 kt = some nk) (hkey : keyV P kt nk key = true)
    (hE : ∀ e ∈ E, keyV P kt nk e.1 = true ∧ eqV P 20 kt key e.1 = some false) : updM P none h t (.map (some id)) key v k = k undef (h.set id (some ⟨true, es, [.mp false (E ++ [(key, v)])]⟩)) := by
  simp only [updM, ht, hb, hk, hkey, keysV_all hE, Bool.and_self, cond_true]
  exact findM_miss fun e he => (hE e he).2
theorem makerM_spec : ∀ {l : List Oper} {j : Nat} {jm : Nat} {t : TypeId} {d : Tmp}, makerM l j = some (jm, t, d) → j ≤ jm ∧ ∃ o, l[jm - j]? = some o ∧ o.op = .makeMap t none ∧ o.dst = some d
  | [], _, _, _, _, h => by cases h
  | o :: r, j, jm, t, d, h => by
    simp only [makerM] at h
    split at h
    · rename_i t' d' hop hd
      cases h
      exact ⟨Nat.le_refl _, o, by simp, hop, hd⟩
    · obtain ⟨h1, o', h2, h3⟩ := makerM_spec h
      refine ⟨by omega, o', ?_, h3⟩
      rw [show jm - j = jm - (j + 1) + 1 by omega, List.getElem?_cons_succ]; exact h2
/-! #### the region -/
theorem noIns_after (o : Oper) : (noIns o).after = o.after := by unfold noIns; split <;> rfl
theorem noIns_dst (o : Oper) : (noIns o).dst = o.dst := by unfold noIns; split <;> rfl
theorem noIns_guard (o : Oper) : (noIns o).guard = o.guard := by unfold noIns; split <;> rfl
theorem before_noIns (ops : Array Oper) : Region.before (ops.map noIns) = Region.before ops := by
  unfold Region.before
  rw [Array.foldl_map]
  simp only [noIns_after]
theorem HR_frm {ι : Map} {base : Nat} {h : Heap} {w w' : World} {m : Nat → Prop} (hr : HR ι base h w) (hf : Fr m w w') (hm : ∀ (id : Nat) (blk : Blk) (l : Loc), h[id]? = some (some blk) → ι id = some l → ¬ m l.b) : HR ι base h w' := by
  refine ⟨fun id blk hi => ?_, fun id l hl => ?_, hr.inj, hr.own, Nat.le_trans hr.base_le hf.size⟩
  · rcases hr.live id blk hi with p | ⟨l, p1, p2⟩
    · exact .inl p
    · exact .inr ⟨l, p1, p2.same (hf.same _ (hr.dom id l p1).2 (hm id blk l hi p1))⟩
  · have := hr.dom id l hl
    exact ⟨this.1, Nat.lt_of_lt_of_le this.2 hf.size⟩
/-- The map, when some operations are done. -/
def Lit (id jm : Nat) (L : List (Nat × (Value × Value))) (w0 : World) (D : Nat → Bool) (ι : Map) (w : World) : Prop :=
  D jm = true → ∃ l, ι id = some l ∧ w0.heap.size ≤ l.b ∧ MapRel ι l ⟨true, 0, [.mp false ((L.filter fun e => D e.1).map (·.2))]⟩ w ∧ ∀ (id' : Nat) (l' : Loc), ι id' = some l' → id' ≠ id → l'.b ≠ l.b

theorem MapRel.mono {ι ι' : Map} {l : Loc} {blk : Blk} {w : World} (hle : Map.le ι ι') (h : MapRel ι l blk w) : MapRel ι' l blk w := by
  obtain ⟨es, k, ents, h1, h2, h0, h3, h7, rs, h4, h5, h6⟩ := h
  exact ⟨es, k, ents, h1, h2, h0, h3, h7, rs, h4, h5, h6.mono hle⟩
theorem MapRel.same {ι : Map} {l : Loc} {blk : Blk} {w w' : World} (he : w'.heap[l.b]? = w.heap[l.b]?) (h : MapRel ι l blk w) : MapRel ι l blk w' := by
  obtain ⟨es, k, ents, h1, r⟩ := h
  exact ⟨es, k, ents, by rw [he]; exact h1, r⟩
theorem BlkRel.mp {ι : Map} {l : Loc} {own lf : Bool} {es : Nat} {ents : List (Value × Value)} {w : World} (h : BlkRel ι l ⟨own, es, [.mp lf ents]⟩ w) : MapRel ι l ⟨own, es, [.mp lf ents]⟩ w := by
  rcases h with ⟨_, _, _, _, _, _, h, _⟩ | h
  · exact (h _ (List.mem_cons_self ..)).elim
  · exact h
/-- One block alone. -/
theorem HR_one {ι : Map} {base N id : Nat} {w : World} {l : Loc} {blk : Blk} (hbase : base ≤ w.heap.size) (hdom : ∀ (id : Nat) (l : Loc), ι id = some l → id < N ∧ l.b < w.heap.size) (hl : ι id = some l) (hb : base ≤ l.b) (hrel : BlkRel ι l blk w) :
    HR ι base ((List.replicate N none).set id (some blk)) w := by
  have told : ∀ (i : Nat) (b : Blk), ((List.replicate N (none : Option Blk)).set id (some blk))[i]? = some (some b) → i = id ∧ b = blk := by
    intro i b h
    by_cases e : i = id
    · subst e
      refine ⟨rfl, ?_⟩
      rw [List.getElem?_set_self (by have := (hdom _ _ hl).1; simpa using this)] at h
      cases h; rfl
    · rw [List.getElem?_set_ne (fun x => e x.symm), List.getElem?_replicate] at h
      split at h <;> simp at h
  refine ⟨fun i b h => ?_, fun i l' h => ?_, fun i i' b b' l1 l2 h h' _ hne _ _ => (hne ((told i b h).1.trans (told i' b' h').1.symm)).elim, fun i b l1 h _ h1 => ?_, hbase⟩
  · obtain ⟨rfl, rfl⟩ := told i b h
    exact .inr ⟨l, hl, hrel⟩
  · have := hdom i l' h
    exact ⟨by simpa using this.1, this.2⟩
  · obtain ⟨rfl, rfl⟩ := told i b h
    rw [hl] at h1
    cases h1
    exact hb

section
variable {P : Program} {n : Nat} {ops : Array Oper} {ss : Nat → Slots} {hh : Nat → Heap} {rr : Nat → List (Nat × Nat × Nat)}
/-- What is known of the text. -/
structure LitC (P : Program) (n : Nat) (ops : Array Oper) (ss : Nat → Slots) (hh : Nat → Heap) (rr : Nat → List (Nat × Nat × Nat)) (jm : Nat) (t : TypeId) (d : Tmp) (id : Nat) (kt et : TypeId) (nk : Nat) (L : List (Nat × (Value × Value))) : Prop where
  run : Run P n (ops.map noIns) (Region.before (ops.map noIns)) (fun _ => false) [] ss hh rr
  r0 : rr 0 = []
  sk : slotsOK (ops.map noIns) (Region.before (ops.map noIns)) = true
  ed : edgesOK (ops.map noIns) = true
  nomd : ∀ i, i < ops.size → ¬ Md (fun _ => false) (ops.map noIns) (Region.before (ops.map noIns)) rr i
  guard : ∀ (i : Nat) (o : Oper), ops[i]? = some o → o.guard = none
  ins : insOK ops = true
  sk0 : slotsOK ops (Region.before ops) = true
  made : ∃ om, ops[jm]? = some om ∧ om.op = .makeMap t none ∧ om.dst = some d
  one : ∀ k, writes ops k d → k = jm
  slot : getS (ss ops.size) d = some (.map (some id))
  untold : ∀ blk, (hh ops.size)[id]? ≠ some (some blk)
  len : id < (hh ops.size).length
  ents : ∀ e ∈ L, ∃ o key v, ops[e.1]? = some o ∧ o.op = .insert t (.tmp d) key v ∧ o.dst = none ∧ opnd (ss ops.size) key = some e.2.1 ∧ opnd (ss ops.size) v = some e.2.2
  all : ∀ (i : Nat) (o : Oper), ops[i]? = some o → isIns o.op = true → ∃ e ∈ L, e.1 = i
  nodup : (L.map (·.1)).Nodup
  keys : keysD P kt nk L L = true
  ty : P.underlying t = some (.map kt et)
  kty : keyT P 8 kt = some nk
  mkl : (hh (jm + 1)).length = (hh jm).length + 1

variable {jm : Nat} {t : TypeId} {d : Tmp} {id : Nat} {kt et : TypeId} {nk : Nat} {L : List (Nat × (Value × Value))}
theorem map_get {i : Nat} {o : Oper} (h : ops[i]? = some o) : (ops.map noIns)[i]? = some (noIns o) := by rw [Array.getElem?_map, h]; rfl
theorem writes_map {k u : Nat} : writes (ops.map noIns) k u ↔ writes ops k u := by
  unfold writes
  rw [Array.getElem?_map]
  cases ops[k]? with
  | none => exact Iff.rfl
  | some o => simp [noIns_dst]
theorem LitC.names (c : LitC P n ops ss hh rr jm t d id kt et nk L) {i : Nat} {o : Oper} (ho : ops[i]? = some o) (hi : isIns o.op = true) {u : Nat} (hu : u ∈ namesOf ops o) {D : Nat → Bool} (hdep : ∀ k, ((Region.before (ops.map noIns)).getD i 0).testBit k = true → D k = true) {k : Nat} (hw : writes (ops.map noIns) k u) : D k = true := by
  have hlt := (Array.getElem?_eq_some_iff.1 ho).1
  have hw := writes_map.1 hw
  have hk : k < ops.size := by
    unfold writes at hw
    cases hx : ops[k]? with
    | none => rw [hx] at hw; simp at hw
    | some x => exact (Array.getElem?_eq_some_iff.1 hx).1
  have hki : k < i := by
    have := List.all_eq_true.1 c.ins i (List.mem_range.2 hlt)
    rw [ho] at this
    simp only [hi, Bool.not_true, Bool.false_or] at this
    have := List.all_eq_true.1 this k (List.mem_range.2 hk)
    rw [show (ops[k]?).bind (·.dst) = some u from hw] at this
    simp only [Bool.or_eq_true, Bool.not_eq_true'] at this
    rcases this with h | h
    · exact (memN_false h hu).elim
    · exact blt_true h
  rcases slots_ordered c.sk0 ho hu hw (by omega) with h | h
  · exact hdep k (by rw [before_noIns]; exact h)
  · have := before_lt c.ed k (i := i) (by rw [before_noIns]; exact h)
    omega
/-- An operand's value, when all that write it are done. -/
theorem LitC.eval (c : LitC P n ops ss hh rr jm t d id kt et nk L) {D : Nat → Bool} {z : Nat} {ι0 ι : Map} {base : Nat} {w0 w : World} {a : Act} (hi : Inv (fun _ => false) n (ops.map noIns) (Region.before (ops.map noIns)) ss hh rr D z ι0 base w0 ι a w)
    {x : Operand} {u : Value} (hx : opnd (ss ops.size) x = some u) (hD : ∀ y, x = .tmp y → ∀ k, writes (ops.map noIns) k y → D k = true) : VR ι u (a.eval x) := by
  have hs : SR ι n [] a := ⟨hi.size, hi.defers, fun t v h => by simp [getS] at h⟩
  cases x with
  | tmp y => exact hi.final c.run (show getS (ss (ops.map noIns).size) y = some u by rw [Array.size_map]; exact hx) (fun k _ hw => hD y rfl k hw)
  | const v => exact opnd_VR (s := []) hs (x := .const v) hx
  | func f => exact opnd_VR (s := []) hs (x := .func f) hx
  | global g => cases hx

/-- One operation more. -/
theorem LitC.step (c : LitC P n ops ss hh rr jm t d id kt et nk L) {D : Nat → Bool} {z : Nat} {ι0 ι : Map} {base : Nat} {w0 w : World} {a : Act} (hb0 : base ≤ w0.heap.size)
    (hi : Inv (fun _ => false) n (ops.map noIns) (Region.before (ops.map noIns)) ss hh rr D z ι0 base w0 ι a w) (hl : Lit id jm L w0 D ι w) {i : Nat} {o : Oper} (ho : ops[i]? = some o) (hD : D i = false) (hdep : ∀ k, ((Region.before (ops.map noIns)).getD i 0).testBit k = true → D k = true)
    {K : Act → World → Prop} {Q : Exit → Act → World → Prop} (hK : ∀ z' ι' a' w', Inv (fun _ => false) n (ops.map noIns) (Region.before (ops.map noIns)) ss hh rr (upd D i) z' ι0 base w0 ι' a' w' → Lit id jm L w0 (upd D i) ι' w' → K a' w') : wpOp P ops Q i K a w := by
  have hlt := (Array.getElem?_eq_some_iff.1 ho).1
  have hg := c.guard i o ho
  have hsz : (ops.map noIns).size = ops.size := by simp
  have hz : z = ops.size := by
    rcases hi.zz with h | h
    · rw [h, hsz]
    · have := hi.hz
      rcases Nat.lt_or_ge z ops.size with h1 | h1
      · exact (c.nomd z h1 h).elim
      · omega
  subst hz
  have hw1 : ∀ y, Region.wanted o y = true := fun y => by simp [Region.wanted, hg]
  cases hins : isIns o.op with
  | false =>
    have hno : noIns o = o := by unfold noIns; rw [hins]
    have ho' : (ops.map noIns)[i]? = some o := by rw [map_get ho, hno]
    have same : ∀ {K : Act → World → Prop}, wpOp P (ops.map noIns) Q i K a w → wpOp P ops Q i K a w := by
      intro K h
      simp only [wpOp, ho', ho, hw1, if_true] at h ⊢
      exact h
    have hnin : ∀ x ∈ L, x.1 ≠ i := by
      rintro x hx rfl
      obtain ⟨o', _, _, h1, h2, _⟩ := c.ents x hx
      rw [ho] at h1
      cases h1
      rw [h2] at hins
      cases hins
    by_cases e : i = jm
    · -- the map is made
      subst e
      obtain ⟨om, m1, m2, m3⟩ := c.made
      rw [ho] at m1
      cases m1
      refine same ?_
      have hrun : (execOp a.eval o).run P w = .ok (.value (.map (some w.heap.size))) { w with heap := w.heap.push (.map #[] 0) } := by
        simp only [execOp, m2, Instr.makeMap, newObj]
        rfl
      have h1 := hi.step c.run c.r0 c.sk c.ed (StillAt.nil ..) ho' hD hdep (K := fun a' w' => ∃ z' ι', Inv (fun _ => false) n (ops.map noIns) (Region.before (ops.map noIns)) ss hh rr (upd D i) z' ι0 base w0 ι' a' w' ∧
        (Map.le ι ι' ∧ Fr (fun _ => False) w w' ∧ ∀ (id : Nat) (l : Loc), ι' id = some l → ι id = some l ∨ (w.heap.size ≤ l.b ∧ (hh i).length ≤ id ∧ id < (hh (i + 1)).length))) (Q := Q) fun z' ι' a' w' hi' hq => ⟨z', ι', hi', hq (c.nomd i hlt)⟩
      simp only [wpOp, ho', hw1, if_true] at h1 ⊢
      rcases h1 with h1 | h1
      · refine .inl ?_
        simp only [Oper.wp, hrun, Oper.upon] at h1 ⊢
        obtain ⟨z', ι', hi', _, _, hnew⟩ := h1
        refine hK z' ι' _ _ hi' fun _ => ?_
        have hv : VR ι' (.map (some id)) ((a.put o.dst (.map (some w.heap.size))).tmps.getD d undef) := hi'.final c.run (by rw [hsz]; exact c.slot) (fun k _ hw => by rw [c.one k (writes_map.1 hw), upd_true]; exact .inr rfl)
        have hd : d < n := by
          have hst := c.run i o (by rw [hsz]; exact hlt) ho'
          have key : ∀ {s0 s' : Slots} {v : Option Value}, Laid n s0 o.dst v s' → d < n := by
            intro s0 s' v h
            rw [m3] at h
            exact h.1
          generalize hsn : ss (i + 1) = sn at hst
          generalize hhn : hh (i + 1) = hn at hst
          generalize hrn : rr (i + 1) = rn at hst
          cases hst with
          | skip _ _ hl => exact key hl
          | non _ _ _ _ _ _ hl => exact key hl
          | pure _ _ _ _ _ _ _ hl => exact key hl
          | mod _ _ _ _ _ _ hl => exact key hl
        rw [m3] at hv
        simp only [Act.put] at hv
        rw [Array.getD_eq_getD_getElem?, Array.getElem?_setIfInBounds_self_of_lt (by rw [hi.size]; exact hd)] at hv
        obtain ⟨l, q1, q2, q3⟩ := hv.map_es
        have q2 : w.heap.size = l.b := by simpa using q2
        have hsz0 := hi.fr.size
        have hin : (hh i).length ≤ id ∧ id < (hh (i + 1)).length := by
          rcases hnew id l q1 with h | ⟨_, h⟩
          · have := (hi.heap.dom id l h).2; omega
          · exact h
        have hmkl := c.mkl
        refine ⟨l, q1, by omega, ?_, fun id' l' h1 h2 => ?_⟩
        · have hnil : (L.filter fun e => upd D i e.1) = [] := by
            refine List.filter_eq_nil_iff.2 fun e he => ?_
            obtain ⟨o', key, v, e1, e2, e3, _⟩ := c.ents e he
            have hne : e.1 ≠ i := fun h => hnin e he h
            simp only [upd, Bool.or_eq_true, beq_iff_eq, hne, or_false]
            intro hDe
            have hd2 : d ∈ namesOf ops o' := by simp [namesOf, e2, Op.operands, tmpsOf]
            have := c.names e1 (by rw [e2]; rfl) hd2 (D := D) (fun k hk => hi.clo _ _ hDe hk) (k := i) (writes_map.2 (by simp [writes, ho, m3]))
            rw [hD] at this
            cases this
          rw [hnil]
          exact ⟨#[], 0, [], by simp [← q2], ⟨false, rfl, fun e => by cases e⟩, q3.symm, List.nodup_nil, (fun k hk => by cases hk), [], List.Perm.refl _, rfl, VRs.nil⟩
        · rcases hnew id' l' h1 with h | ⟨_, h3, h4⟩
          · have := (hi.heap.dom id' l' h).2; omega
          · omega
      · exact .inr h1
    · refine same (hi.step c.run c.r0 c.sk c.ed (StillAt.nil ..) ho' hD hdep fun z' ι' a' w' hi' hq => ?_)
      obtain ⟨q1, q2, q3⟩ := hq (c.nomd i hlt)
      refine hK z' ι' a' w' hi' fun hj => ?_
      obtain ⟨l, p1, p2, p3, p4⟩ := hl (by rcases upd_true.1 hj with h | h; exact h; exact (e h.symm).elim)
      have hbl := (hi.heap.dom id l p1).2
      refine ⟨l, q1 _ _ p1, p2, ?_, fun id' l' h1 h2 => ?_⟩
      · rw [filter_same hnin]
        exact (p3.mono q1).same (q2.same _ hbl (fun h => h))
      · rcases q3 id' l' h1 with h | ⟨h, _⟩
        · exact p4 id' l' h h2
        · omega
  | true =>
    obtain ⟨e, heL, rfl⟩ := c.all i o ho hins
    obtain ⟨o', key, v, e1, e2, e3, e4, e5⟩ := c.ents e heL
    rw [ho] at e1
    cases e1
    obtain ⟨om, m1, m2, m3⟩ := c.made
    have hd2 : d ∈ namesOf ops o := by simp [namesOf, e2, Op.operands, tmpsOf]
    have nm : ∀ {u : Nat}, u ∈ namesOf ops o → ∀ k, writes (ops.map noIns) k u → D k = true := fun hu k hw => c.names ho hins hu hdep hw
    have hDj : D jm = true := nm hd2 jm (writes_map.2 (by simp [writes, m1, m3]))
    obtain ⟨l, p1, p2, p3, p4⟩ := hl hDj
    have hdom : ∀ (id : Nat) (l : Loc), ι id = some l → id < (hh ops.size).length ∧ l.b < w.heap.size := fun id l h => by
      have := hi.heap.dom id l h
      rwa [maskF_len] at this
    have hE := HR_one (N := (hh ops.size).length) (Nat.le_trans hb0 hi.fr.size) hdom p1 (Nat.le_trans hb0 p2) (.inr p3)
    generalize hN : (hh ops.size).length = N at *
    have hkey := keysD_spec c.keys e heL
    have hEk : ∀ x ∈ (L.filter fun e => D e.1).map (·.2), keyV P kt nk x.1 = true ∧ eqV P 20 kt e.2.1 x.1 = some false := by
      intro x hx
      obtain ⟨y, hy, rfl⟩ := List.mem_map.1 hx
      obtain ⟨hy1, hy2⟩ := List.mem_filter.1 hy
      refine ⟨(keysD_spec c.keys y hy1).1, hkey.2 y hy1 fun h => ?_⟩
      rw [h, hD] at hy2
      cases hy2
    have hget : getB ((List.replicate N (none : Option Blk)).set id (some ⟨true, 0, [.mp false ((L.filter fun e => D e.1).map (·.2))]⟩)) id = some ⟨true, 0, [.mp false ((L.filter fun e => D e.1).map (·.2))]⟩ := by
      unfold getB
      rw [List.getElem?_set_self (by rw [List.length_replicate]; exact (hdom _ _ p1).1)]
    have hup := updM_new (v := e.2.2) (k := fun v h => some (Res.ret v h)) c.ty hget c.kty hkey.1 hEk
    obtain ⟨h1, r1, _, r3⟩ := updM_some hup
    cases r1
    have v1 : VR ι (.map (some id)) (a.eval (.tmp d)) := c.eval hi (x := .tmp d) c.slot (fun y hy => by cases hy; exact nm hd2)
    have v2 : VR ι e.2.1 (a.eval key) := c.eval hi e4 (fun y hy => nm (by subst hy; simp [namesOf, e2, Op.operands, tmpsOf]))
    have v3 : VR ι e.2.2 (a.eval v) := c.eval hi e5 (fun y hy => nm (by subst hy; cases key <;> simp [namesOf, e2, Op.operands, tmpsOf]))
    obtain ⟨w', s1, _, s2, s3, _⟩ := r3 ι base w _ _ _ hE v1 v2 v3
    have hrun : (execOp a.eval o).run P w = .ok .skip w' := by
      simp only [execOp, e2, Sem.run_bind, s1, Sem.run_pure]
      rfl
    have hmods : ∀ b, mods ι ((List.replicate N (none : Option Blk)).set id (some ⟨true, 0, [.mp false ((L.filter fun e => D e.1).map (·.2))]⟩)) b → b = l.b := by
      rintro b ⟨id', blk, l', t1, _, t2, rfl⟩
      by_cases hid : id' = id
      · subst hid
        rw [p1] at t2
        cases t2; rfl
      · rw [List.getElem?_set_ne (fun h => hid h.symm), List.getElem?_replicate] at t1
        split at t1 <;> simp at t1
    have s3 := s3.mono hmods
    have ho' : (ops.map noIns)[e.1]? = some { o with op := .move (.const (.bool false)) } := by rw [map_get ho]; unfold noIns; rw [hins]
    have hcalm : calmAt (fun _ => false) (ops.map noIns) e.1 = true := by simp [calmAt, ho', calmOp, pureOp]
    have hheap : HR ι base (maskF D (rr ops.size) (hh ops.size)) w' := HR_frm hi.heap s3 fun id' blk l' t1 t2 t3 => by
      by_cases hid : id' = id
      · subst hid
        exact c.untold blk (maskF_live t1).2
      · exact p4 id' l' t2 hid t3
    have hi' := Inv.still c.run c.r0 hi ho' hdep hcalm e3 hheap (s3.mono fun b hb => by subst hb; exact p2)
    simp only [wpOp, ho, hw1, if_true]
    refine .inl ?_
    simp only [Oper.wp, hrun, Oper.upon, e3, Act.put]
    refine hK _ ι a w' hi' fun _ => ⟨l, p1, p2, ?_, p4⟩
    obtain ⟨A, B, f1, f2⟩ := filter_upd c.nodup heL hD
    rw [f2, List.map_append, List.map_cons]
    refine MapRel.mid ?_
    have := s2.live id _ (List.getElem?_set_self (by rw [List.length_set, List.length_replicate]; exact (hdom _ _ p1).1))
    rcases this with ⟨h, _⟩ | ⟨l', h, hrel⟩
    · rw [p1] at h; cases h
    · rw [p1] at h
      cases h
      have := hrel.mp
      rw [f1, List.map_append] at this
      exact this

/-- Every order comes to the same map. -/
theorem LitC.any (c : LitC P n ops ss hh rr jm t d id kt et nk L) {ι0 : Map} {base : Nat} {w0 : World} (hb0 : base ≤ w0.heap.size) {Q : Exit → Act → World → Prop}
    (hQ : ∀ a' w', StepS ι0 n base (hh 0) w0 (ss ops.size) ((hh ops.size).set id (some ⟨true, 0, [.mp false (L.map (·.2))]⟩)) a' w' → Q .normal a' w') :
    ∀ (fuel : Nat) (listed : Array Bool) (z : Nat) (ι : Map) (a : Act) (w : World), listed.size = ops.size → left (fun i => listed.getD i false) ops.size ≤ fuel →
      Inv (fun _ => false) n (ops.map noIns) (Region.before (ops.map noIns)) ss hh rr (fun i => listed.getD i false) z ι0 base w0 ι a w → Lit id jm L w0 (fun i => listed.getD i false) ι w → wpAny P .any ops Q fuel listed a w := by
  intro fuel listed z ι a w hsz hfu hi hlit
  have hsz2 : (ops.map noIns).size = ops.size := by simp
  have key : ∀ i, i ∈ Region.ready .any ops listed → (∃ o, ops[i]? = some o) ∧ listed.getD i false = false ∧ ∀ k, ((Region.before (ops.map noIns)).getD i 0).testBit k = true → listed.getD k false = true := by
    intro i hm
    obtain ⟨q1, o, q2, q3⟩ := mem_ready.1 hm
    have hlt := (Array.getElem?_eq_some_iff.1 q2).1
    refine ⟨⟨o, q2⟩, ?_, fun k hkb => ?_⟩
    · rw [Array.getD_eq_getD_getElem?, Array.getElem?_eq_getElem (by omega)] at q1 ⊢
      exact q1
    · rw [before_noIns] at hkb
      obtain ⟨e, e1, e2, e3⟩ := before_spec ops i k o q2 hkb
      have hon := q3 e e1 e2
      rcases e3 with e3 | ⟨_, e3⟩
      · rw [← e3]; exact hon
      · exact hi.clo e.on k hon (by rw [before_noIns]; exact e3)
  have fin : (∀ i, i < ops.size → listed.getD i false = true) → Q .normal a w := by
    intro all
    have hz : z = ops.size := by
      rcases hi.zz with h | h
      · rw [h, hsz2]
      · have := hi.hz
        rcases Nat.lt_or_ge z ops.size with h1 | h1
        · exact (c.nomd z h1 h).elim
        · omega
    subst hz
    have same : ∀ id : Nat, (maskF (fun i => listed.getD i false) (rr ops.size) (hh ops.size))[id]? = (hh ops.size)[id]? := fun id => maskF_of fun r hr1 _ => all _ (c.run.ranges c.r0 (i := ops.size) (by omega) r hr1).1
    have hHR : HR ι base (hh ops.size) w := HR_ext hi.heap (fun id blk h => by rw [same]; exact h) (by rw [maskF_len]; exact Nat.le_refl _)
    obtain ⟨om, m1, _⟩ := c.made
    obtain ⟨l, p1, p2, p3, p4⟩ := hlit (all jm (Array.getElem?_eq_some_iff.1 m1).1)
    have hall : (L.filter fun e => listed.getD e.1 false) = L := List.filter_eq_self.2 fun e he => by
      obtain ⟨o, _, _, h1, _⟩ := c.ents e he
      exact all _ (Array.getElem?_eq_some_iff.1 h1).1
    rw [hall] at p3
    have told : ∀ (i : Nat) (b : Blk), ((hh ops.size).set id (some ⟨true, 0, [.mp false (L.map (·.2))]⟩))[i]? = some (some b) → (i = id ∧ b = ⟨true, 0, [.mp false (L.map (·.2))]⟩) ∨ (i ≠ id ∧ (hh ops.size)[i]? = some (some b)) := by
      intro i b h
      by_cases e : i = id
      · subst e
        rw [List.getElem?_set_self c.len] at h
        cases h
        exact .inl ⟨rfl, rfl⟩
      · rw [List.getElem?_set_ne (fun x => e x.symm)] at h
        exact .inr ⟨e, h⟩
    refine hQ a w ⟨ι, hi.le, hi.new, ⟨fun i b h => ?_, fun i l' h => ?_, fun i i' b b' l1 l2 h h' ho hne h1 h2 => ?_, fun i b l1 h ho h1 => ?_, hHR.base_le⟩, ⟨hi.size, hi.defers, fun t v hv => hi.slots t v ?_⟩, hi.fr, fun b' hb' hlt => ?_, ?_⟩
    · rcases told i b h with ⟨rfl, rfl⟩ | ⟨_, h⟩
      · exact .inr ⟨l, p1, .inr p3⟩
      · exact hHR.live i b h
    · have := hHR.dom i l' h
      rwa [List.length_set]
    · rcases told i b h with ⟨rfl, rfl⟩ | ⟨e1, h⟩
      · rw [p1] at h1
        cases h1
        exact fun x => p4 i' l2 h2 (fun y => hne y.symm) x.symm
      · rcases told i' b' h' with ⟨rfl, rfl⟩ | ⟨_, h'⟩
        · rw [p1] at h2
          cases h2
          exact p4 i l1 h1 e1
        · exact hHR.inj i i' b b' l1 l2 h h' ho hne h1 h2
    · rcases told i b h with ⟨rfl, rfl⟩ | ⟨_, h⟩
      · rw [p1] at h1
        cases h1
        omega
      · exact hHR.own i b l1 h ho h1
    · rw [sv_text c.run (Nat.le_refl _) (fun i hi1 _ => all i (by omega)), hsz2]
      exact hv
    · obtain ⟨i, b, l1, h, ho, h1, rfl⟩ := hb'
      rcases told i b h with ⟨rfl, rfl⟩ | ⟨_, h⟩
      · rw [p1] at h1
        cases h1
        omega
      · exact hi.mo _ ⟨i, b, l1, by rw [same]; exact h, ho, h1, rfl⟩ hlt
    · rw [List.length_set]
      exact c.run.len0 (i := ops.size) (by omega)
  have some_ready : Region.ready .any ops listed = [] → ∀ i, i < ops.size → listed.getD i false = true := by
    intro hn i
    induction i using Nat.strongRecOn with
    | _ i ih =>
      intro hi1
      cases hD : listed.getD i false with
      | true => rfl
      | false =>
        exfalso
        have : i ∈ Region.ready .any ops listed := by
          refine mem_ready.2 ⟨?_, ops[i], Array.getElem?_eq_getElem hi1, fun e e1 e2 => ?_⟩
          · rw [Array.getD_eq_getD_getElem?, Array.getElem?_eq_getElem (by omega)] at hD ⊢
            exact hD
          · have := edges_spec c.ed (map_get (Array.getElem?_eq_getElem hi1)) (by rw [noIns_after]; exact e1) e2
            exact ih e.on this (by omega)
        rw [hn] at this
        cases this
  cases fuel with
  | zero =>
    have all := left_zero (D := fun i => listed.getD i false) (m := ops.size) (by omega)
    refine ⟨?_, fin all⟩
    cases hrd : Region.ready .any ops listed with
    | nil => rfl
    | cons i l =>
      exfalso
      obtain ⟨⟨o, ho⟩, h1, _⟩ := key i (by rw [hrd]; exact List.mem_cons_self ..)
      have h2 := all i (Array.getElem?_eq_some_iff.1 ho).1
      rw [h1] at h2
      cases h2
  | succ fuel =>
    refine ⟨fun hn => fin (some_ready hn), fun i hm => ?_⟩
    obtain ⟨⟨o, ho⟩, hD, hdep⟩ := key i hm
    have hlt := (Array.getElem?_eq_some_iff.1 ho).1
    have hup : upd (fun i => listed.getD i false) i = fun k => (listed.setIfInBounds i true).getD k false := by
      funext k
      simp only [upd]
      by_cases e : k = i
      · subst e
        rw [Array.getD_eq_getD_getElem? (xs := listed.setIfInBounds k true), Array.getElem?_setIfInBounds_self_of_lt (by omega)]
        simp
      · rw [Array.getD_eq_getD_getElem? (xs := listed.setIfInBounds i true), Array.getElem?_setIfInBounds_ne (fun h => e h.symm), ← Array.getD_eq_getD_getElem?, show (k == i) = false by simp [e], Bool.or_false]
    refine c.step hb0 hi hlit ho hD hdep fun z' ι' a' w' hi' hl' => ?_
    rw [hup] at hi' hl'
    refine LitC.any c hb0 hQ fuel (listed.setIfInBounds i true) z' ι' a' w' (by simp [hsz]) ?_ hi' hl'
    rw [← hup]
    have := left_upd (D := fun i => listed.getD i false) hD hlt
    omega
/-- A region that makes a map of entries in any order. -/
theorem litK_region {S : Spec} {out : Res} (hS : SpecOK P S) (hm : P.follows .mixedOrders = true) {rid : Nat} {s : Slots} {h : Heap} {k : Slots → Heap → Out} (hok : (slotsOK ops (Region.before ops) && edgesOK ops) = true) (hk : litK P S n ops s h k = some out) :
    ∃ s' h', k s' h' = some out ∧ ∀ (ι : Map) (base : Nat) (w : World) (a : Act) (Q : Exit → Act → World → Prop), SR ι n s a → HR ι base h w → (∀ a' w', StepS ι n base h w s' h' a' w' → Q .normal a' w') → (Code.region rid ops true).wp P Q a w := by
  rw [Bool.and_eq_true] at hok
  have hsz2 : (ops.map noIns).size = ops.size := by simp
  unfold litK at hk
  split at hk
  · rename_i jm t d hmk
    obtain ⟨hc, hk⟩ := bif_none hk
    simp only [Bool.and_eq_true] at hc
    obtain ⟨⟨⟨c1, c2⟩, c3⟩, c4⟩ := hc
    obtain ⟨ss, hh, rr, rfl, rfl, e3, e4, e5⟩ := drawM_trace hS hk (fun i => by simp)
    simp only [Array.length_toList, Nat.zero_add, hsz2] at e4 e5
    have e5 := fun i o h => e5 i o (Nat.zero_le _) h
    split at e4
    · rename_i id kt et hslot hty
      split at e4
      · rename_i nk L hkty hL
        obtain ⟨hc, e4⟩ := bif_none e4
        simp only [Bool.and_eq_true] at hc
        obtain ⟨k1, k2, k3⟩ := hc
        obtain ⟨i1, i2, i3⟩ := insL_spec hL
        obtain ⟨m1, om, m2, m3, m4⟩ := makerM_spec hmk
        rw [Nat.sub_zero, Array.getElem?_toList] at m2
        have hr : Run P n (ops.map noIns) (Region.before (ops.map noIns)) (fun _ => false) [] ss hh rr := fun i o h1 h2 => (e5 i o (by omega) h2).1
        have hmno : noIns om = om := by unfold noIns; rw [m3]; rfl
        have c : LitC P n ops ss hh rr jm t d id kt et nk L := by
          refine ⟨hr, e3, c2, c3, fun i hi hmd => ?_, fun i o ho => ?_, c4, hok.1, ⟨om, m2, m3, m4⟩, fun i hw => ?_, hslot, fun blk hb => ?_, blt_true k2, fun e he => ?_, fun i o ho hi => ?_, i3, k1, hty, hkty, ?_⟩
          · obtain ⟨_, _, g, _⟩ := e5 i _ hi (map_get (Array.getElem?_eq_getElem hi))
            rcases g with g | g
            · rw [hmd.2.2] at g; cases g
            · exact g hmd.2.1
          · have := (e5 i _ (Array.getElem?_eq_some_iff.1 ho).1 (map_get ho)).2.1
            rwa [noIns_guard] at this
          · have hi : i < ops.size := by
              unfold writes at hw
              cases hx : ops[i]? with
              | none => rw [hx] at hw; simp at hw
              | some x => exact (Array.getElem?_eq_some_iff.1 hx).1
            have := List.all_eq_true.1 c1 i (List.mem_range.2 hi)
            rw [show (ops[i]?).bind (·.dst) = some d from hw] at this
            simp only [Bool.or_eq_true, Bool.not_eq_true'] at this
            rcases this with h | h
            · rw [show Nat.beq d d = true from Nat.beq_refl d] at h; cases h
            · exact beq_true h
          · unfold getB at k3
            rw [hb] at k3
            cases k3
          · obtain ⟨_, o, key, v, q1, q2, q3, _, q5, q6⟩ := i1 e he
            rw [Nat.sub_zero, Array.getElem?_toList] at q1
            exact ⟨o, key, v, q1, q2, q3, q5, q6⟩
          · obtain ⟨e, he, q⟩ := i2 i o (by rw [Array.getElem?_toList]; exact ho) hi
            exact ⟨e, he, by omega⟩
          · have := (e5 jm _ (Array.getElem?_eq_some_iff.1 m2).1 (map_get m2)).2.2.2
            rw [hmno] at this
            exact this (by rw [m3]; rfl)
        refine ⟨_, _, e4, fun ι base w a Q hs hhr hq => wp_region_any hm ?_⟩
        obtain ⟨M, E, f1, f2, f3, f4⟩ := hr.begins (i := 0) (m := ops.size) (by omega) (fun k _ hk => c.nomd k (by omega))
        rw [e3, List.append_nil] at f2
        simp only [Nat.zero_add] at f1 f2 f4
        have nofalse : ∀ i, (Array.replicate ops.size false).getD i false = false := by
          intro i
          rw [Array.getD_eq_getD_getElem?, Array.getElem?_replicate]
          split <;> rfl
        have hDf : (fun i => (Array.replicate ops.size false).getD i false) = fun _ => false := funext nofalse
        refine LitC.any c (w0 := w) hhr.base_le hq ops.size _ ops.size ι a _ (by simp) (left_le _ _) ?_ (fun h => by have h : (Array.replicate ops.size false).getD jm false = true := h; rw [nofalse] at h; cases h)
        rw [hDf]
        have live : ∀ (id : Nat) (blk : Blk), (maskF (fun _ => false) (rr ops.size) (hh ops.size))[id]? = some (some blk) → (hh 0)[id]? = some (some blk) := by
          intro id blk hb
          obtain ⟨g1, g2⟩ := maskF_live hb
          have hidl := (List.getElem?_eq_some_iff.1 g2).1
          by_cases hid : id < (hh 0).length
          · rw [f1, List.getElem?_append_left hid] at g2; exact g2
          · exfalso
            obtain ⟨r, hr1, hr2⟩ := f4 id (by omega) hidl
            have := g1 r (by rw [f2]; exact hr1) hr2
            cases this
        refine ⟨by omega, fun i hi _ => (by cases hi), fun i h1 h2 => (c.nomd i h1 h2).elim, .inl hsz2.symm, fun j i hj => (by cases hj), ?_, fun r hr1 _ id hid => ?_, hs.1, hs.2.1, fun t u hu => ?_, Map.le_refl _, fun id l hl => .inl hl, ?_, fun b' hb' _ => mods_live live hb'⟩
        · exact HR_ext (HR.sameHeap (w := w) (w' := { w with drawn := w.drawn + 1 }) rfl hhr) live (by rw [maskF_len, f1]; simp)
        · rw [f2] at hr1
          have := (f3 r hr1).2.1
          exact hhr.fresh (by unfold inRange at hid; omega)
        · have : ∀ j, sv (ops.map noIns) ss (fun _ => false) j t = getS (ss 0) t := by
            intro j
            induction j with
            | zero => rfl
            | succ j ih => simp only [sv]; rw [if_neg (by simp)]; exact ih
          rw [this] at hu
          exact hs.2.2 t u hu
        · exact ⟨Nat.le_refl _, fun b _ _ => rfl, rfl, rfl, rfl⟩
      · cases e4
    · cases e4
  · cases hk
end
end Go.Proofs.Ytcjjngdkkihgjaa.VC
