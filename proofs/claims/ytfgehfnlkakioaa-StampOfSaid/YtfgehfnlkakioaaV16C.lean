/- Regions whose order is open, with stores that others need not wait for. -/
import Derived.Test.YtfgehfnlkakioaaV16B
namespace Go.Proofs.Ytfgehfnlkakioaa.VC
open Go

theorem killL_get : ∀ (W : List Nat) (h : Heap) (id : Nat), (killL W h).length = h.length ∧ (id ∈ W → ∀ blk, (killL W h)[id]? ≠ some (some blk)) ∧ (id ∉ W → (killL W h)[id]? = h[id]?)
  | [], h, id => ⟨rfl, (fun h => by cases h), fun _ => rfl⟩
  | i :: r, h, id => by
    obtain ⟨a, b, c⟩ := killL_get r (h.set i none) id
    refine ⟨by simp only [killL]; rw [a]; simp, fun hm blk hb => ?_, fun hm => ?_⟩
    · simp only [killL] at hb
      by_cases hr : id ∈ r
      · exact b hr blk hb
      · rw [c hr] at hb
        rcases List.mem_cons.1 hm with rfl | hm
        · rw [List.getElem?_set_self'] at hb
          cases hx : h[id]? with
          | none => rw [hx] at hb; simp at hb
          | some y => rw [hx] at hb; simp at hb
        · exact hr hm
    · simp only [killL]
      rw [c (fun x => hm (List.mem_cons_of_mem _ x)), List.getElem?_set_ne (fun e => hm (by rw [← e]; exact List.mem_cons_self ..))]

theorem onlyB_len {h : Heap} {id : Nat} : (onlyB h id).length = h.length := by simp [onlyB]
theorem onlyB_live {h : Heap} {id j : Nat} {blk : Blk} (hb : (onlyB h id)[j]? = some (some blk)) : j = id ∧ h[id]? = some (some blk) := by
  unfold onlyB at hb
  by_cases e : id = j
  · subst e
    refine ⟨rfl, ?_⟩
    have hl := (List.getElem?_eq_some_iff.1 hb).1
    simp at hl
    rw [List.getElem?_set_self (by simpa using hl)] at hb
    rw [List.getElem?_eq_getElem hl] at hb ⊢
    simpa using hb
  · rw [List.getElem?_set_ne e] at hb
    obtain ⟨_, h2⟩ := List.getElem?_eq_some_iff.1 hb
    simp at h2

theorem lateF_len {keep : Nat → Bool} : ∀ {ls : List (Nat × Nat × Blk)} {h : Heap}, (lateF keep ls h).length = h.length
  | [], h => rfl
  | (j, id, nb) :: r, h => by
    simp only [lateF]
    cases keep j with
    | true => simp [lateF_len]
    | false => exact lateF_len

theorem lateF_other {keep : Nat → Bool} {id : Nat} : ∀ {ls : List (Nat × Nat × Blk)} {h : Heap}, (∀ e ∈ ls, e.2.1 = id → keep e.1 = false) → (lateF keep ls h)[id]? = h[id]?
  | [], h, _ => rfl
  | (j, i, nb) :: r, h, hh => by
    have ih := lateF_other (keep := keep) (id := id) (ls := r) (h := h) fun e he => hh e (List.mem_cons_of_mem _ he)
    simp only [lateF]
    cases hk : keep j with
    | true =>
      simp only [cond_true]
      rw [List.getElem?_set_ne (fun e => by have := hh (j, i, nb) (List.mem_cons_self ..) e; simp [hk] at this), ih]
    | false => simpa using ih

/-- What stands behind some stores. -/
theorem lateF_live {keep : Nat → Bool} {id : Nat} {blk : Blk} : ∀ {ls : List (Nat × Nat × Blk)} {h : Heap}, (lateF keep ls h)[id]? = some (some blk) →
    (∃ e ∈ ls, e.2.1 = id ∧ keep e.1 = true ∧ blk = e.2.2) ∨ ((∀ e ∈ ls, e.2.1 = id → keep e.1 = false) ∧ h[id]? = some (some blk))
  | [], h, hb => .inr ⟨(fun e he => by cases he), hb⟩
  | (j, i, nb) :: r, h, hb => by
    simp only [lateF] at hb
    cases hk : keep j with
    | true =>
      rw [hk] at hb
      simp only [cond_true] at hb
      by_cases e : i = id
      · subst e
        have hl := (List.getElem?_eq_some_iff.1 hb).1
        rw [List.getElem?_set_self (by simpa using hl)] at hb
        exact .inl ⟨_, List.mem_cons_self .., rfl, hk, by simpa using hb.symm⟩
      · rw [List.getElem?_set_ne e] at hb
        rcases lateF_live hb with ⟨x, h1, h2⟩ | ⟨h1, h2⟩
        · exact .inl ⟨x, List.mem_cons_of_mem _ h1, h2⟩
        · refine .inr ⟨fun x hx hxe => ?_, h2⟩
          rcases List.mem_cons.1 hx with rfl | hx
          · exact (e hxe).elim
          · exact h1 x hx hxe
    | false =>
      rw [hk] at hb
      simp only [cond_false] at hb
      rcases lateF_live hb with ⟨x, h1, h2⟩ | ⟨h1, h2⟩
      · exact .inl ⟨x, List.mem_cons_of_mem _ h1, h2⟩
      · refine .inr ⟨fun x hx hxe => ?_, h2⟩
        rcases List.mem_cons.1 hx with rfl | hx
        · exact hk
        · exact h1 x hx hxe

/-- A store that is done, where no other one goes to its block. -/
theorem lateF_hit {keep : Nat → Bool} {e : Nat × Nat × Blk} : ∀ {ls : List (Nat × Nat × Blk)} {h : Heap}, e ∈ ls → keep e.1 = true → e.2.1 < h.length → (∀ x ∈ ls, x.2.1 = e.2.1 → x = e) → (lateF keep ls h)[e.2.1]? = some (some e.2.2)
  | [], h, hm, _, _, _ => by cases hm
  | (j, i, nb) :: r, h, hm, hk, hl, hd => by
    simp only [lateF]
    by_cases e1 : i = e.2.1
    · have := hd (j, i, nb) (List.mem_cons_self ..) e1
      subst this
      rw [hk]
      simp only [cond_true]
      rw [List.getElem?_set_self (by rw [lateF_len]; exact hl)]
    · rcases List.mem_cons.1 hm with rfl | hm
      · exact (e1 rfl).elim
      · have ih := lateF_hit hm hk hl (h := h) fun x hx => hd x (List.mem_cons_of_mem _ hx)
        cases keep j with
        | true => simp only [cond_true]; rw [List.getElem?_set_ne e1]; exact ih
        | false => exact ih

theorem lateF_congr {keep keep' : Nat → Bool} : ∀ {ls : List (Nat × Nat × Blk)} {h : Heap}, (∀ e ∈ ls, keep e.1 = keep' e.1) → lateF keep ls h = lateF keep' ls h
  | [], h, _ => rfl
  | (j, i, nb) :: r, h, hh => by
    simp only [lateF]
    rw [hh (j, i, nb) (List.mem_cons_self ..), lateF_congr fun e he => hh e (List.mem_cons_of_mem _ he)]

theorem maskF_congr {keep keep' : Nat → Bool} : ∀ {rs : List (Nat × Nat × Nat)} {h : Heap}, (∀ e ∈ rs, keep e.1 = keep' e.1) → maskF keep rs h = maskF keep' rs h
  | [], h, _ => rfl
  | (j, a, n) :: r, h, hh => by
    simp only [maskF]
    rw [hh (j, a, n) (List.mem_cons_self ..), maskF_congr fun e he => hh e (List.mem_cons_of_mem _ he), maskF_congr fun e he => hh e (List.mem_cons_of_mem _ he)]

theorem inRs_spec {A : Nat → Bool} {id : Nat} : ∀ {rs : List (Nat × Nat × Nat)}, inRs A id rs = true → ∃ r ∈ rs, A r.1 = true ∧ inRange r id
  | [], h => by cases h
  | (i, a, n) :: r, h => by
    simp only [inRs, Bool.or_eq_true, Bool.and_eq_true] at h
    rcases h with ⟨h1, h2, h3⟩ | h
    · exact ⟨_, List.mem_cons_self .., h1, ble_true h2, blt_true h3⟩
    · obtain ⟨x, a, b⟩ := inRs_spec h; exact ⟨x, List.mem_cons_of_mem _ a, b⟩

theorem memL_false {id : Nat} : ∀ {ls : List (Nat × Nat × Blk)}, memL id ls = false → ∀ e ∈ ls, e.2.1 ≠ id
  | [], _, e, he => by cases he
  | (j, i, nb) :: r, h, e, he => by
    simp only [memL, Bool.or_eq_false_iff] at h
    rcases List.mem_cons.1 he with rfl | he
    · intro x; simp only at x; subst x; rw [Nat.beq_refl] at h; cases h.1
    · exact memL_false h.2 e he

theorem memN_mem {x : Nat} : ∀ {l : List Nat}, memN x l = true → x ∈ l
  | [], h => by cases h
  | y :: r, h => by
    simp only [memN, Bool.or_eq_true] at h
    rcases h with h | h
    · have := beq_true h; subst this; exact List.mem_cons_self ..
    · exact List.mem_cons_of_mem _ (memN_mem h)

theorem storeAt_map {ι : Map} {n : Nat} {s : Slots} {a : Act} {op : Op} {id : Nat} (h : storeAt s op = some id) (hs : SR ι n s a) : ∃ l, ι id = some l := by
  unfold storeAt at h
  split at h
  · split at h
    · rename_i x v id2 off hv
      cases h
      have key : ∀ u : Value, VR ι (.pointer (some ⟨id, off, none⟩)) u → ∃ l, ι id = some l := fun u h => by
        cases h with
        | ptr hl => exact ⟨_, hl⟩
      exact key _ (opnd_VR hs hv)
    · cases h
  · cases h

/-- One block is written. -/
theorem HR_late {ι κ : Map} {base : Nat} {H H' h1 h2 : Heap} {w w' : World} {id : Nat} {ob nb : Blk} (hr : HR ι base H w) (ho : H[id]? = some (some ob)) (hown : ob.own = true) (hf : Fr (mods κ h1) w w')
    (h1only : ∀ (j : Nat) (blk : Blk), h1[j]? = some (some blk) → j = id) (hκ : Map.le κ ι) (hκid : κ id = ι id) (hr2 : HR κ base h2 w') (hn : h2[id]? = some (some nb)) (hlen : H'.length = H.length)
    (hH : ∀ (j : Nat) (blk : Blk), H'[j]? = some (some blk) → (j = id ∧ blk = nb) ∨ (j ≠ id ∧ H[j]? = some (some blk))) : HR ι base H' w' := by
  have keepw : ∀ (j : Nat) (blk : Blk) (l : Loc), j ≠ id → H[j]? = some (some blk) → ι j = some l → w'.heap[l.b]? = w.heap[l.b]? := by
    intro j blk l hj hb hl
    refine hf.same _ (hr.dom j l hl).2 ?_
    rintro ⟨i, b1, l1, q1, q2, q3, q4⟩
    have := h1only _ _ q1
    subst this
    exact hr.inj i j ob blk l1 l ho hb hown (fun e => hj e.symm) (hκ _ _ q3) hl q4
  refine ⟨fun j blk hb => ?_, fun j l hl => ?_, fun j j' blk blk' l l' hb hb' hob hne hl hl' => ?_, fun j blk l hb hob hl => ?_, Nat.le_trans hr.base_le hf.size⟩
  · rcases hH j blk hb with ⟨rfl, rfl⟩ | ⟨hj, hb⟩
    · rcases hr2.live j blk hn with ⟨p1, p2⟩ | ⟨l, p1, p2⟩
      · exact .inl ⟨by rw [← hκid]; exact p1, p2⟩
      · exact .inr ⟨l, by rw [← hκid]; exact p1, p2.mono hκ⟩
    · rcases hr.live j blk hb with ⟨p1, p2⟩ | ⟨l, p1, p2⟩
      · exact .inl ⟨p1, p2⟩
      · exact .inr ⟨l, p1, p2.same (keepw j blk l hj hb p1)⟩
  · have := hr.dom j l hl
    exact ⟨by omega, Nat.lt_of_lt_of_le this.2 hf.size⟩
  · rcases hH j blk hb with ⟨rfl, rfl⟩ | ⟨hj, hb⟩ <;> rcases hH j' blk' hb' with ⟨rfl, rfl⟩ | ⟨hj', hb'⟩
    · exact (hne rfl).elim
    · exact hr.inj j j' ob blk' l l' ho hb' hown hne hl hl'
    · exact fun e => hr.inj j' j ob blk l' l ho hb hown (fun e => hne e.symm) hl' hl e.symm
    · exact hr.inj j j' blk blk' l l' hb hb' hob hne hl hl'
  · rcases hH j blk hb with ⟨rfl, rfl⟩ | ⟨hj, hb⟩
    · exact hr.own j ob l ho hown hl
    · exact hr.own j blk l hb hob hl

section
variable {P : Program} {n : Nat} {ops : Array Oper} {b : Array Nat} {W : List Nat} {A : Nat → Bool}

inductive StepTrL (P : Program) (n : Nat) (ops : Array Oper) (b : Array Nat) (W : List Nat) (A : Nat → Bool) (j : Nat) (o : Oper) (s : Slots) (h : Heap) (rs : List (Nat × Nat × Nat)) (ls : List (Nat × Nat × Blk)) : Slots → Heap → List (Nat × Nat × Nat) → List (Nat × Nat × Blk) → Prop
  | skip {s0 s' : Slots} (h0 : ∀ t, getS s0 t = getS s t) (hw : ∀ (ι : Map) (a : Act), SR ι n (restrS (namesOf ops o) s) a → Region.wanted o (yielded ops a.tmps) = false) (hl : Laid n s0 o.dst (some undef) s') : StepTrL P n ops b W A j o s h rs ls s' h rs ls
  | non {s0 s' : Slots} {v : Value} {N : Heap} (h0 : ∀ t, getS s0 t = getS s t) (hw : ∀ (ι : Map) (a : Act), SR ι n (restrS (namesOf ops o) s) a → Region.wanted o (yielded ops a.tmps) = true)
      (hs : bdS h.length (restrS (namesOf ops o) s0) = true) (hb : bdH h.length (lateM W A (b.getD j 0) rs h) = true)
      (ho : OpS P n (restrS (namesOf ops o) s0) (lateM W A (b.getD j 0) rs h) o v (lateM W A (b.getD j 0) rs h ++ N) false) (hl : Laid n s0 o.dst (some v) s') :
      StepTrL P n ops b W A j o s h rs ls s' (h ++ N) ((j, h.length, N.length) :: rs) ls
  | late {s0 s' : Slots} {v : Value} {h' : Heap} {id : Nat} {ob nb : Blk} (h0 : ∀ t, getS s0 t = getS s t) (hw : ∀ (ι : Map) (a : Act), SR ι n (restrS (namesOf ops o) s) a → Region.wanted o (yielded ops a.tmps) = true)
      (hob : h[id]? = some (some ob)) (hown : ob.own = true) (hid : id ∈ W ∨ ∃ r ∈ rs, A r.1 = true ∧ inRange r id) (hdis : ∀ e ∈ ls, e.2.1 ≠ id) (hs : bdS h.length (restrS (namesOf ops o) s0) = true) (hb : bdH h.length (onlyB h id) = true)
      (hp : ∀ (ι : Map) (a : Act), SR ι n (restrS (namesOf ops o) s0) a → ∃ l, ι id = some l)
      (ho : OpS P n (restrS (namesOf ops o) s0) (onlyB h id) o v h' true) (hnb : h'[id]? = some (some nb)) (hlen : h'.length = h.length) (hl : Laid n s0 o.dst (some v) s') : StepTrL P n ops b W A j o s h rs ls s' h rs ((j, id, nb) :: ls)

theorem drawL_trace {S : Spec} {out : Res} (hS : SpecOK P S) : ∀ {l : List Oper} {j : Nat} {s : Slots} {h : Heap} {rs : List (Nat × Nat × Nat)} {ls : List (Nat × Nat × Blk)} {k : Slots → Heap → List (Nat × Nat × Blk) → Out}, drawL P S n ops b W A l j s h rs ls k = some out → (∀ i, l[i]? = ops[j + i]?) →
    ∃ (ss : Nat → Slots) (hh : Nat → Heap) (rr : Nat → List (Nat × Nat × Nat)) (ll : Nat → List (Nat × Nat × Blk)), ss j = s ∧ hh j = h ∧ rr j = rs ∧ ll j = ls ∧ k (ss (j + l.length)) (hh (j + l.length)) (ll (j + l.length)) = some out ∧
      ∀ i o, j ≤ i → i < j + l.length → ops[i]? = some o → StepTrL P n ops b W A i o (ss i) (hh i) (rr i) (ll i) (ss (i + 1)) (hh (i + 1)) (rr (i + 1)) (ll (i + 1))
  | [], j, s, h, rs, ls, k, hk, _ => ⟨fun _ => s, fun _ => h, fun _ => rs, fun _ => ls, rfl, rfl, rfl, rfl, hk, fun i o h1 h2 => by simp at h2; omega⟩
  | o :: r, j, s, h, rs, ls, k, hk, hl => by
    have hoj : ops[j]? = some o := by have := hl 0; simpa using this.symm
    have hr' : ∀ i, r[i]? = ops[j + 1 + i]? := fun i => by
      have := hl (i + 1)
      rw [List.getElem?_cons_succ] at this
      rw [this]; congr 1; omega
    have glue : ∀ (s1 : Slots) (h1 : Heap) (rs1 : List (Nat × Nat × Nat)) (ls1 : List (Nat × Nat × Blk)), StepTrL P n ops b W A j o s h rs ls s1 h1 rs1 ls1 → drawL P S n ops b W A r (j + 1) s1 h1 rs1 ls1 k = some out →
        ∃ (ss : Nat → Slots) (hh : Nat → Heap) (rr : Nat → List (Nat × Nat × Nat)) (ll : Nat → List (Nat × Nat × Blk)), ss j = s ∧ hh j = h ∧ rr j = rs ∧ ll j = ls ∧ k (ss (j + (o :: r).length)) (hh (j + (o :: r).length)) (ll (j + (o :: r).length)) = some out ∧
          ∀ i o', j ≤ i → i < j + (o :: r).length → ops[i]? = some o' → StepTrL P n ops b W A i o' (ss i) (hh i) (rr i) (ll i) (ss (i + 1)) (hh (i + 1)) (rr (i + 1)) (ll (i + 1)) := by
      intro s1 h1 rs1 ls1 hst hd
      obtain ⟨ss, hh, rr, ll, e1, e2, e3, e3b, e4, e5⟩ := drawL_trace hS hd hr'
      refine ⟨fun i => if i = j then s else ss i, fun i => if i = j then h else hh i, fun i => if i = j then rs else rr i, fun i => if i = j then ls else ll i, by simp, by simp, by simp, by simp, ?_, fun i o' h1 h2 h3 => ?_⟩
      · have : j + (o :: r).length = j + 1 + r.length := by simp; omega
        rw [this]
        simp only [show ¬ (j + 1 + r.length = j) by omega, if_false]
        exact e4
      · by_cases e : i = j
        · subst e
          rw [hoj] at h3
          cases h3
          simp only [if_true, show ¬ (i + 1 = i) by omega, if_false, e1, e2, e3, e3b]
          exact hst
        · simp only [e, if_false, show ¬ (i + 1 = j) by omega]
          exact e5 i o' (by omega) (by simp at h2; omega) h3
    simp only [drawL] at hk
    obtain ⟨s0, hs0, hrun | hskip⟩ := guardK_some' (n := n) hk
    · obtain ⟨hk, hw⟩ := hrun
      have hw := guard_restr hw
      rcases bif_some hk with ⟨hmo, hk⟩ | ⟨hmo, hk⟩
      · split at hk
        · rename_i id hid
          split at hk
          · rename_i ob hob
            obtain ⟨hc, hk⟩ := bif_none hk
            simp only [Bool.and_eq_true, Bool.or_eq_true, Bool.not_eq_true'] at hc
            obtain ⟨⟨⟨⟨c1, c2⟩, c3⟩, c4⟩, c5⟩ := hc
            obtain ⟨v, h1, q1, q2, q3, _⟩ := opK_sound (n := n) hS hk
            dsimp only at q1
            split at q1
            · rename_i nb hnb
              obtain ⟨c6, q1⟩ := bif_none q1
              obtain ⟨s1, p1, p2⟩ := putS_some q1
              rw [hmo] at q2
              refine glue s1 h rs _ (.late hs0 hw (getB_some hob) c1 ?_ (memL_false c3) c4 c5 (fun ι a hs => storeAt_map hid hs) q2 (getB_some hnb) (beq_true c6) p2) p1
              rcases c2 with c2 | c2
              · exact .inl (memN_mem c2)
              · exact .inr (inRs_spec c2)
            · cases q1
          · cases hk
        · cases hk
      · obtain ⟨hbd, hk⟩ := bif_none' hk
        simp only [Bool.not_eq_false', Bool.and_eq_true] at hbd
        obtain ⟨v, h1, q1, q2, q3, q4⟩ := opK_sound (n := n) hS hk
        obtain ⟨s1, p1, p2⟩ := putS_some q1
        rw [hmo] at q2
        obtain ⟨N, hN⟩ := q4 hmo
        have hml : (lateM W A (b.getD j 0) rs h).length = h.length := by unfold lateM; rw [(killL_get _ _ 0).1, maskF_len]
        subst hN
        have e1 : (lateM W A (b.getD j 0) rs h ++ N).drop h.length = N := by rw [← hml]; simp
        have e2 : (lateM W A (b.getD j 0) rs h ++ N).length - h.length = N.length := by rw [List.length_append, hml]; omega
        rw [e1, e2] at p1
        exact glue s1 (h ++ N) _ _ (.non hs0 hw hbd.1 hbd.2 q2 p2) p1
    · obtain ⟨hk, hw⟩ := hskip
      have hw := guard_restr hw
      obtain ⟨s1, p1, p2⟩ := putS_some hk
      exact glue s1 h rs ls (.skip hs0 hw p2) p1

variable {ss : Nat → Slots} {hh : Nat → Heap} {rr : Nat → List (Nat × Nat × Nat)} {ll : Nat → List (Nat × Nat × Blk)}

/-- The text's run. -/
def RunL (P : Program) (n : Nat) (ops : Array Oper) (b : Array Nat) (W : List Nat) (A : Nat → Bool) (ss : Nat → Slots) (hh : Nat → Heap) (rr : Nat → List (Nat × Nat × Nat)) (ll : Nat → List (Nat × Nat × Blk)) : Prop :=
  ∀ i o, i < ops.size → ops[i]? = some o → StepTrL P n ops b W A i o (ss i) (hh i) (rr i) (ll i) (ss (i + 1)) (hh (i + 1)) (rr (i + 1)) (ll (i + 1))

theorem RunL.at (hr : RunL P n ops b W A ss hh rr ll) {i : Nat} (hi : i < ops.size) : ∃ o, ops[i]? = some o ∧ StepTrL P n ops b W A i o (ss i) (hh i) (rr i) (ll i) (ss (i + 1)) (hh (i + 1)) (rr (i + 1)) (ll (i + 1)) :=
  ⟨ops[i], Array.getElem?_eq_getElem hi, hr i _ hi (Array.getElem?_eq_getElem hi)⟩

theorem StepTrL.shape {j : Nat} {o : Oper} {s s' : Slots} {h h' : Heap} {rs rs' : List (Nat × Nat × Nat)} {ls ls' : List (Nat × Nat × Blk)} (hs : StepTrL P n ops b W A j o s h rs ls s' h' rs' ls') :
    (∃ N, h' = h ++ N ∧ ((rs' = rs ∧ N = []) ∨ rs' = (j, h.length, N.length) :: rs)) ∧ (ls' = ls ∨ ∃ id nb, ls' = (j, id, nb) :: ls ∧ (∀ e ∈ ls, e.2.1 ≠ id) ∧ id < h.length ∧ (id ∈ W ∨ ∃ r ∈ rs, A r.1 = true ∧ inRange r id)) := by
  cases hs with
  | skip => exact ⟨⟨[], by simp, .inl ⟨rfl, rfl⟩⟩, .inl rfl⟩
  | non => exact ⟨⟨_, rfl, .inr rfl⟩, .inl rfl⟩
  | late h0 hw hob hown hid hdis => exact ⟨⟨[], by simp, .inl ⟨rfl, rfl⟩⟩, .inr ⟨_, _, rfl, hdis, (List.getElem?_eq_some_iff.1 hob).1, hid⟩⟩

/-- From a place to a later one. -/
theorem RunL.begins (hr : RunL P n ops b W A ss hh rr ll) {i : Nat} : ∀ {m : Nat}, i + m ≤ ops.size → ∃ M E F, hh (i + m) = hh i ++ M ∧ rr (i + m) = E ++ rr i ∧ ll (i + m) = F ++ ll i ∧
    (∀ r ∈ E, i ≤ r.1 ∧ r.1 < i + m ∧ (hh i).length ≤ r.2.1 ∧ r.2.1 + r.2.2 ≤ (hh (i + m)).length) ∧ (∀ e ∈ F, i ≤ e.1 ∧ e.1 < i + m ∧ e.2.1 < (hh (i + m)).length ∧ (e.2.1 ∈ W ∨ ∃ r ∈ rr (i + m), A r.1 = true ∧ inRange r e.2.1) ∧ (∀ x ∈ ll i, x.2.1 ≠ e.2.1) ∧ ∀ x ∈ F, x.2.1 = e.2.1 → x = e)
      ∧ ∀ id, (hh i).length ≤ id → id < (hh (i + m)).length → ∃ r ∈ E, inRange r id
  | 0, _ => ⟨[], [], [], by simp, rfl, rfl, (fun r h => by cases h), (fun r h => by cases h), fun id h1 h2 => by rw [Nat.add_zero] at h2; omega⟩
  | m + 1, hm => by
    obtain ⟨M, E, F, e1, e2, e3, e4, e5, e6⟩ := hr.begins (i := i) (m := m) (by omega)
    obtain ⟨o, _, hs⟩ := hr.at (i := i + m) (by omega)
    obtain ⟨⟨N, f1, f2⟩, f3⟩ := hs.shape
    have hE : ∃ E', rr (i + (m + 1)) = E' ++ rr (i + m) ∧ (∀ r ∈ E', r.1 = i + m ∧ r.2.1 = (hh (i + m)).length ∧ r.2.2 = N.length) ∧ (N = [] ∨ (i + m, (hh (i + m)).length, N.length) ∈ E') := by
      rcases f2 with ⟨f2, f4⟩ | f2
      · exact ⟨[], f2, (fun r h => by cases h), .inl f4⟩
      · refine ⟨[(i + m, (hh (i + m)).length, N.length)], f2, fun r h => ?_, .inr (List.mem_cons_self ..)⟩
        rcases List.mem_cons.1 h with rfl | h
        · exact ⟨rfl, rfl, rfl⟩
        · cases h
    obtain ⟨E', g1, g2, g3⟩ := hE
    have f1' : hh (i + (m + 1)) = hh (i + m) ++ N := f1
    have hF : ∃ F', ll (i + (m + 1)) = F' ++ ll (i + m) ∧ (∀ e ∈ F', e.1 = i + m ∧ e.2.1 < (hh (i + m)).length ∧ (e.2.1 ∈ W ∨ ∃ r ∈ rr (i + m), A r.1 = true ∧ inRange r e.2.1) ∧ (∀ x ∈ ll (i + m), x.2.1 ≠ e.2.1) ∧ ∀ x ∈ F', x = e) := by
      rcases f3 with f3 | ⟨id, nb, f3, f4, f5, f6⟩
      · exact ⟨[], f3, fun e h => by cases h⟩
      · refine ⟨[(i + m, id, nb)], f3, fun e h => ?_⟩
        rcases List.mem_cons.1 h with rfl | h
        · exact ⟨rfl, f5, f6, f4, fun x hx => by rcases List.mem_cons.1 hx with rfl | hx; rfl; cases hx⟩
        · cases h
    obtain ⟨F', k1, k2⟩ := hF
    have hlen : (hh (i + m)).length ≤ (hh (i + (m + 1))).length := by rw [f1']; simp
    refine ⟨M ++ N, E' ++ E, F' ++ F, by rw [f1', e1]; simp, by rw [g1, e2]; simp, by rw [k1, e3]; simp, fun r h => ?_, fun e h => ?_, fun id h1 h2 => ?_⟩
    · rcases List.mem_append.1 h with h | h
      · obtain ⟨a1, a2, a3⟩ := g2 r h
        refine ⟨by omega, by omega, ?_, ?_⟩
        · rw [a2, e1]; simp
        · rw [a2, a3, f1']; simp
      · obtain ⟨a1, a2, a3, a4⟩ := e4 r h
        exact ⟨a1, by omega, a3, by omega⟩
    · have up : ∀ {q : Nat}, (q ∈ W ∨ ∃ r ∈ rr (i + m), A r.1 = true ∧ inRange r q) → (q ∈ W ∨ ∃ r ∈ rr (i + (m + 1)), A r.1 = true ∧ inRange r q) := by
        intro q hq
        rcases hq with hq | ⟨r, r1, r2⟩
        · exact .inl hq
        · exact .inr ⟨r, by rw [g1]; exact List.mem_append_right _ r1, r2⟩
      rcases List.mem_append.1 h with h | h
      · obtain ⟨a1, a2, a3, a4, a5⟩ := k2 e h
        refine ⟨by omega, by omega, by omega, up a3, fun x hx => a4 x (by rw [e3]; exact List.mem_append_right _ hx), fun x hx hxe => ?_⟩
        rcases List.mem_append.1 hx with hx | hx
        · exact a5 x hx
        · exact (a4 x (by rw [e3]; exact List.mem_append_left _ hx) hxe).elim
      · obtain ⟨a1, a2, a3, a4, a5, a6⟩ := e5 e h
        refine ⟨a1, by omega, by omega, up a4, a5, fun x hx hxe => ?_⟩
        rcases List.mem_append.1 hx with hx | hx
        · exact ((k2 x hx).2.2.2.1 e (by rw [e3]; exact List.mem_append_left _ h) hxe.symm).elim
        · exact a6 x hx hxe
    · by_cases hi : id < (hh (i + m)).length
      · obtain ⟨r, a, c⟩ := e6 id h1 hi; exact ⟨r, List.mem_append_right _ a, c⟩
      · rw [f1', List.length_append] at h2
        rcases g3 with g3 | g3
        · rw [g3] at h2; simp at h2; omega
        · exact ⟨_, List.mem_append_left _ g3, Nat.not_lt.1 hi, h2⟩

theorem StepTrL.slots {j : Nat} {o : Oper} {s s' : Slots} {h h' : Heap} {rs rs' : List (Nat × Nat × Nat)} {ls ls' : List (Nat × Nat × Blk)} (hs : StepTrL P n ops b W A j o s h rs ls s' h' rs' ls') {t : Nat} (ht : o.dst ≠ some t) : getS s' t = getS s t := by
  have key : ∀ {s0 : Slots} {v : Option Value}, (∀ t, getS s0 t = getS s t) → Laid n s0 o.dst v s' → getS s' t = getS s t := by
    intro s0 v h0 hl
    cases hd : o.dst with
    | none => rw [hd] at hl; simp only [Laid] at hl; rw [hl]; exact h0 t
    | some u =>
      rw [hd] at hl
      simp only [Laid] at hl
      rw [hl.2, getS_cons, if_neg (fun e => ht (by rw [hd, e]))]
      exact h0 t
  cases hs with
  | skip h0 _ hl => exact key h0 hl
  | non h0 _ _ _ _ hl => exact key h0 hl
  | late h0 _ _ _ _ _ _ _ _ _ _ _ hl => exact key h0 hl

theorem sv_textL (hr : RunL P n ops b W A ss hh rr ll) {D : Nat → Bool} {t : Nat} : ∀ {j : Nat}, j ≤ ops.size → (∀ i, i < j → writes ops i t → D i = true) → sv ops ss D j t = getS (ss j) t
  | 0, _, _ => rfl
  | j + 1, hj, h => by
    simp only [sv]
    by_cases hw : writes ops j t
    · rw [if_pos ⟨h j (by omega) hw, hw⟩]
    · rw [if_neg (fun x => hw x.2), sv_textL hr (by omega) (fun i hi => h i (by omega))]
      obtain ⟨o, ho, hs⟩ := hr.at (i := j) (by omega)
      exact (hs.slots (fun e => hw (by simp [writes, ho, e]))).symm

/-- What holds when some operations are done. -/
structure InvL (n : Nat) (ops : Array Oper) (b : Array Nat) (ss : Nat → Slots) (h0 : Heap) (hz : Heap) (rz : List (Nat × Nat × Nat)) (lz : List (Nat × Nat × Blk)) (D : Nat → Bool) (ι0 : Map) (base : Nat) (w0 : World) (ι : Map) (a : Act) (w : World) : Prop where
  clo : ∀ j i, D j = true → (b.getD j 0).testBit i = true → D i = true
  heap : HR ι base (lateF D lz (maskF D rz hz)) w
  none : ∀ r ∈ rz, D r.1 = false → ∀ id, inRange r id → ι id = none
  hit : ∀ e ∈ lz, D e.1 = true → ∀ r ∈ rz, inRange r e.2.1 → D r.1 = true
  size : a.tmps.size = n
  defers : a.defers = []
  slots : ∀ (t : Nat) (u : Value), sv ops ss D ops.size t = some u → VR ι u (a.tmps.getD t undef)
  le : Map.le ι0 ι
  new : ∀ (id : Nat) (l : Loc), ι id = some l → ι0 id = some l ∨ (h0.length ≤ id ∧ (w0.heap.size ≤ l.b ∨ mods ι0 h0 l.b))
  fr : Fr (mods ι0 h0) w0 w
  mo : ∀ b', mods ι (lateF D lz (maskF D rz hz)) b' → b' < w0.heap.size → mods ι0 h0 b'

variable {h0 hz : Heap} {rz : List (Nat × Nat × Nat)} {lz : List (Nat × Nat × Blk)}

theorem InvL.named (hr : RunL P n ops (Region.before ops) W A ss hh rr ll) (hk : slotsOK ops (Region.before ops) = true) (he : edgesOK ops = true) {D : Nat → Bool} {ι0 ι : Map} {base : Nat} {w0 w : World} {a : Act}
    (hi : InvL n ops (Region.before ops) ss h0 hz rz lz D ι0 base w0 ι a w) {i : Nat} {o : Oper} (ho : ops[i]? = some o) (hD : D i = false) (hdep : ∀ k, ((Region.before ops).getD i 0).testBit k = true → D k = true) :
    SR ι n (restrS (namesOf ops o) (ss i)) a := by
  have hlt := (Array.getElem?_eq_some_iff.1 ho).1
  refine ⟨hi.size, hi.defers, fun t v hv => hi.slots t v ?_⟩
  rw [restrS_get] at hv
  split at hv
  · rename_i ht
    have h1 : sv ops ss D ops.size t = sv ops ss D i t := by
      have := sv_later (ops := ops) (ss := ss) (D := D) (t := t) (j := i) (m := ops.size - i) (fun k hk1 hk2 hw => by
        by_cases e : k = i
        · subst e; exact hD
        · rcases slots_ordered hk ho ht hw e with h | h
          · have := (before_lt he i h).1; omega
          · cases hDk : D k with
            | false => rfl
            | true => rw [hi.clo k i hDk h] at hD; cases hD)
      rwa [show i + (ops.size - i) = ops.size by omega] at this
    rw [h1, sv_textL hr (by omega) (fun k hk1 hw => by
      rcases slots_ordered hk ho ht hw (by omega) with h | h
      · exact hdep k h
      · have := (before_lt he k h).1; omega)]
    exact hv
  · cases hv

theorem InvL.slots_upd (hk : slotsOK ops (Region.before ops) = true) (he : edgesOK ops = true) {D : Nat → Bool} {ι0 ι ι' : Map} {base : Nat} {w0 w : World} {a : Act}
    (hi : InvL n ops (Region.before ops) ss h0 hz rz lz D ι0 base w0 ι a w) (hle : Map.le ι ι') {i : Nat} {o : Oper} (ho : ops[i]? = some o) (hD : D i = false) {s0 : Slots} {v v' : Value} (hl : Laid n s0 o.dst (some v) (ss (i + 1))) (hv : VR ι' v v') :
    ∀ (t : Nat) (u : Value), sv ops ss (upd D i) ops.size t = some u → VR ι' u ((a.put o.dst v').tmps.getD t undef) := by
  have hlt := (Array.getElem?_eq_some_iff.1 ho).1
  intro t u hu
  by_cases hw : writes ops i t
  · have hd : o.dst = some t := by simpa [writes, ho] using hw
    rw [hd] at hl
    simp only [Laid] at hl
    have h1 : sv ops ss (upd D i) ops.size t = sv ops ss (upd D i) (i + 1) t := by
      have := sv_later (ops := ops) (ss := ss) (D := upd D i) (t := t) (j := i + 1) (m := ops.size - (i + 1)) (fun k hk1 hk2 hwk => by
        have hok : ∃ o', ops[k]? = some o' := ⟨ops[k], Array.getElem?_eq_getElem (by omega)⟩
        obtain ⟨o', ho'⟩ := hok
        have ht : t ∈ namesOf ops o' := by
          have : o'.dst = some t := by simpa [writes, ho'] using hwk
          simp [namesOf, this]
        rw [upd_false]
        refine ⟨?_, by omega⟩
        rcases slots_ordered hk ho' ht hw (by omega) with h | h
        · cases hDk : D k with
          | false => rfl
          | true => rw [hi.clo k i hDk h] at hD; cases hD
        · have := (before_lt he i h).1; omega)
      rwa [show i + 1 + (ops.size - (i + 1)) = ops.size by omega] at this
    rw [h1] at hu
    simp only [sv] at hu
    rw [if_pos ⟨by rw [upd_true]; exact .inr rfl, hw⟩, hl.2, getS_cons, if_pos rfl] at hu
    cases hu
    simp only [Act.put, hd]
    rw [Array.getD_eq_getD_getElem?, Array.getElem?_setIfInBounds_self_of_lt (by rw [hi.size]; exact hl.1)]
    exact hv
  · have h1 : sv ops ss (upd D i) ops.size t = sv ops ss D ops.size t := sv_congr (fun k hk1 hwk => by
      simp only [upd]
      by_cases e : k = i
      · subst e; exact (hw hwk).elim
      · simp [e])
    rw [h1] at hu
    have := (hi.slots t u hu).mono hle
    cases hd : o.dst with
    | none => simpa [Act.put] using this
    | some x =>
      have hne : x ≠ t := fun e => hw (by simp [writes, ho, hd, e])
      simp only [Act.put]
      rw [Array.getD_eq_getD_getElem?, Array.getElem?_setIfInBounds_ne hne, ← Array.getD_eq_getD_getElem?]
      exact this
end
end Go.Proofs.Ytfgehfnlkakioaa.VC
