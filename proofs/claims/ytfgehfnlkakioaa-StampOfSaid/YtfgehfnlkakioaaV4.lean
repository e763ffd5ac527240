/- Calls of functions that are known. -/
import Derived.Test.YtfgehfnlkakioaaV3
namespace Go.Proofs.Ytfgehfnlkakioaa.VC
open Go

/-- What stands behind an operation, or a call. -/
structure AfterR (ι ι' : Map) (base : Nat) (h : Heap) (w : World) (v : Value) (h' : Heap) (v' : Value) (w' : World) (m : Nat → Prop) : Prop where
  le : Map.le ι ι'
  new : ∀ (id : Nat) (l : Loc), ι' id = some l → ι id = some l ∨ (h.length ≤ id ∧ (w.heap.size ≤ l.b ∨ m l.b))
  hr : HR ι' base h' w'
  vr : VR ι' v v'
  fr : Fr m w w'
  mo : ∀ b, mods ι' h' b → b < w.heap.size → mods ι h b

def After (ι : Map) (base : Nat) (h : Heap) (w : World) (v : Value) (h' : Heap) (v' : Value) (w' : World) (m : Nat → Prop) : Prop :=
  ∃ ι', AfterR ι ι' base h w v h' v' w' m

def CallRuns (P : Program) (g : FuncId) (args : Array Value) (w : World) (R : Value → World → Prop) : Prop :=
  ((callFunc g args).run P w = .ok (.enter g args) w ∧ Calls P g args w fun e w' => ∃ v', e = .returned v' ∧ R v' w') ∨
  ∃ v' w', (callFunc g args).run P w = .ok (.value v') w' ∧ R v' w'

theorem CallRuns.mono {P : Program} {g : FuncId} {args : Array Value} {w : World} {R R' : Value → World → Prop} (h : CallRuns P g args w R) (hr : ∀ v w, R v w → R' v w) :
    CallRuns P g args w R' := by
  rcases h with ⟨h1, h2⟩ | ⟨v', w', h1, h2⟩
  · exact .inl ⟨h1, h2.mono fun e w' ⟨v', he, hv⟩ => ⟨v', he, hr _ _ hv⟩⟩
  · exact .inr ⟨v', w', h1, hr _ _ h2⟩

def CallS (P : Program) (g : FuncId) (args : List Value) (h : Heap) (v : Value) (h' : Heap) : Prop :=
  ∀ (ι : Map) (base : Nat) (w : World) (args' : Array Value), HR ι base h w → VRs ι args args'.toList →
    CallRuns P g args' w fun v' w' => After ι base h w v h' v' w' (mods ι h)

def SpecOK (P : Program) (S : Spec) : Prop := ∀ (g : FuncId) (args : List Value) (h : Heap) (k : Value → Heap → Out) (out : Res),
  S.f g args h k = some out → ∃ v h', k v h' = some out ∧ CallS P g args h v h'

theorem readOnly_get : ∀ {h : Heap} {i : Nat} {b : Blk}, (readOnly h)[i]? = some (some b) → ∃ b0, h[i]? = some (some b0) ∧ b = ⟨false, b0.es, b0.segs⟩
  | [], i, b, hb => by simp [readOnly] at hb
  | x :: r, i, b, hb => by
    cases i with
    | zero =>
      simp only [readOnly, List.getElem?_cons_zero, Option.some.injEq] at hb
      cases x with
      | none => simp at hb
      | some y => obtain ⟨o, es, sg⟩ := y; simp at hb; subst hb; exact ⟨_, rfl, rfl⟩
    | succ i => simp [readOnly] at hb; simpa using readOnly_get hb

theorem readOnly_length : ∀ {h : Heap}, (readOnly h).length = h.length
  | [] => rfl
  | x :: r => by simp [readOnly, readOnly_length]

theorem HR.readOnly {ι : Map} {base : Nat} {h : Heap} {w : World} (hr : HR ι base h w) : HR ι base (readOnly h) w := by
  refine ⟨fun id blk hb => ?_, fun id l hl => by rw [readOnly_length]; exact hr.dom id l hl, fun id id' blk blk' l l' hb _ ho => ?_, fun id blk l hb ho => ?_, hr.base_le⟩
  · obtain ⟨b0, h1, rfl⟩ := readOnly_get hb
    rcases hr.live id b0 h1 with h2 | ⟨l, h2, c, T, fr, a1, a2, a3, a4, a5, a6⟩
    · exact .inl h2
    · exact .inr ⟨l, h2, c, T, fr, a1, a2, a3, a4, a5, by simp⟩
  · obtain ⟨b0, h1, rfl⟩ := readOnly_get hb
    simp at ho
  · obtain ⟨b0, h1, rfl⟩ := readOnly_get hb
    simp at ho

theorem mods_readOnly {ι : Map} {h : Heap} {b : Nat} (hm : mods ι (readOnly h) b) : False := by
  obtain ⟨id, blk, l, hb, ho, _⟩ := hm
  obtain ⟨b0, h1, rfl⟩ := readOnly_get hb
  simp at ho

theorem renV_top {f : Nat → Option Nat} {ι κ : Map} (hf : Keeps f ι κ) {v u v' : Value} (h : renV f 8 v = some u) (hv : VR ι v v') : VR κ u v' := renV_VR hf 8 h hv

theorem fwd_lt {σ : List Nat} {n j : Nat} (h : j < σ.length) : fwd σ n j = σ[j]? := by
  simp [fwd, Nat.blt, show Nat.ble (j + 1) σ.length = true from Nat.ble_eq_true_of_le h]
theorem fwd_ge {σ : List Nat} {n j : Nat} (h : σ.length ≤ j) : fwd σ n j = some (n + (j - σ.length)) := by
  have : Nat.ble (j + 1) σ.length = false := by
    rw [Bool.eq_false_iff]; intro e; have := Nat.le_of_ble_eq_true e; omega
  simp [fwd, Nat.blt, this]

/-- The caller's map behind a call. -/
def backMap (ι ι1 : Map) (n m : Nat) : Map := fun id => if id < n then ι id else ι1 (m + (id - n))

theorem back_keeps {ι ι1 : Map} {σ : List Nat} {n : Nat} (hσ : ∀ i ∈ σ, i < n) (h : ∀ (j : Nat) (l : Loc), ι1 j = some l → j < σ.length → cutMap σ ι j = some l) :
    Keeps (fwd σ n) ι1 (backMap ι ι1 n σ.length) := by
  intro j i l hf hl
  by_cases hj : j < σ.length
  · rw [fwd_lt hj] at hf
    have h1 := h j l hl hj
    simp only [cutMap, hf, Option.bind_some] at h1
    have : i < n := hσ i (List.mem_of_getElem? hf)
    simp [backMap, this, h1]
  · rw [fwd_ge (by omega)] at hf
    simp only [Option.some.injEq] at hf
    subst hf
    simp only [backMap]
    rw [if_neg (by omega)]
    rw [show σ.length + (n + (j - σ.length) - n) = j by omega]
    exact hl

theorem cutK_some {h : Heap} {vs : List Value} {σ : List Nat} {k : List Value → Heap → Out} {out : Res} (hc : cutK h vs σ k = some out) :
    ∃ vs' h', k vs' h' = some out ∧ σ.Nodup ∧ (∀ i ∈ σ, i < h.length) ∧ renL (renV (idx σ) 8) vs = some vs' ∧ renH (idx σ) (pick h σ) = some h' := by
  simp only [cutK] at hc
  cases hb : nodupB σ && σ.all (fun i => Nat.blt i h.length) with
  | false => simp [hb] at hc
  | true =>
    simp only [hb, cond_true] at hc
    rw [Bool.and_eq_true] at hb
    cases hv : renL (renV (idx σ) 8) vs with
    | none => simp [hv] at hc
    | some vs' => cases hh : renH (idx σ) (pick h σ) with
      | none => simp [hv, hh] at hc
      | some h' =>
        simp only [hv, hh] at hc
        refine ⟨vs', h', hc, nodupB_nodup hb.1, fun i hi => ?_, rfl, rfl⟩
        have := List.all_eq_true.1 hb.2 i hi
        exact Nat.le_of_ble_eq_true this

theorem putBack_get : ∀ {σ : List Nat} {h h1 r : Heap}, putBack h σ r = some h1 → σ.Nodup → h1.length = h.length ∧ σ.length ≤ r.length ∧
    ∀ (id : Nat), (∀ (j : Nat) (b : Blk), σ[j]? = some id → h[id]? = some (some b) → b.own = true → h1[id]? = r[j]?) ∧
      ((∀ (j : Nat), σ[j]? = some id → ∀ (b : Blk), h[id]? = some (some b) → b.own = false) → h1[id]? = h[id]?)
  | [], h, h1, r, hp, _ => by
    simp only [putBack, Option.some.injEq] at hp
    subst hp
    exact ⟨rfl, by simp, fun id => ⟨fun j b hj => by simp at hj, fun _ => rfl⟩⟩
  | i :: σ, h, h1, [], hp, _ => by simp [putBack] at hp
  | i :: σ, h, h1, b :: r, hp, hn => by
    obtain ⟨hi, hn'⟩ := List.nodup_cons.1 hn
    simp only [putBack] at hp
    split at hp
    · rename_i es sg hg
      obtain ⟨a1, a2, a3⟩ := putBack_get hp hn'
      refine ⟨by simpa using a1, by simp; omega, fun id => ⟨fun j bb hj hb ho => ?_, fun hh => ?_⟩⟩
      · cases j with
        | zero =>
          simp only [List.getElem?_cons_zero, Option.some.injEq] at hj
          subst hj
          have hlt := (List.getElem?_eq_some_iff.1 hg).1
          have := (a3 i).2 (fun j hj => absurd (List.mem_of_getElem? hj) hi)
          rw [this]
          simp [hlt]
        | succ j =>
          simp only [List.getElem?_cons_succ] at hj ⊢
          have hne : i ≠ id := fun e => hi (e ▸ List.mem_of_getElem? hj)
          exact (a3 id).1 j bb hj (by rw [List.getElem?_set_ne hne]; exact hb) ho
      · have hne : i ≠ id := fun e => by
          subst e
          have := hh 0 rfl _ hg
          simp at this
        rw [(a3 id).2 (fun j hj bb hb => hh (j + 1) (by simpa using hj) bb (by rw [List.getElem?_set_ne hne] at hb; exact hb)), List.getElem?_set_ne hne]
    · rename_i hno
      obtain ⟨a1, a2, a3⟩ := putBack_get hp hn'
      refine ⟨a1, by simp; omega, fun id => ⟨fun j bb hj hb ho => ?_, fun hh => ?_⟩⟩
      · cases j with
        | zero =>
          simp only [List.getElem?_cons_zero, Option.some.injEq] at hj
          subst hj
          obtain ⟨o, es, sg⟩ := bb
          simp at ho
          subst ho
          exact (hno es sg hb).elim
        | succ j =>
          simp only [List.getElem?_cons_succ] at hj ⊢
          exact (a3 id).1 j bb hj hb ho
      · exact (a3 id).2 (fun j hj => hh (j + 1) (by simpa using hj))


theorem drop_get {h : Heap} {m i : Nat} : (h.drop m)[i]? = h[m + i]? := by rw [List.getElem?_drop]

/-- A call that writes nothing of what it was handed. -/
theorem after_ro {ι : Map} {base : Nat} {h hm hm' hr : Heap} {w w' : World} {σ : List Nat} {v v1 v' : Value} (hr0 : HR ι base h w) (hσ : ∀ i ∈ σ, i < h.length)
    (hlen : hm.length = σ.length) (hv : renV (fwd σ h.length) 8 v1 = some v) (hh : renH (fwd σ h.length) (hm'.drop σ.length) = some hr)
    (ha : After (cutMap σ ι) base (readOnly hm) w v1 hm' v' w' (mods (cutMap σ ι) (readOnly hm))) : After ι base h w v (h ++ hr) v' w' (fun _ => False) := by
  obtain ⟨ι1, le, new, hr1, vr, fr, _⟩ := ha
  rw [readOnly_length, hlen] at new
  have fr : Fr (fun _ => False) w w' := fr.mono fun b hb => mods_readOnly hb
  have keeps := back_keeps (ι := ι) (ι1 := ι1) hσ (fun j l hl hj => by
    rcases new j l hl with h1 | ⟨h1, _⟩
    · exact h1
    · omega)
  obtain ⟨g1, g2⟩ := renH_get hh
  have old : ∀ id, id < h.length → backMap ι ι1 h.length σ.length id = ι id := fun id hi => by simp [backMap, hi]
  have le' : Map.le ι (backMap ι ι1 h.length σ.length) := fun id l hl => by rw [old id (hr0.dom id l hl).1]; exact hl
  have newb : ∀ (id : Nat) (l : Loc), h.length ≤ id → backMap ι ι1 h.length σ.length id = some l → w.heap.size ≤ l.b := by
    intro id l hi hl
    rw [backMap, if_neg (by omega)] at hl
    rcases new _ l hl with h1 | ⟨_, h1 | h1⟩
    · simp only [cutMap] at h1
      rw [List.getElem?_eq_none (by omega)] at h1
      simp at h1
    · exact h1
    · exact (mods_readOnly h1).elim
  have getn : ∀ (id : Nat) (blk : Blk), h.length ≤ id → (h ++ hr)[id]? = some (some blk) → ∃ blk1 sg, hm'[σ.length + (id - h.length)]? = some (some blk1) ∧
      renSegs (fwd σ h.length) blk1.segs = some sg ∧ blk = ⟨blk1.own, blk1.es, sg⟩ := by
    intro id blk hi hb
    rw [List.getElem?_append_right hi] at hb
    obtain ⟨b, hb1, hb2⟩ := g2 _ _ hb
    rw [drop_get] at hb1
    cases b with
    | none => simp [renB] at hb2
    | some blk1 =>
      obtain ⟨sg, hs, he⟩ := renB_spec hb2
      exact ⟨blk1, sg, hb1, hs, by simpa using he⟩
  refine ⟨backMap ι ι1 h.length σ.length, le', fun id l hl => ?_, ⟨fun id blk hb => ?_, fun id l hl => ?_, fun id id' blk blk' l l' hb hb' ho hne hl hl' => ?_, fun id blk l hb ho hl => ?_, ?_⟩, renV_top keeps hv vr, fr, fun b hb hlt => ?_⟩
  · by_cases hi : id < h.length
    · rw [old id hi] at hl; exact .inl hl
    · exact .inr ⟨by omega, .inl (newb id l (by omega) hl)⟩
  · by_cases hi : id < h.length
    · rw [List.getElem?_append_left hi] at hb
      rcases hr0.live id blk hb with ⟨p1, p2⟩ | ⟨l, p1, p2⟩
      · exact .inl ⟨by rw [old id hi]; exact p1, p2⟩
      · exact .inr ⟨l, le' _ _ p1, (p2.same (fr.same _ (hr0.dom id l p1).2 (fun x => x))).mono le'⟩
    · obtain ⟨blk1, sg, a1, a2, rfl⟩ := getn id blk (by omega) hb
      rcases hr1.live _ blk1 a1 with ⟨p1, p2⟩ | ⟨l, p1, p2⟩
      · refine .inl ⟨by rw [backMap, if_neg hi]; exact p1, (renSegs_cell a2).1 p2.1, fun i => ?_⟩
        cases hc : cell? sg i with
        | none => rfl
        | some u =>
          obtain ⟨v, d, a, b⟩ := (renSegs_cell a2).2 i u hc
          rw [p2.2] at a
          cases a
      · exact .inr ⟨l, by rw [backMap, if_neg hi]; exact p1, p2.ren keeps a2⟩
  · by_cases hi : id < h.length
    · rw [old id hi] at hl
      have := hr0.dom id l hl
      exact ⟨by simp; omega, Nat.lt_of_lt_of_le this.2 fr.size⟩
    · have hl2 := hl
      rw [backMap, if_neg hi] at hl
      have := hr1.dom _ l hl
      refine ⟨?_, this.2⟩
      simp only [List.length_append, g1, List.length_drop]
      omega
  · by_cases hi : id < h.length
    · by_cases hi' : id' < h.length
      · rw [List.getElem?_append_left hi] at hb
        rw [List.getElem?_append_left hi'] at hb'
        rw [old id hi] at hl
        rw [old id' hi'] at hl'
        exact hr0.inj id id' blk blk' l l' hb hb' ho hne hl hl'
      · rw [old id hi] at hl
        have h1 := (hr0.dom id l hl).2
        have h2 := newb id' l' (by omega) hl'
        omega
    · by_cases hi' : id' < h.length
      · rw [old id' hi'] at hl'
        have h1 := (hr0.dom id' l' hl').2
        have h2 := newb id l (by omega) hl
        omega
      · obtain ⟨b1, s1, a1, a2, rfl⟩ := getn id blk (by omega) hb
        obtain ⟨b2, s2, c1, c2, rfl⟩ := getn id' blk' (by omega) hb'
        rw [backMap, if_neg hi] at hl
        rw [backMap, if_neg hi'] at hl'
        exact hr1.inj _ _ b1 b2 l l' a1 c1 ho (by omega) hl hl'
  · by_cases hi : id < h.length
    · rw [List.getElem?_append_left hi] at hb
      rw [old id hi] at hl
      exact hr0.own id blk l hb ho hl
    · exact Nat.le_trans hr0.base_le (newb id l (by omega) hl)
  · exact Nat.le_trans hr0.base_le fr.size
  · obtain ⟨id, blk, l, hb, ho, hl, rfl⟩ := hb
    by_cases hi : id < h.length
    · rw [List.getElem?_append_left hi] at hb
      rw [old id hi] at hl
      exact ⟨id, blk, l, hb, ho, hl, rfl⟩
    · have := newb id l (by omega) hl
      omega

/-- A call that may write what it was handed. -/
theorem after_rw {ι : Map} {base : Nat} {h hm hm' hr h1 : Heap} {w w' : World} {σ : List Nat} {v v1 v' : Value} (hr0 : HR ι base h w) (hn : σ.Nodup) (hσ : ∀ i ∈ σ, i < h.length)
    (hc : renH (idx σ) (pick h σ) = some hm) (hv : renV (fwd σ h.length) 8 v1 = some v) (hh : renH (fwd σ h.length) hm' = some hr) (hp : putBack h σ hr = some h1)
    (ha : After (cutMap σ ι) base hm w v1 hm' v' w' (mods (cutMap σ ι) hm)) : After ι base h w v (h1 ++ hr.drop σ.length) v' w' (mods ι h) := by
  obtain ⟨ι1, le, new, hr1, vr, fr, mo⟩ := ha
  have hlen : hm.length = σ.length := by rw [(renH_get hc).1, pick_length]
  rw [hlen] at new
  have modle : ∀ b, mods (cutMap σ ι) hm b → ∃ (j id : Nat) (blk : Blk) (l : Loc), σ[j]? = some id ∧ h[id]? = some (some blk) ∧ blk.own = true ∧ ι id = some l ∧ l.b = b := by
    rintro b ⟨j, blk, l, hb, ho, hl, rfl⟩
    obtain ⟨b0, hb1, hb2⟩ := (renH_get hc).2 j _ hb
    obtain ⟨id, hid, hb3⟩ := pick_get hb1
    cases b0 with
    | none => simp [renB] at hb2
    | some blk0 =>
      obtain ⟨sg, hs, he⟩ := renB_spec hb2
      simp only [Option.some.injEq] at he
      subst he
      refine ⟨j, id, blk0, l, hid, ?_, ho, by simpa [cutMap, hid] using hl, rfl⟩
      cases hx : h[id]? with
      | none => simp [hx] at hb3
      | some y => simp [hx] at hb3; rw [← hb3]
  have modle' : ∀ b, mods (cutMap σ ι) hm b → mods ι h b := fun b hb => let ⟨_, id, blk, l, _, a, b, c, d⟩ := modle b hb; ⟨id, blk, l, a, b, c, d⟩
  have keeps := back_keeps (ι := ι) (ι1 := ι1) hσ (fun j l hl hj => by
    rcases new j l hl with h1 | ⟨h1, _⟩
    · exact h1
    · omega)
  obtain ⟨g1, g2⟩ := renH_get hh
  obtain ⟨q1, q2, q3⟩ := putBack_get hp hn
  have old : ∀ id, id < h.length → backMap ι ι1 h.length σ.length id = ι id := fun id hi => by simp [backMap, hi]
  have le' : Map.le ι (backMap ι ι1 h.length σ.length) := fun id l hl => by rw [old id (hr0.dom id l hl).1]; exact hl
  have getn : ∀ (j : Nat) (blk : Blk), hr[j]? = some (some blk) → ∃ blk1 sg, hm'[j]? = some (some blk1) ∧
      renSegs (fwd σ h.length) blk1.segs = some sg ∧ blk = ⟨blk1.own, blk1.es, sg⟩ := by
    intro j blk hb
    obtain ⟨b, hb1, hb2⟩ := g2 _ _ hb
    cases b with
    | none => simp [renB] at hb2
    | some blk1 =>
      obtain ⟨sg, hs, he⟩ := renB_spec hb2
      exact ⟨blk1, sg, hb1, hs, by simpa using he⟩
  -- where a block of the new heap comes from: an index of the callee's heap, or the caller's own, untouched
  have src : ∀ (id : Nat) (blk : Blk), (h1 ++ hr.drop σ.length)[id]? = some (some blk) →
      (id < h.length ∧ h[id]? = some (some blk) ∧ ∀ (j : Nat), σ[j]? = some id → blk.own = false) ∨
      (∃ (j : Nat) (blk1 : Blk) (sg : List Seg), hm'[j]? = some (some blk1) ∧ renSegs (fwd σ h.length) blk1.segs = some sg ∧ blk = ⟨blk1.own, blk1.es, sg⟩ ∧
        ((id < h.length ∧ σ[j]? = some id ∧ ∃ b0, h[id]? = some (some b0) ∧ b0.own = true) ∨ (h.length ≤ id ∧ j = σ.length + (id - h.length)))) := by
    intro id blk hb
    by_cases hi : id < h.length
    · rw [List.getElem?_append_left (by omega)] at hb
      by_cases hx : ∃ (j : Nat) (b0 : Blk), σ[j]? = some id ∧ h[id]? = some (some b0) ∧ b0.own = true
      · obtain ⟨j, b0, hj, hb0, ho⟩ := hx
        rw [(q3 id).1 j b0 hj hb0 ho] at hb
        obtain ⟨blk1, sg, a1, a2, a3⟩ := getn j blk hb
        exact .inr ⟨j, blk1, sg, a1, a2, a3, .inl ⟨hi, hj, b0, hb0, ho⟩⟩
      · have hno : ∀ (j : Nat), σ[j]? = some id → ∀ (b : Blk), h[id]? = some (some b) → b.own = false := by
          intro j hj b hb0
          cases ho : b.own with
          | false => rfl
          | true => exact (hx ⟨j, b, hj, hb0, ho⟩).elim
        rw [(q3 id).2 hno] at hb
        exact .inl ⟨hi, hb, fun j hj => hno j hj blk hb⟩
    · rw [List.getElem?_append_right (by omega), drop_get] at hb
      obtain ⟨blk1, sg, a1, a2, a3⟩ := getn _ blk hb
      exact .inr ⟨_, blk1, sg, a1, a2, a3, .inr ⟨by omega, by rw [q1]⟩⟩
  -- the maps agree
  have agree : ∀ (id j : Nat) (l : Loc), ((id < h.length ∧ σ[j]? = some id ∧ ∃ b0 : Blk, h[id]? = some (some b0) ∧ b0.own = true) ∨ (h.length ≤ id ∧ j = σ.length + (id - h.length))) →
      (backMap ι ι1 h.length σ.length id = some l ↔ ι1 j = some l) := by
    rintro id j l (⟨hi, hj, _⟩ | ⟨hi, rfl⟩)
    · rw [old id hi]
      have hjl := (List.getElem?_eq_some_iff.1 hj).1
      constructor
      · intro hl; exact le _ _ (by simp [cutMap, hj, hl])
      · intro hl
        rcases new j l hl with h2 | ⟨h2, _⟩
        · simpa [cutMap, hj] using h2
        · omega
    · rw [backMap, if_neg (by omega)]
  -- a block that the call has made lies apart from those that it did not touch
  have far : ∀ (id id' j : Nat) (l l' : Loc) (b' : Blk), ((id < h.length ∧ σ[j]? = some id ∧ ∃ b0 : Blk, h[id]? = some (some b0) ∧ b0.own = true) ∨ (h.length ≤ id ∧ j = σ.length + (id - h.length))) →
      backMap ι ι1 h.length σ.length id = some l → id' < h.length → h[id']? = some (some b') → (∀ (j : Nat), σ[j]? = some id' → b'.own = false) → ι id' = some l' → l.b ≠ l'.b := by
    rintro id id' j l l' b' hs hl hi' hb' hno hl'
    have hlt := (hr0.dom id' l' hl').2
    rcases hs with ⟨hi, hj, b0, hb0, ho⟩ | ⟨hi, rfl⟩
    · rw [old id hi] at hl
      refine hr0.inj id id' b0 b' l l' hb0 hb' ho (fun e => ?_) hl hl'
      subst e
      rw [hb0] at hb'
      simp only [Option.some.injEq] at hb'
      subst hb'
      rw [hno j hj] at ho
      cases ho
    · rw [backMap, if_neg (by omega)] at hl
      rcases new _ l hl with h2 | ⟨_, h2 | h2⟩
      · simp only [cutMap] at h2
        rw [List.getElem?_eq_none (by omega)] at h2
        simp at h2
      · omega
      · obtain ⟨j0, i0, b0, l0, c1, c2, c3, c4, c5⟩ := modle _ h2
        rw [← c5]
        refine hr0.inj i0 id' b0 b' l0 l' c2 hb' c3 (fun e => ?_) c4 hl'
        subst e
        rw [c2] at hb'
        simp only [Option.some.injEq] at hb'
        subst hb'
        rw [hno j0 c1] at c3
        cases c3
  refine ⟨backMap ι ι1 h.length σ.length, le', fun id l hl => ?_, ⟨fun id blk hb => ?_, fun id l hl => ?_, fun id id' blk blk' l l' hb hb' ho hne hl hl' => ?_, fun id blk l hb ho hl => ?_, ?_⟩, renV_top keeps hv vr, fr.mono modle', fun b hb hlt => ?_⟩
  · by_cases hi : id < h.length
    · rw [old id hi] at hl; exact .inl hl
    · refine .inr ⟨by omega, ?_⟩
      rw [backMap, if_neg hi] at hl
      rcases new _ l hl with h2 | ⟨_, h2 | h2⟩
      · simp only [cutMap] at h2
        rw [List.getElem?_eq_none (by omega)] at h2
        simp at h2
      · exact .inl h2
      · exact .inr (modle' _ h2)
  · rcases src id blk hb with ⟨hi, hb0, hno⟩ | ⟨j, blk1, sg, a1, a2, rfl, hs⟩
    · rcases hr0.live id blk hb0 with ⟨p1, p2⟩ | ⟨l, p1, p2⟩
      · exact .inl ⟨by rw [old id hi]; exact p1, p2⟩
      · refine .inr ⟨l, le' _ _ p1, (p2.same (fr.same _ (hr0.dom id l p1).2 (fun hm => ?_))).mono le'⟩
        obtain ⟨j0, i0, b0, l0, c1, c2, c3, c4, c5⟩ := modle _ hm
        refine hr0.inj i0 id b0 blk l0 l c2 hb0 c3 (fun e => ?_) c4 p1 c5
        subst e
        rw [c2] at hb0
        simp only [Option.some.injEq] at hb0
        subst hb0
        rw [hno j0 c1] at c3
        cases c3
    · rcases hr1.live j blk1 a1 with ⟨p1, p2⟩ | ⟨l, p1, p2⟩
      · refine .inl ⟨?_, (renSegs_cell a2).1 p2.1, fun i => ?_⟩
        · cases hx : backMap ι ι1 h.length σ.length id with
          | none => rfl
          | some l => rw [agree id j l hs] at hx; rw [p1] at hx; cases hx
        · cases hc : cell? sg i with
          | none => rfl
          | some u =>
            obtain ⟨v, d, a, b⟩ := (renSegs_cell a2).2 i u hc
            rw [p2.2] at a
            cases a
      · exact .inr ⟨l, (agree id j l hs).2 p1, p2.ren keeps a2⟩
  · by_cases hi : id < h.length
    · rw [old id hi] at hl
      have := hr0.dom id l hl
      exact ⟨by simp; omega, Nat.lt_of_lt_of_le this.2 fr.size⟩
    · rw [backMap, if_neg hi] at hl
      have := hr1.dom _ l hl
      refine ⟨?_, this.2⟩
      simp only [List.length_append, q1, List.length_drop, g1]
      omega
  · rcases src id blk hb with ⟨hi, hb0, hno⟩ | ⟨j, blk1, sg, a1, a2, rfl, hs⟩
    · rcases src id' blk' hb' with ⟨hi', hb0', hno'⟩ | ⟨j', blk1', sg', a1', a2', rfl, hs'⟩
      · rw [old id hi] at hl
        rw [old id' hi'] at hl'
        exact hr0.inj id id' blk blk' l l' hb0 hb0' ho hne hl hl'
      · rw [old id hi] at hl
        exact (far id' id j' l' l blk hs' hl' hi hb0 hno hl).symm
    · rcases src id' blk' hb' with ⟨hi', hb0', hno'⟩ | ⟨j', blk1', sg', a1', a2', rfl, hs'⟩
      · rw [old id' hi'] at hl'
        exact far id id' j l l' blk' hs hl hi' hb0' hno' hl'
      · rw [agree id j l hs] at hl
        rw [agree id' j' l' hs'] at hl'
        refine hr1.inj j j' blk1 blk1' l l' a1 a1' ho (fun e => hne ?_) hl hl'
        subst e
        rcases hs with ⟨x1, x2, _⟩ | ⟨x1, x2⟩ <;> rcases hs' with ⟨y1, y2, _⟩ | ⟨y1, y2⟩
        · rw [x2] at y2; simpa using y2
        · have := (List.getElem?_eq_some_iff.1 x2).1; omega
        · have := (List.getElem?_eq_some_iff.1 y2).1; omega
        · omega
  · rcases src id blk hb with ⟨hi, hb0, hno⟩ | ⟨j, blk1, sg, a1, a2, rfl, hs⟩
    · rw [old id hi] at hl
      exact hr0.own id blk l hb0 ho hl
    · rw [agree id j l hs] at hl
      exact hr1.own j blk1 l a1 ho hl
  · exact Nat.le_trans hr0.base_le fr.size
  · obtain ⟨id, blk, l, hb, ho, hl, rfl⟩ := hb
    rcases src id blk hb with ⟨hi, hb0, hno⟩ | ⟨j, blk1, sg, a1, a2, rfl, hs⟩
    · rw [old id hi] at hl
      exact ⟨id, blk, l, hb0, ho, hl, rfl⟩
    · rw [agree id j l hs] at hl
      exact modle' _ (mo _ ⟨j, blk1, l, a1, ho, hl, rfl⟩ hlt)

theorem callK_sound {P : Program} {S : Spec} (hS : SpecOK P S) {g : FuncId} {args : List Value} {h : Heap} {k : Value → Heap → Out} {out : Res} (hk : callK S g args h k = some out) :
    ∃ v h', k v h' = some out ∧ (∀ (ι : Map) (base : Nat) (w : World) (args' : Array Value), HR ι base h w → VRs ι args args'.toList →
      CallRuns P g args' w fun v' w' => After ι base h w v h' v' w' (if S.rw g = true then mods ι h else fun _ => False)) ∧ h.length ≤ h'.length ∧ (S.rw g = false → ∃ N, h' = h ++ N) := by
  simp only [callK] at hk
  obtain ⟨args1, hm, hk, hn, hσ, hv, hh⟩ := cutK_some hk
  cases hw : S.rw g with
  | true =>
    simp only [hw, cond_true] at hk
    obtain ⟨v1, hm', hk, hcs⟩ := hS _ _ _ _ _ hk
    split at hk
    · rename_i v hrv
      split at hk
      · rename_i hr hrh
        split at hk
        · rename_i h1 hpb
          refine ⟨v, _, hk, fun ι base w args' hr0 ha => ?_, by have := (putBack_get hpb hn).1; simp; omega, by simp⟩
          refine (hcs (cutMap _ ι) base w args' (cut_HR hr0 hn hh) (renL_VRs (cut_keeps _ ι) hv ha)).mono fun v' w' haf => ?_
          rw [if_pos rfl]
          exact after_rw hr0 hn hσ hh hrv hrh hpb haf
        · cases hk
      · cases hk
    · cases hk
  | false =>
    simp only [hw, cond_false] at hk
    obtain ⟨v1, hm', hk, hcs⟩ := hS _ _ _ _ _ hk
    split at hk
    · rename_i v hrv
      split at hk
      · rename_i hr hrh
        refine ⟨v, _, hk, fun ι base w args' hr0 ha => ?_, by simp, fun _ => ⟨_, rfl⟩⟩
        refine (hcs (cutMap _ ι) base w args' (cut_HR hr0 hn hh).readOnly (renL_VRs (cut_keeps _ ι) hv ha)).mono fun v' w' haf => ?_
        rw [if_neg (by simp)]
        exact after_ro hr0 hσ (by rw [(renH_get hh).1, pick_length]) hrv hrh haf
      · cases hk
    · cases hk

end Go.Proofs.Ytfgehfnlkakioaa.VC
