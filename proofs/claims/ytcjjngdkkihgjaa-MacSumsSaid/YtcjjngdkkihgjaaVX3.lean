/- Code, loops, functions. -/
import Derived.Test.YtcjjngdkkihgjaaVXL
import Derived.Below
import Derived.Scope
namespace Go.Proofs.Ytcjjngdkkihgjaa.VC
open Go

theorem preB_spec {m : Nat} {σ : List Nat} (h : preB m σ = true) : ∀ j, j < m → σ[j]? = some j := by
  intro j hj
  have := List.all_eq_true.1 h j (List.mem_range.2 hj)
  split at this
  · rename_i x hx; rw [hx, beq_true this]
  · cases this

theorem cutP_some {m : Nat} {h : Heap} {vs : List Value} {σ : List Nat} {k : List Value → Heap → Out} {out : Res} (hc : cutP m h vs σ k = some out) :
    ∃ vs' h', k vs' h' = some out ∧ σ.Nodup ∧ (∀ i ∈ σ, i < h.length) ∧ renL (renV (idx σ) 8) vs = some vs' ∧ renH (idx σ) (pick h σ) = some h' ∧ ∀ j, j < m → σ[j]? = some j := by
  simp only [cutP] at hc
  obtain ⟨h1, hc⟩ := bif_none hc
  obtain ⟨vs', h', a, b, c, d, e⟩ := cutK_some hc
  exact ⟨vs', h', a, b, c, d, e, preB_spec h1⟩

theorem cut_mods {ι : Map} {h h' : Heap} {σ : List Nat} (hh : renH (idx σ) (pick h σ) = some h') {b : Nat} (hm : mods (cutMap σ ι) h' b) : mods ι h b := by
  obtain ⟨j, blk, l, hb, ho, hl, rfl⟩ := hm
  obtain ⟨b0, hb1, hb2⟩ := (renH_get hh).2 j _ hb
  obtain ⟨id, hid, hb3⟩ := pick_get hb1
  cases b0 with
  | none => simp [renB] at hb2
  | some blk0 =>
    obtain ⟨sg, hs, he⟩ := renB_spec hb2
    simp only [Option.some.injEq] at he
    subst he
    refine ⟨id, blk0, l, ?_, ho, by simpa [cutMap, hid] using hl, rfl⟩
    cases hx : h[id]? with
    | none => simp [hx] at hb3
    | some y => simp [hx] at hb3; rw [← hb3]

/-- A later state, cut down. -/
theorem StepR.cut {ι0 ι : Map} {n base : Nat} {h0 h h' : Heap} {w0 w : World} {s s' : Slots} {a : Act} {σ : List Nat} (x : StepR ι0 ι n base h0 w0 s h a w) (hd : ∀ (id : Nat) (l : Loc), ι0 id = some l → id < h0.length) (hn : σ.Nodup)
    (hp : ∀ j, j < h0.length → σ[j]? = some j) (hh : renH (idx σ) (pick h σ) = some h') (hs : SR (cutMap σ ι) n s' a) : StepR ι0 (cutMap σ ι) n base h0 w0 s' h' a w := by
  have hl : h'.length = σ.length := by rw [(renH_get hh).1, pick_length]
  have key : ∀ (j id : Nat), σ[j]? = some id → (j < h0.length ↔ id < h0.length) ∧ (id < h0.length → j = id) := by
    intro j id hj
    have h2 : id < h0.length → j = id := by
      intro hi
      have h1 := hp id hi
      obtain ⟨x1, x2⟩ := List.getElem?_eq_some_iff.1 hj
      obtain ⟨y1, y2⟩ := List.getElem?_eq_some_iff.1 h1
      exact (List.getElem_inj hn).1 (x2.trans y2.symm)
    refine ⟨⟨fun hjl => ?_, fun hi => by rw [h2 hi]; exact hi⟩, h2⟩
    have := hp j hjl
    rw [hj] at this
    cases this
    exact hjl
  refine ⟨fun id l hl => ?_, fun j l hl => ?_, cut_HR x.hr hn hh, hs, x.fr, fun b hm hb => x.mo b (cut_mods hh hm) hb, ?_⟩
  · have h1 := hd id l hl
    simp only [cutMap, hp id h1, Option.bind_some]
    exact x.le _ _ hl
  · simp only [cutMap] at hl
    cases hj : σ[j]? with
    | none => simp [hj] at hl
    | some id =>
      simp only [hj, Option.bind_some] at hl
      obtain ⟨k1, k2⟩ := key j id hj
      rcases x.new id l hl with h1 | ⟨h1, h2⟩
      · have h3 := hd id l h1
        rw [k2 h3]; exact .inl h1
      · refine .inr ⟨?_, h2⟩
        rcases Nat.lt_or_ge j h0.length with h3 | h3
        · have := k1.1 h3; omega
        · exact h3
  · rw [hl]
    rcases Nat.eq_zero_or_pos h0.length with e | e
    · omega
    · have := (List.getElem?_eq_some_iff.1 (hp (h0.length - 1) (by omega))).1
      omega

theorem getsS_spec {s : Slots} : ∀ {live : List Nat} {vs : List Value}, getsS s live = some vs → vs.length = live.length ∧ ∀ (j t : Nat), live[j]? = some t → ∃ v, vs[j]? = some v ∧ getS s t = some v
  | [], vs, h => by simp [getsS] at h; subst h; exact ⟨rfl, fun j t hj => by simp at hj⟩
  | t :: r, vs, h => by
    simp only [getsS] at h
    split at h
    · rename_i v hv
      split at h
      · rename_i ws hw
        simp only [Option.some.injEq] at h
        subst h
        obtain ⟨g1, g2⟩ := getsS_spec hw
        refine ⟨by simp [g1], fun j u hj => ?_⟩
        cases j with
        | zero => simp at hj; subst hj; exact ⟨v, rfl, hv⟩
        | succ j => simp at hj; simpa using g2 j u hj
      · cases h
    · cases h

theorem zipS_get : ∀ {live : List Nat} {vs : List Value} {t : Nat} {v : Value}, getS (zipS live vs) t = some v → ∃ (j : Nat), live[j]? = some t ∧ vs[j]? = some v
  | [], vs, t, v, h => by simp [zipS, getS] at h
  | x :: r, [], t, v, h => by simp [zipS, getS] at h
  | x :: r, y :: ys, t, v, h => by
    simp only [zipS] at h
    rw [getS_cons] at h
    by_cases e : t = x
    · subst e; rw [if_pos rfl] at h; cases h; exact ⟨0, rfl, rfl⟩
    · rw [if_neg e] at h
      obtain ⟨j, a, b⟩ := zipS_get h
      exact ⟨j + 1, by simpa using a, by simpa using b⟩

theorem SR.zip {ι κ : Map} {n : Nat} {s : Slots} {a : Act} (hs : SR ι n s a) {live : List Nat} {vs vs' : List Value} {f : Nat → Option Nat} (hf : Keeps f ι κ) (hg : getsS s live = some vs) (hr : renL (renV f 8) vs = some vs') :
    SR κ n (zipS live vs') a := by
  refine ⟨hs.1, hs.2.1, fun t u hu => ?_⟩
  obtain ⟨j, h1, h2⟩ := zipS_get hu
  obtain ⟨v, h3, h4⟩ := (getsS_spec hg).2 j t h1
  obtain ⟨v2, h5, h6⟩ := (renL_get hr).2 j u h2
  rw [h3] at h5
  cases h5
  exact renV_top hf h6 (hs.2.2 t v h4)

section
variable {P : Program} {S : Spec} {L : LSpec} {n m : Nat} {out : Res}

/-- What is shown of a piece of code; states are told from the function's begin on. -/
def CodeT (P : Program) (n m : Nat) (c : Code) (s : Slots) (h : Heap) (e : Exit) (s' : Slots) (h' : Heap) : Prop :=
  ∀ (ι0 : Map) (base : Nat) (h0 : Heap) (w0 : World), h0.length = m → (∀ (id : Nat) (l : Loc), ι0 id = some l → id < h0.length) → ∀ (ι : Map) (a : Act) (w : World) (Q : Exit → Act → World → Prop),
    StepR ι0 ι n base h0 w0 s h a w → (∀ a' w', StepS ι0 n base h0 w0 s' h' a' w' → Q e a' w') → c.wp P Q a w

/-- What must be known of a loop. -/
def LoopOK (P : Program) (n m : Nat) (c : Code) (live : List Nat) (f : List Value → Heap → (Exit → List Value → Heap → Out) → Out) : Prop :=
  ∀ (vs : List Value) (h : Heap) (k : Exit → List Value → Heap → Out) (out : Res), f vs h k = some out → ∃ e vs' h', k e vs' h' = some out ∧ CodeT P n m (.loop c) (zipS live vs) h e (zipS live vs') h'

theorem codeK_sound (hS : SpecOK P S) (hm : P.follows .mixedOrders = true) : ∀ {c : Code}, (∀ body ∈ loops c, ∀ live f, (loopKey body).bind L = some (live, f) → LoopOK P n m body live f) → ∀ {s : Slots} {h : Heap} {k : Exit → Slots → Heap → Out},
    codeK P S L n m c s h k = some out → ∃ e s' h', k e s' h' = some out ∧ CodeT P n m c s h e s' h' := by
  intro c
  induction c with
  | skip => intro _ s h k hk; exact ⟨.normal, s, h, hk, fun ι0 base h0 w0 _ _ ι a w Q hst hq => wp_skip (hq a w ⟨ι, hst⟩)⟩
  | region id ops draw =>
    intro _ s h k hk
    simp only [codeK] at hk
    cases draw with
    | false =>
      simp only [cond_false] at hk
      obtain ⟨s', h', h1, h2⟩ := seqK_region (id := id) hS hk
      exact ⟨.normal, s', h', h1, fun ι0 base h0 w0 _ _ ι a w Q hst hq => h2 ι base w a Q hst.sr hst.hr fun a' w' st => hq a' w' (StepS.trans hst st)⟩
    | true =>
      simp only [cond_true] at hk
      obtain ⟨hok, hk⟩ := bif_none hk
      rcases bif_some hk with ⟨_, hk⟩ | ⟨_, hk⟩
      · obtain ⟨s', h', h1, h2⟩ := litK_region (rid := id) hS hm hok hk
        exact ⟨.normal, s', h', h1, fun ι0 base h0 w0 _ _ ι a w Q hst hq => h2 ι base w a Q hst.sr hst.hr fun a' w' st => hq a' w' (StepS.trans hst st)⟩
      rcases bif_some hk with ⟨_, hk⟩ | ⟨_, hk⟩
      · obtain ⟨s', h', h1, h2⟩ := drawL_region (id := id) hS hm hok hk
        exact ⟨.normal, s', h', h1, fun ι0 base h0 w0 _ _ ι a w Q hst hq => h2 ι base w a Q hst.sr hst.hr fun a' w' st => hq a' w' (StepS.trans hst st)⟩
      · split at hk
        · obtain ⟨s', h', h1, h2⟩ := drawK_region (id := id) hS hm hok hk
          exact ⟨.normal, s', h', h1, fun ι0 base h0 w0 _ _ ι a w Q hst hq => h2 ι base w a Q hst.sr hst.hr (StillAt.nil ..) fun a' w' st => hq a' w' (StepS.trans hst st)⟩
        · rename_i J R _
          obtain ⟨s', h', h1, h2⟩ := drawK_region (id := id) hS hm hok hk
          obtain ⟨hle, h1⟩ := bif_none h1
          refine ⟨.normal, s', _, h1, fun ι0 base h0 w0 _ _ ι a w Q hst hq => h2 ι base w a Q hst.sr (HR_killL R hst.hr) (stillAt_of R hst.hr) fun a' w' st => hq a' w' (StepS.trans hst (StepS.back hst.hr hle st))⟩
  | seq x y ihx ihy =>
    intro hL s h k hk
    simp only [codeK] at hk
    obtain ⟨e, s1, h1, q1, q2⟩ := ihx (fun body hb => hL body (by simp [loops, hb])) hk
    cases e with
    | normal =>
      obtain ⟨e2, s2, h2, r1, r2⟩ := ihy (fun body hb => hL body (by simp [loops, hb])) q1
      exact ⟨e2, s2, h2, r1, fun ι0 base h0 w0 e0 hd ι a w Q hst hq => wp_seq (q2 ι0 base h0 w0 e0 hd ι a w _ hst fun a' w' ⟨ι', st⟩ => r2 ι0 base h0 w0 e0 hd ι' a' w' Q st hq)⟩
    | exit i => exact ⟨_, s1, h1, q1, fun ι0 base h0 w0 e0 hd ι a w Q hst hq => wp_seq (q2 ι0 base h0 w0 e0 hd ι a w _ hst hq)⟩
    | goto i => exact ⟨_, s1, h1, q1, fun ι0 base h0 w0 e0 hd ι a w Q hst hq => wp_seq (q2 ι0 base h0 w0 e0 hd ι a w _ hst hq)⟩
    | ret => exact ⟨_, s1, h1, q1, fun ι0 base h0 w0 e0 hd ι a w Q hst hq => wp_seq (q2 ι0 base h0 w0 e0 hd ι a w _ hst hq)⟩
    | panic i => exact ⟨_, s1, h1, q1, fun ι0 base h0 w0 e0 hd ι a w Q hst hq => wp_seq (q2 ι0 base h0 w0 e0 hd ι a w _ hst hq)⟩
    | outgrown => exact ⟨_, s1, h1, q1, fun ι0 base h0 w0 e0 hd ι a w Q hst hq => wp_seq (q2 ι0 base h0 w0 e0 hd ι a w _ hst hq)⟩
  | cond c x y ihx ihy =>
    intro hL s h k hk
    simp only [codeK] at hk
    split at hk
    · rename_i b hb
      have hk := forkK_some hk
      cases b with
      | true =>
        obtain ⟨e, s1, h1, q1, q2⟩ := ihx (fun body hb => hL body (by simp [loops, hb])) hk
        exact ⟨e, s1, h1, q1, fun ι0 base h0 w0 e0 hd ι a w Q hst hq => wp_cond_true (opnd_VR hst.sr hb).bool_inv (q2 ι0 base h0 w0 e0 hd ι a w Q hst hq)⟩
      | false =>
        obtain ⟨e, s1, h1, q1, q2⟩ := ihy (fun body hb => hL body (by simp [loops, hb])) hk
        exact ⟨e, s1, h1, q1, fun ι0 base h0 w0 e0 hd ι a w Q hst hq => wp_cond_false (opnd_VR hst.sr hb).bool_inv (q2 ι0 base h0 w0 e0 hd ι a w Q hst hq)⟩
    · cases hk
  | block id c ih =>
    intro hL s h k hk
    simp only [codeK] at hk
    obtain ⟨e, s1, h1, q1, q2⟩ := ih (fun body hb => hL body (by simp [loops, hb])) hk
    cases e with
    | exit id' =>
      simp only at q1
      rcases bif_some q1 with ⟨he, q1⟩ | ⟨he, q1⟩
      · have := beq_true he
        exact ⟨.normal, s1, h1, q1, fun ι0 base h0 w0 e0 hd ι a w Q hst hq => wp_block (q2 ι0 base h0 w0 e0 hd ι a w _ hst fun a' w' st => by simp only [Exit.inBlock]; rw [if_pos this]; exact hq a' w' st)⟩
      · have : id' ≠ id := fun e => by subst e; simp at he
        exact ⟨.exit id', s1, h1, q1, fun ι0 base h0 w0 e0 hd ι a w Q hst hq => wp_block (q2 ι0 base h0 w0 e0 hd ι a w _ hst fun a' w' st => by simp only [Exit.inBlock]; rw [if_neg this]; exact hq a' w' st)⟩
    | normal => exact ⟨_, s1, h1, q1, fun ι0 base h0 w0 e0 hd ι a w Q hst hq => wp_block (q2 ι0 base h0 w0 e0 hd ι a w _ hst hq)⟩
    | goto i => exact ⟨_, s1, h1, q1, fun ι0 base h0 w0 e0 hd ι a w Q hst hq => wp_block (q2 ι0 base h0 w0 e0 hd ι a w _ hst hq)⟩
    | ret => exact ⟨_, s1, h1, q1, fun ι0 base h0 w0 e0 hd ι a w Q hst hq => wp_block (q2 ι0 base h0 w0 e0 hd ι a w _ hst hq)⟩
    | panic i => exact ⟨_, s1, h1, q1, fun ι0 base h0 w0 e0 hd ι a w Q hst hq => wp_block (q2 ι0 base h0 w0 e0 hd ι a w _ hst hq)⟩
    | outgrown => exact ⟨_, s1, h1, q1, fun ι0 base h0 w0 e0 hd ι a w Q hst hq => wp_block (q2 ι0 base h0 w0 e0 hd ι a w _ hst hq)⟩
  | loop c ih =>
    intro hL s h k hk
    simp only [codeK] at hk
    split at hk
    · rename_i live f hf
      simp only [cutS] at hk
      split at hk
      · rename_i vs hvs
        obtain ⟨vs1, hc, c1, c2, c3, c4, c5, c6⟩ := cutP_some hk
        obtain ⟨e, vs', h', q1, q2⟩ := hL c (by simp [loops]) live f hf vs1 hc _ _ c1
        exact ⟨e, _, h', q1, fun ι0 base h0 w0 e0 hd ι a w Q hst hq =>
          q2 ι0 base h0 w0 e0 hd _ a w Q (hst.cut hd c2 (by rw [e0]; exact c6) c5 (hst.sr.zip (cut_keeps _ _) hvs c4)) hq⟩
      · cases hk
    · cases hk
  | exit id => intro _ s h k hk; exact ⟨.exit id, s, h, hk, fun ι0 base h0 w0 _ _ ι a w Q hst hq => wp_exit (hq a w ⟨ι, hst⟩)⟩
  | ret => intro _ s h k hk; exact ⟨.ret, s, h, hk, fun ι0 base h0 w0 _ _ ι a w Q hst hq => wp_ret (hq a w ⟨ι, hst⟩)⟩
  | rangeFunc f ps x y _ _ => intro _ s h k hk; simp [codeK] at hk
  | scope c ih =>
    intro hL s h k hk
    simp only [codeK] at hk
    obtain ⟨e, s1, h1, q1, q2⟩ := ih (fun body hb => hL body (by simpa [loops] using hb)) hk
    cases e with
    | goto i => cases q1
    | normal => exact ⟨_, s1, h1, q1, fun ι0 base h0 w0 e0 hd ι a w Q hst hq => wp_scope_straight (q2 ι0 base h0 w0 e0 hd ι a w _ hst hq)⟩
    | exit i => exact ⟨_, s1, h1, q1, fun ι0 base h0 w0 e0 hd ι a w Q hst hq => wp_scope_straight (q2 ι0 base h0 w0 e0 hd ι a w _ hst hq)⟩
    | ret => exact ⟨_, s1, h1, q1, fun ι0 base h0 w0 e0 hd ι a w Q hst hq => wp_scope_straight (q2 ι0 base h0 w0 e0 hd ι a w _ hst hq)⟩
    | panic i => exact ⟨_, s1, h1, q1, fun ι0 base h0 w0 e0 hd ι a w Q hst hq => wp_scope_straight (q2 ι0 base h0 w0 e0 hd ι a w _ hst hq)⟩
    | outgrown => exact ⟨_, s1, h1, q1, fun ι0 base h0 w0 e0 hd ι a w Q hst hq => wp_scope_straight (q2 ι0 base h0 w0 e0 hd ι a w _ hst hq)⟩
  | label l => intro _ s h k hk; exact ⟨.normal, s, h, hk, fun ι0 base h0 w0 _ _ ι a w Q hst hq => wp_label (hq a w ⟨ι, hst⟩)⟩
  | goto l => intro _ s h k hk; simp [codeK] at hk
  | refuse w => intro _ s h k hk; simp [codeK] at hk

/-- So many rounds of a loop. -/
theorem loopN_sound (hS : SpecOK P S) (hm : P.follows .mixedOrders = true) {c : Code} {live : List Nat} (hL : ∀ body ∈ loops c, ∀ live f, (loopKey body).bind L = some (live, f) → LoopOK P n m body live f) :
    ∀ (r : Nat) {vs : List Value} {h : Heap} {k : Exit → List Value → Heap → Out}, loopN P S L n m c live r vs h k = some out → ∃ e vs' h', k e vs' h' = some out ∧
      ∀ (ι0 : Map) (base : Nat) (h0 : Heap) (w0 : World), h0.length = m → (∀ (id : Nat) (l : Loc), ι0 id = some l → id < h0.length) → ∀ (ι : Map) (a : Act) (w : World) (Q : Exit → Act → World → Prop),
        StepR ι0 ι n base h0 w0 (zipS live vs) h a w → (∀ a' w', StepS ι0 n base h0 w0 (zipS live vs') h' a' w' → Q e a' w') →
        ∀ (b : Frame) (kk : List Item) (cs : List Frame), ∃ e' a' w', Q e' a' w' ∧ Arrives P (lone (b.at a (.code c :: .inLoop c :: kk)) cs w) b kk cs e' a' w'
  | 0, vs, h, k, hk => by simp [loopN] at hk
  | r + 1, vs, h, k, hk => by
    simp only [loopN] at hk
    obtain ⟨e, s1, h1, q1, q2⟩ := codeK_sound hS hm hL hk
    by_cases hen : e = .normal
    · subst hen
      simp only [cutS] at q1
      split at q1
      · rename_i vs1 hvs1
        obtain ⟨vs2, h2, c1, c2, c3, c4, c5, c6⟩ := cutP_some q1
        obtain ⟨e', vs', h', r1, r2⟩ := loopN_sound hS hm hL r c1
        refine ⟨e', vs', h', r1, fun ι0 base h0 w0 e0 hd ι a w Q hst hq b kk cs => ?_⟩
        -- one round, then the rest
        have hw : c.wp P (Exit.then (fun a' w' => ∀ (b : Frame) (kk : List Item) (cs : List Frame), ∃ e' a2 w2, Q e' a2 w2 ∧ Arrives P (lone (b.at a' (.code c :: .inLoop c :: kk)) cs w') b kk cs e' a2 w2) Q) a w := by
          refine q2 ι0 base h0 w0 e0 hd ι a w _ hst fun a' w' ⟨ι', st⟩ => ?_
          exact r2 ι0 base h0 w0 e0 hd _ a' w' Q (st.cut hd c2 (by rw [e0]; exact c6) c5 (st.sr.zip (cut_keeps _ _) hvs1 c4)) hq
        obtain ⟨e1, a1, w1, hq1, harr⟩ := hw b (.inLoop c :: kk) cs
        cases e1 with
        | normal =>
          obtain ⟨e2, a2, w2, hq2, harr2⟩ := hq1 b kk cs
          exact ⟨e2, a2, w2, hq2, .of_steps (Steps.trans harr (.one step_inLoop)) harr2⟩
        | exit id => exact ⟨_, a1, w1, hq1, .pass (x := .inLoop c) rfl (fun _ _ => .inl (by simp)) harr⟩
        | goto l => exact ⟨_, a1, w1, hq1, .pass (x := .inLoop c) rfl (fun _ _ => .inl (by simp)) harr⟩
        | ret => exact ⟨_, a1, w1, hq1, .pass (x := .inLoop c) rfl (fun _ _ => .inl (by simp)) harr⟩
        | panic ch => exact ⟨_, a1, w1, hq1, .pass (x := .inLoop c) rfl (fun _ _ => .inl (by simp)) harr⟩
        | outgrown => exact ⟨_, a1, w1, hq1, .pass (x := .inLoop c) rfl (fun _ _ => .inl (by simp)) harr⟩
      · cases q1
    · have q1' : cutS m live s1 h1 (fun vs h => k e vs h) = some out := by
        cases e <;> first | exact (hen rfl).elim | exact q1
      simp only [cutS] at q1'
      split at q1'
      · rename_i vs1 hvs1
        obtain ⟨vs2, h2, c1, c2, c3, c4, c5, c6⟩ := cutP_some q1'
        refine ⟨e, vs2, h2, c1, fun ι0 base h0 w0 e0 hd ι a w Q hst hq b kk cs => ?_⟩
        have hw : c.wp P (fun e2 a' w' => e2 = e ∧ Q e a' w') a w := by
          refine q2 ι0 base h0 w0 e0 hd ι a w _ hst fun a' w' ⟨ι', st⟩ => ⟨rfl, ?_⟩
          exact hq a' w' ⟨_, st.cut hd c2 (by rw [e0]; exact c6) c5 (st.sr.zip (cut_keeps _ _) hvs1 c4)⟩
        obtain ⟨e1, a1, w1, ⟨he1, hq1⟩, harr⟩ := hw b (.inLoop c :: kk) cs
        subst he1
        cases e1 with
        | normal => exact (hen rfl).elim
        | exit id => exact ⟨_, a1, w1, hq1, .pass (x := .inLoop c) rfl (fun _ _ => .inl (by simp)) harr⟩
        | goto l => exact ⟨_, a1, w1, hq1, .pass (x := .inLoop c) rfl (fun _ _ => .inl (by simp)) harr⟩
        | ret => exact ⟨_, a1, w1, hq1, .pass (x := .inLoop c) rfl (fun _ _ => .inl (by simp)) harr⟩
        | panic ch => exact ⟨_, a1, w1, hq1, .pass (x := .inLoop c) rfl (fun _ _ => .inl (by simp)) harr⟩
        | outgrown => exact ⟨_, a1, w1, hq1, .pass (x := .inLoop c) rfl (fun _ _ => .inl (by simp)) harr⟩
      · cases q1'

/-- Slots and a heap that a world may hold. -/
def RealS (s : Slots) (h : Heap) : Prop := ∃ (ι : Map) (n base : Nat) (w : World) (a : Act), SR ι n s a ∧ HR ι base h w

/-- Arguments and a heap that a world may hold. -/
def RealA (args : List Value) (h : Heap) : Prop := ∃ (ι : Map) (base : Nat) (w : World) (args' : List Value), HR ι base h w ∧ VRs ι args args'

/-- A loop is as its rounds are. -/
theorem LoopOK.of_rounds (hS : SpecOK P S) (hm : P.follows .mixedOrders = true) {c : Code} {live : List Nat} {f : List Value → Heap → (Exit → List Value → Heap → Out) → Out}
    (hL : ∀ body ∈ loops c, ∀ live f, (loopKey body).bind L = some (live, f) → LoopOK P n m body live f)
    (hf : ∀ (vs : List Value) (h : Heap) (k : Exit → List Value → Heap → Out) (out : Res), f vs h k = some out → ∃ e vs' h', k e vs' h' = some out ∧
      (RealS (zipS live vs) h → ∃ r, loopN P S L n m c live r vs h (fun e vs h => some (.at e (zipS live vs) h)) = some (.at e (zipS live vs') h'))) :
    LoopOK P n m c live f := by
  intro vs h k out hk
  obtain ⟨e, vs', h', h1, h2⟩ := hf vs h k out hk
  refine ⟨e, vs', h', h1, fun ι0 base h0 w0 e0 hd ι a w Q hst hq b kk cs => ?_⟩
  obtain ⟨r, hr⟩ := h2 ⟨ι, n, base, w, a, hst.sr, hst.hr⟩
  obtain ⟨e2, vs2, h2, q1, q2⟩ := loopN_sound hS hm hL r hr
  simp only [Option.some.injEq, Res.at.injEq] at q1
  obtain ⟨rfl, q1, rfl⟩ := q1
  obtain ⟨e', a', w', hq', harr⟩ := q2 ι0 base h0 w0 e0 hd ι a w Q hst (fun a' w' st => hq a' w' (by rw [← q1]; exact st)) b kk cs
  exact ⟨e', a', w', hq', .of_steps (.one step_loop) harr⟩

theorem resK_some {s : Slots} {h : Heap} : ∀ {l : List ResultVar} {k : List Value → Out}, resK P s h l k = some out → ∃ vs, k vs = some out ∧ ∀ (ι : Map) (base : Nat) (w : World) (a : Act), SR ι n s a → HR ι base h w →
    ∃ vs', VRs ι vs vs' ∧ (l.mapM fun (r : ResultVar) => (match r with | .tmp t => pure (a.tmps.getD t undef) | .cell c t => do loadVar t (← asAddr (a.tmps.getD c undef)) : Sem Value)).run P w = .ok vs' w
  | [], k, hk => by simp only [resK] at hk; exact ⟨[], hk, fun ι base w a hs hr => ⟨[], VRs.nil, by simp⟩⟩
  | .tmp t :: r, k, hk => by
    simp only [resK] at hk
    split at hk
    · rename_i v hv
      obtain ⟨vs, q1, q2⟩ := resK_some hk
      refine ⟨_, q1, fun ι base w a hs hr => ?_⟩
      obtain ⟨vs', p1, p2⟩ := q2 ι base w a hs hr
      exact ⟨_, VRs.cons (hs.2.2 t v hv) p1, by simp only [List.mapM_cons, Sem.run_bind, Sem.run_pure, Result.andThen_ok, p2]⟩
    · cases hk
  | .cell c t :: r, k, hk => by
    simp only [resK] at hk
    split at hk
    · rename_i p hp
      obtain ⟨v, q0, q9⟩ := loadK_some hk
      obtain ⟨vs, q1, q2⟩ := resK_some q0
      refine ⟨_, q1, fun ι base w a hs hr => ?_⟩
      obtain ⟨vs', p1, p2⟩ := q2 ι base w a hs hr
      obtain ⟨v', x1, x2, x3⟩ := q9 ι base w _ hr (hs.2.2 c p hp)
      refine ⟨_, VRs.cons x2 p1, ?_⟩
      have x4 : (do loadVar t (← asAddr (a.tmps.getD c undef)) : Sem Value).run P w = .ok v' w := by
        simp only [Instr.loadAt, Sem.run_bind] at x1 ⊢
        rw [x3]
        exact x1
      simp only [List.mapM_cons, Sem.run_bind, Sem.run_pure] at x4 ⊢
      rw [x4]
      simp only [Result.andThen_ok, p2]
    · cases hk

theorem tupled_VR {ι : Map} {vs vs' : List Value} (h : VRs ι vs vs') : VR ι (tupled vs) (if hh : vs'.toArray.size = 1 then vs'.toArray[0] else .tuple vs'.toArray) := by
  match vs, vs', h with
  | [], [], h => exact .tuple rfl (fun i v v' h => by simp at h)
  | [x], [y], h => simpa [tupled] using h.head
  | x :: y :: r, x' :: y' :: r', h =>
    simp only [tupled]
    rw [dif_neg (by simp)]
    exact VRs.tup (by simpa using h)
  | [], _ :: _, h => simp [VRs] at h
  | _ :: _, [], h => simp [VRs] at h
  | [_], _ :: _ :: _, h => simp [VRs] at h
  | _ :: _ :: _, [_], h => simp [VRs] at h

theorem slots0_get : ∀ {i : Nat} {args : List Value} {t : Nat} {v : Value}, getS (slots0 i args) t = some v → i ≤ t ∧ args[t - i]? = some v
  | i, [], t, v, h => by simp [slots0, getS] at h
  | i, x :: r, t, v, h => by
    simp only [slots0] at h
    rw [getS_cons] at h
    by_cases e : t = i
    · subst e; rw [if_pos rfl] at h; cases h; exact ⟨Nat.le_refl _, by simp⟩
    · rw [if_neg e] at h
      obtain ⟨h1, h2⟩ := slots0_get h
      refine ⟨by omega, ?_⟩
      rw [show t - i = (t - (i + 1)) + 1 by omega, List.getElem?_cons_succ]
      exact h2

/-- A function is as the evaluator says. -/
theorem fnK_sound (hS : SpecOK P S) (hm : P.follows .mixedOrders = true) {g : FuncId} {fn : Func} {c : Code} {args : List Value} {h : Heap} (hf : P.funcs[g]? = some fn) (hname : (fn.name == "runtime.NumGoroutine") = false) (hb : fn.body = some c)
    (hL : ∀ body ∈ loops c, ∀ live f, (loopKey body).bind L = some (live, f) → LoopOK P fn.ntmps h.length body live f) (hk : fnK P S L fn args h = some out) : ∃ v h', out = .ret v h' ∧ CallS P g args h v h' := by
  simp only [fnK, hb] at hk
  obtain ⟨hle, hk⟩ := bif_none hk
  have hle := ble_true hle
  obtain ⟨e, s1, h1, q1, q2⟩ := codeK_sound hS hm hL hk
  have hres : (e = .normal ∨ e = .ret) ∧ (resK P s1 h1 fn.results.toList fun vs => cutP h.length h1 [tupled vs] (reach h1 (tupled vs :: contents h1 h.length) (List.range h.length)) fun vs h2 => match vs with
      | [v] => some (.ret v h2)
      | _ => none) = some out := by
    cases e <;> simp only at q1 <;> first | exact ⟨.inl rfl, q1⟩ | exact ⟨.inr rfl, q1⟩ | cases q1
  obtain ⟨he, hk⟩ := hres
  obtain ⟨vs, r1, r2⟩ := resK_some (n := fn.ntmps) hk
  obtain ⟨vs2, h2, c1, c2, c3, c4, c5, c6⟩ := cutP_some r1
  split at c1
  · rename_i v
    simp only [Option.some.injEq] at c1
    refine ⟨v, h2, c1.symm, fun ι base w args' hr ha => .inl ⟨?_, ?_⟩⟩
    · simp [callFunc, hf, hb]
      simpa using hname
    · have hal : args.length = args'.size := by simpa using ha.1
      refine calls_of_wp hf hb ?_
      have hsr : SR ι fn.ntmps (slots0 0 args) { tmps := args' ++ Array.replicate (fn.ntmps - args'.size) undef, defers := [] } := by
        refine ⟨by simp; omega, rfl, fun t u hu => ?_⟩
        obtain ⟨_, h4⟩ := slots0_get hu
        rw [Nat.sub_zero] at h4
        obtain ⟨u', x1, x2⟩ := ha.get h4
        rw [Array.getElem?_toList] at x1
        have hlt := (Array.getElem?_eq_some_iff.1 x1).1
        simp only [Array.getD_eq_getD_getElem?, Array.getElem?_append_left hlt, x1, Option.getD_some]
        exact x2
      refine q2 ι base h w rfl (fun id l hl => (hr.dom id l hl).1) ι _ w _ ⟨Map.le_refl _, fun _ _ x => .inl x, hr, hsr, Fr.refl _ _, fun _ x _ => x, Nat.le_refl _⟩ fun a' w' ⟨ι', st⟩ => ?_
      obtain ⟨vs', p1, p2⟩ := r2 ι' base w' a' st.sr st.hr
      have hrun : (results fn a'.tmps).run P w' = .ok (if hh : vs'.toArray.size = 1 then vs'.toArray[0] else .tuple vs'.toArray) w' := by
        unfold results
        rw [Sem.run_bind, ← Array.toArray_toList (xs := fn.results), List.mapM_toArray, Sem.run_map]
        have hmm : (fn.results.toList.mapM fun x => (match x with | .tmp t => pure (a'.tmps.getD t undef) | .cell a t => do loadVar t (← asAddr (a'.tmps.getD a undef)) : Sem Value)).run P w' = .ok vs' w' := p2
        erw [hmm]
        rfl
      have hst := st.cut (fun id l hl => (hr.dom id l hl).1) c2 c6 c5 (s' := []) ⟨st.sr.1, st.sr.2.1, fun t v hv => by simp [getS] at hv⟩
      have hfin : bodyPost P fn (fun e w' => ∃ v', e = .returned v' ∧ After ι base h w v h2 v' w' (mods ι h)) .normal a' w' := by
        refine ⟨st.sr.2.1, _, hrun, _, rfl, _, hst.le, hst.new, hst.hr, ?_, hst.fr, hst.mo⟩
        have := renL_VRs (cut_keeps _ _) c4 (VRs.cons (tupled_VR p1) VRs.nil)
        exact this.head
      rcases he with rfl | rfl
      · exact hfin
      · exact hfin
  · cases c1

end
end Go.Proofs.Ytcjjngdkkihgjaa.VC

/- What is known of functions, put together; a law at the end. -/
namespace Go.Proofs.Ytcjjngdkkihgjaa.VC
open Go Go.RowKit

abbrev FSpec := List Value → Heap → (Value → Heap → Out) → Out

/-- Functions by their numbers. -/
def mkS : List (Nat × Bool × FSpec) → Spec
  | [] => ⟨fun _ _ _ _ => none, fun _ => false, fun _ => none, fun _ => none⟩
  | (g, rw, F) :: r => ⟨fun f => bif Nat.beq g f then F else (mkS r).f f, fun f => bif Nat.beq g f then rw else (mkS r).rw f, fun _ => none, fun _ => none⟩

/-- What must be shown of one function. -/
def EntryOK (P : Program) (g : FuncId) (F : FSpec) : Prop := ∀ (args : List Value) (h : Heap) (k : Value → Heap → Out) (out : Res), F args h k = some out → ∃ v h', k v h' = some out ∧ CallS P g args h v h'

theorem mkS_nil (P : Program) : SpecOK P (mkS []) := fun _ _ _ _ _ h => by cases h
theorem mkS_cons {P : Program} {g : FuncId} {rw : Bool} {F : FSpec} {l : List (Nat × Bool × FSpec)} (h : EntryOK P g F) (hl : SpecOK P (mkS l)) : SpecOK P (mkS ((g, rw, F) :: l)) := by
  intro f args hp k out hk
  simp only [mkS] at hk
  cases hb : Nat.beq g f with
  | true =>
    have := beq_true hb
    subst this
    rw [hb] at hk
    exact h args hp k out hk
  | false => rw [hb] at hk; exact hl f args hp k out hk

/-- No loops are known. -/
def noL : LSpec := fun _ => none

/-- One loop is known. -/
def oneL (key : Nat) (live : List Nat) (f : List Value → Heap → (Exit → List Value → Heap → Out) → Out) : LSpec := fun i => bif Nat.beq i key then some (live, f) else none

section
variable {P : Program} {S : Spec} {g : FuncId} {fn : Func}

/-- What a function's loops must be. -/
def LoopsOK (P : Program) (L : LSpec) (n m : Nat) (c : Code) : Prop := ∀ body ∈ loops c, ∀ live f, (loopKey body).bind L = some (live, f) → LoopOK P n m body live f

/-- A function's code. -/
def bodyOf (fn : Func) : Code := fn.body.getD .skip
theorem bodyOf_some {fn : Func} (h : fn.body.isSome = true) : fn.body = some (bodyOf fn) := by
  unfold bodyOf
  cases hb : fn.body with
  | none => rw [hb] at h; cases h
  | some c => rfl

/-- A function's entry: on what a world may hold the evaluator's answer is the one that is told. -/
theorem EntryOK.of_fn (hS : SpecOK P S) (hm : P.follows .mixedOrders = true) {F : FSpec} (hf : P.funcs[g]? = some fn) (hname : (fn.name == "runtime.NumGoroutine") = false) (hb : fn.body.isSome = true)
    (hF : ∀ (args : List Value) (h : Heap) (k : Value → Heap → Out) (out : Res), F args h k = some out → ∃ v h', k v h' = some out ∧ (RealA args h → ∃ L, LoopsOK P L fn.ntmps h.length (bodyOf fn) ∧ fnK P S L fn args h = some (.ret v h'))) : EntryOK P g F := by
  intro args h k out hk
  obtain ⟨v, h', h1, h2⟩ := hF args h k out hk
  refine ⟨v, h', h1, fun ι base w args' hr ha => ?_⟩
  obtain ⟨L, hL, hfn⟩ := h2 ⟨ι, base, w, args'.toList, hr, ha⟩
  obtain ⟨v2, h2, e, hc⟩ := fnK_sound hS hm hf hname (bodyOf_some hb) hL hfn
  simp only [Res.ret.injEq] at e
  obtain ⟨rfl, rfl⟩ := e
  exact hc ι base w args' hr ha

/-- What is known less well. -/
structure Weak (v : Value) (h : Heap) (v2 : Value) (h2 : Heap) : Prop where
  hr : ∀ (ι : Map) (base : Nat) (w : World), HR ι base h w → HR ι base h2 w
  vr : ∀ (ι : Map) (base : Nat) (w : World) (v' : Value), HR ι base h w → VR ι v v' → VR ι v2 v'
  mods : ∀ (ι : Map) (b : Nat), VC.mods ι h2 b → VC.mods ι h b

theorem Weak.refl (v : Value) (h : Heap) : Weak v h v h := ⟨fun _ _ _ x => x, fun _ _ _ _ _ x => x, fun _ _ x => x⟩

theorem CallS.weak {args : List Value} {h h1 h2 : Heap} {v1 v2 : Value} (hc : CallS P g args h v1 h1) (hw : Weak v1 h1 v2 h2) : CallS P g args h v2 h2 := fun ι base w args' hr ha =>
  (hc ι base w args' hr ha).mono fun _ _ ⟨ι', q⟩ => ⟨ι', q.le, q.new, hw.hr _ _ _ q.hr, hw.vr _ _ _ _ q.hr q.vr, q.fr, fun b hb => q.mo b (hw.mods _ _ hb)⟩

/-- As EntryOK.of_fn, where less is told than is found. -/
theorem EntryOK.of_fn_weak (hS : SpecOK P S) (hm : P.follows .mixedOrders = true) {F : FSpec} (hf : P.funcs[g]? = some fn) (hname : (fn.name == "runtime.NumGoroutine") = false) (hb : fn.body.isSome = true)
    (hF : ∀ (args : List Value) (h : Heap) (k : Value → Heap → Out) (out : Res), F args h k = some out → ∃ v h', k v h' = some out ∧
      (RealA args h → ∃ L v1 h1, LoopsOK P L fn.ntmps h.length (bodyOf fn) ∧ fnK P S L fn args h = some (.ret v1 h1) ∧ Weak v1 h1 v h')) : EntryOK P g F := by
  intro args h k out hk
  obtain ⟨v, h', h1, h2⟩ := hF args h k out hk
  refine ⟨v, h', h1, fun ι base w args' hr ha => ?_⟩
  obtain ⟨L, v1, hh1, hL, hfn, hw⟩ := h2 ⟨ι, base, w, args'.toList, hr, ha⟩
  obtain ⟨v2, h2, e, hc⟩ := fnK_sound hS hm hf hname (bodyOf_some hb) hL hfn
  simp only [Res.ret.injEq] at e
  obtain ⟨rfl, rfl⟩ := e
  exact hc.weak hw ι base w args' hr ha

theorem noL_ok {P : Program} {n m : Nat} {c : Code} : LoopsOK P noL n m c := by
  intro body _ live f h
  cases hk : loopKey body <;> simp [hk, noL] at h

/-- What a real argument is within. -/
theorem RealA.int {args : List Value} {h : Heap} (hr : RealA args h) {i : Nat} {k : IntKind} {x : Int} (ha : args[i]? = some (.int k x)) : k.min ≤ x ∧ x ≤ k.max := by
  obtain ⟨ι, base, w, args', _, hv⟩ := hr
  obtain ⟨v', _, h2⟩ := hv.get ha
  exact h2.int_inv.2

theorem HR.segs {ι : Map} {base : Nat} {h : Heap} {w : World} (hr : HR ι base h w) {i : Nat} {b : Blk} (hb : h[i]? = some (some b)) (hm : isMp b.segs = false) : segsOK b.segs := by
  rcases hr.live i b hb with ⟨_, h2, _⟩ | ⟨l, _, ⟨c, T, fr, _, _, _, h2, _⟩ | ⟨_, _, _, _, h2, _⟩⟩
  · exact h2
  · exact h2
  · obtain ⟨_, h2, _⟩ := h2; rw [h2] at hm; cases hm
theorem RealA.segs {args : List Value} {h : Heap} (hr : RealA args h) {i : Nat} {b : Blk} (hb : h[i]? = some (some b)) (hm : isMp b.segs = false := by first | rfl | assumption) : segsOK b.segs := by
  obtain ⟨ι, base, w, args', h1, _⟩ := hr
  exact h1.segs hb hm

theorem RealS.int {s : Slots} {h : Heap} (hr : RealS s h) {t : Nat} {k : IntKind} {x : Int} (ha : getS s t = some (.int k x)) : k.min ≤ x ∧ x ≤ k.max := by
  obtain ⟨ι, n, base, w, a, h1, _⟩ := hr
  exact (h1.2.2 t _ ha).int_inv.2

theorem RealS.segs {s : Slots} {h : Heap} (hr : RealS s h) {i : Nat} {b : Blk} (hb : h[i]? = some (some b)) (hm : isMp b.segs = false := by first | rfl | assumption) : segsOK b.segs := by
  obtain ⟨ι, n, base, w, a, _, h1⟩ := hr
  exact h1.segs hb hm

/-- A law over numbers and truth values alone. -/
theorem law_plain {args : Array Value} {out : Heap} (hc : CallS P g args.toList [] (.bool true) out) (hp : ∀ ι, VRs ι args.toList args.toList) (w : World)
    (hb : (P.funcs[g]?).any (fun fn => fn.body.isSome && !(fn.name == "runtime.NumGoroutine")) = true) : Calls P g args w fun e w' => e = .returned (.bool true) ∧ RowKit.Below w.heap.size w w' := by
  have h0 : HR (fun _ => none) w.heap.size [] w := by
    refine ⟨fun id blk h => ?_, fun id l h => ?_, fun id id' blk blk' l l' h => ?_, fun id blk l h => ?_, Nat.le_refl _⟩
    · simp at h
    · cases h
    · simp at h
    · simp at h
  rcases hc (fun _ => none) w.heap.size w args h0 (hp _) with ⟨_, h2⟩ | ⟨v', w', h1, _⟩
  · refine h2.mono fun e w' ⟨v', he, ι', ha⟩ => ?_
    have := ha.vr.bool_inv
    subst this
    have hno : ∀ b, ¬ mods (fun _ => none) [] b := by
      rintro b ⟨id, blk, l, h, _⟩
      simp at h
    exact ⟨he, ⟨ha.fr.os, ha.fr.tape, ha.fr.out, ha.fr.size, fun i hi => ha.fr.same i hi (hno i)⟩⟩
  · exfalso
    cases hf : P.funcs[g]? with
    | none => simp [hf] at hb
    | some fn =>
      simp [hf] at hb
      obtain ⟨hb1, hb2⟩ := hb
      cases hbody : fn.body with
      | none => simp [hbody] at hb1
      | some c => simp [callFunc, hf, hbody, hb2] at h1
end
end Go.Proofs.Ytcjjngdkkihgjaa.VC

/- What is found, told with less: a block's first cells; a nil slice as an empty one. -/
namespace Go.Proofs.Ytcjjngdkkihgjaa.VC
open Go

/-- Segments that tell no more. -/
def LessS (a b : List Seg) : Prop := (segsOK a → segsOK b) ∧ (isMp a = true → b = a)
theorem LessS.refl (a : List Seg) : LessS a a := ⟨fun x => x, fun _ => rfl⟩
/-- Fewer cells of the last block. -/
theorem HR_less {ι : Map} {base : Nat} {h : Heap} {w : World} {own : Bool} {es : Nat} {sg sg2 : List Seg} (hr : HR ι base (h ++ [some ⟨own, es, sg⟩]) w) (hs : LessS sg sg2) (hc : ∀ i v, cell? sg2 i = some v → cell? sg i = some v) :
    HR ι base (h ++ [some ⟨own, es, sg2⟩]) w := by
  have back : ∀ {id : Nat} {b : Blk}, (h ++ [some ⟨own, es, sg2⟩])[id]? = some (some b) → ∃ b0 : Blk, (h ++ [some ⟨own, es, sg⟩])[id]? = some (some b0) ∧ b0.own = b.own ∧ b0.es = b.es ∧ LessS b0.segs b.segs ∧ ∀ i v, cell? b.segs i = some v → cell? b0.segs i = some v := by
    intro id b hb
    rcases getElem?_snoc hb with h1 | ⟨rfl, h1⟩
    · exact ⟨b, by rw [List.getElem?_append_left (List.getElem?_eq_some_iff.1 h1).1]; exact h1, rfl, rfl, ⟨fun x => x, fun _ => rfl⟩, fun _ _ x => x⟩
    · cases h1
      exact ⟨⟨own, es, sg⟩, by simp, rfl, rfl, hs, hc⟩
  refine ⟨fun id blk hb => ?_, fun id l hl => ?_, fun id id' blk blk' l l' hb hb' ho hne hl hl' => ?_, fun id blk l hb ho hl => ?_, hr.base_le⟩
  · obtain ⟨b0, q1, q2, q3, q4, q5⟩ := back hb
    rcases hr.live id b0 q1 with ⟨p1, p2, p3⟩ | ⟨l, p1, ⟨c, T, fr, r1, r2, r3, r4, r5, r6⟩ | ⟨os, k, ents, r1, r2, r3, r4⟩⟩
    · refine .inl ⟨p1, q4.1 p2, fun i => ?_⟩
      cases hx : cell? blk.segs i with
      | none => rfl
      | some v => have := q5 i v hx; rw [p3] at this; cases this
    · exact .inr ⟨l, p1, .inl ⟨c, T, fr, r1, r2, by rw [← q3]; exact r3, q4.1 r4, fun i v hv => r5 i v (q5 i v hv), fun ho => r6 (by rw [q2]; exact ho)⟩⟩
    · exact .inr ⟨l, p1, .inr ⟨os, k, ents, r1, (by obtain ⟨lf, e, f⟩ := r2; exact ⟨lf, (q4.2 (by rw [e]; rfl)).trans e, f⟩), by rw [← q3]; exact r3, r4⟩⟩
  · have := hr.dom id l hl
    simpa using this
  · obtain ⟨b0, q1, q2, _⟩ := back hb
    obtain ⟨b1, q3, _⟩ := back hb'
    exact hr.inj id id' b0 b1 l l' q1 q3 (by rw [q2]; exact ho) hne hl hl'
  · obtain ⟨b0, q1, q2, _⟩ := back hb
    exact hr.own id b0 l q1 (by rw [q2]; exact ho) hl

/-- A block that is not there, and holds nothing. -/
theorem HR_empty {ι : Map} {base : Nat} {h : Heap} {w : World} {own : Bool} {es : Nat} {sg : List Seg} (hr : HR ι base h w) (hs : segsOK sg) (hc : ∀ i, cell? sg i = none) : HR ι base (h ++ [some ⟨own, es, sg⟩]) w := by
  have no : ι h.length = none := hr.fresh (Nat.le_refl _)
  refine ⟨fun id blk hb => ?_, fun id l hl => ?_, fun id id' blk blk' l l' hb hb' ho hne hl hl' => ?_, fun id blk l hb ho hl => ?_, hr.base_le⟩
  · rcases getElem?_snoc hb with h1 | ⟨rfl, h1⟩
    · exact hr.live id blk h1
    · cases h1; exact .inl ⟨no, hs, hc⟩
  · have := hr.dom id l hl
    simp only [List.length_append, List.length_cons, List.length_nil]
    omega
  · rcases getElem?_snoc hb with h1 | ⟨rfl, _⟩
    · rcases getElem?_snoc hb' with h2 | ⟨rfl, _⟩
      · exact hr.inj id id' blk blk' l l' h1 h2 ho hne hl hl'
      · rw [no] at hl'; cases hl'
    · rw [no] at hl; cases hl
  · rcases getElem?_snoc hb with h1 | ⟨rfl, _⟩
    · exact hr.own id blk l h1 ho hl
    · rw [no] at hl; cases hl
end Go.Proofs.Ytcjjngdkkihgjaa.VC

/- A round of a loop; a loop whose first state is told with less. -/
namespace Go.Proofs.Ytcjjngdkkihgjaa.VC
open Go

/-- One round: on to the next one, or out. -/
def roundK (P : Program) (S : Spec) (L : LSpec) (n m : Nat) (c : Code) (live : List Nat) (vs : List Value) (h : Heap) (on : List Value → Heap → Out) (out : Exit → List Value → Heap → Out) : Out :=
  codeK P S L n m c (zipS live vs) h fun e s h => match e with
    | .normal => cutS m live s h on
    | e => cutS m live s h fun vs h => out e vs h

theorem loopN_succ {P : Program} {S : Spec} {L : LSpec} {n m : Nat} {c : Code} {live : List Nat} (r : Nat) (vs : List Value) (h : Heap) (k : Exit → List Value → Heap → Out) :
    loopN P S L n m c live (r + 1) vs h k = roundK P S L n m c live vs h (fun vs h => loopN P S L n m c live r vs h k) k := rfl

/-- A state told with less. -/
def WeakS (s : Slots) (h : Heap) (s2 : Slots) (h2 : Heap) : Prop :=
  h.length ≤ h2.length ∧ ∀ (ι : Map) (n base : Nat) (w : World) (a : Act), SR ι n s a → HR ι base h w → SR ι n s2 a ∧ HR ι base h2 w ∧ ∀ b, mods ι h2 b → mods ι h b

theorem WeakS.refl (s : Slots) (h : Heap) : WeakS s h s h := ⟨Nat.le_refl _, fun _ _ _ _ _ a b => ⟨a, b, fun _ x => x⟩⟩

theorem StepR.weakS {ι0 ι : Map} {n base : Nat} {h0 h h2 : Heap} {w0 w : World} {s s2 : Slots} {a : Act} (x : StepR ι0 ι n base h0 w0 s h a w) (hw : WeakS s h s2 h2) : StepR ι0 ι n base h0 w0 s2 h2 a w := by
  obtain ⟨q1, q2, q3⟩ := hw.2 ι n base w a x.sr x.hr
  exact ⟨x.le, x.new, q2, q1, x.fr, fun b hm hb => x.mo b (q3 b hm) hb, Nat.le_trans x.len hw.1⟩

/-- As LoopOK.of_rounds; the rounds begin at a state that is told with less, and the last state is told with less. -/
theorem LoopOK.of_rounds_weak {P : Program} {S : Spec} {L : LSpec} {n m : Nat} (hS : SpecOK P S) (hm : P.follows .mixedOrders = true) {c : Code} {live : List Nat} {f : List Value → Heap → (Exit → List Value → Heap → Out) → Out}
    (hL : ∀ body ∈ loops c, ∀ live f, (loopKey body).bind L = some (live, f) → LoopOK P n m body live f)
    (hf : ∀ (vs : List Value) (h : Heap) (k : Exit → List Value → Heap → Out) (out : Res), f vs h k = some out → ∃ e vs' h', k e vs' h' = some out ∧
      (RealS (zipS live vs) h → ∃ vs1 h1, WeakS (zipS live vs) h (zipS live vs1) h1 ∧ ∃ r vs2 h2, loopN P S L n m c live r vs1 h1 (fun e vs h => some (.at e (zipS live vs) h)) = some (.at e (zipS live vs2) h2) ∧ WeakS (zipS live vs2) h2 (zipS live vs') h')) :
    LoopOK P n m c live f := by
  intro vs h k out hk
  obtain ⟨e, vs', h', h1, h2⟩ := hf vs h k out hk
  refine ⟨e, vs', h', h1, fun ι0 base h0 w0 e0 hd ι a w Q hst hq b kk cs => ?_⟩
  obtain ⟨vs1, hh1, hw1, r, vs3, hh3, hr, hw2⟩ := h2 ⟨ι, n, base, w, a, hst.sr, hst.hr⟩
  obtain ⟨e2, vs2, h2, q1, q2⟩ := loopN_sound hS hm hL r hr
  simp only [Option.some.injEq, Res.at.injEq] at q1
  obtain ⟨rfl, q1, rfl⟩ := q1
  obtain ⟨e', a', w', hq', harr⟩ := q2 ι0 base h0 w0 e0 hd ι a w Q (hst.weakS hw1) (fun a' w' ⟨ι', st⟩ => hq a' w' ⟨ι', by
    rw [q1] at st; exact st.weakS hw2⟩) b kk cs
  exact ⟨e', a', w', hq', .of_steps (.one step_loop) harr⟩

/-- Of each block fewer cells. -/
theorem HR_cells {ι : Map} {base : Nat} {h h2 : Heap} {w : World} (hr : HR ι base h w) (hl : h.length = h2.length)
    (hb : ∀ (id : Nat) (b2 : Blk), h2[id]? = some (some b2) → ∃ b1 : Blk, h[id]? = some (some b1) ∧ b1.own = b2.own ∧ b1.es = b2.es ∧ LessS b1.segs b2.segs ∧ ∀ i v, cell? b2.segs i = some v → cell? b1.segs i = some v) : HR ι base h2 w := by
  refine ⟨fun id blk hb2 => ?_, fun id l h3 => ?_, fun id id' blk blk' l l' h3 h4 ho hne hl hl' => ?_, fun id blk l h3 ho hl => ?_, hr.base_le⟩
  · obtain ⟨b0, q1, q2, q3, q4, q5⟩ := hb _ _ hb2
    rcases hr.live id b0 q1 with ⟨p1, p2, p3⟩ | ⟨l, p1, ⟨c, T, fr, r1, r2, r3, r4, r5, r6⟩ | ⟨os, k, ents, r1, r2, r3, r4⟩⟩
    · refine .inl ⟨p1, q4.1 p2, fun i => ?_⟩
      cases hx : cell? blk.segs i with
      | none => rfl
      | some v => have := q5 i v hx; rw [p3] at this; cases this
    · exact .inr ⟨l, p1, .inl ⟨c, T, fr, r1, r2, by rw [← q3]; exact r3, q4.1 r4, fun i v hv => r5 i v (q5 i v hv), fun ho => r6 (by rw [q2]; exact ho)⟩⟩
    · exact .inr ⟨l, p1, .inr ⟨os, k, ents, r1, (by obtain ⟨lf, e, f⟩ := r2; exact ⟨lf, (q4.2 (by rw [e]; rfl)).trans e, f⟩), by rw [← q3]; exact r3, r4⟩⟩
  · rw [← hl]; exact hr.dom id l h3
  · obtain ⟨b0, q1, q2, _⟩ := hb _ _ h3
    obtain ⟨b1, q3, _⟩ := hb _ _ h4
    exact hr.inj id id' b0 b1 l l' q1 q3 (by rw [q2]; exact ho) hne hl hl'
  · obtain ⟨b0, q1, q2, _⟩ := hb _ _ h3
    exact hr.own id b0 l q1 (by rw [q2]; exact ho) hl

theorem mods_cells {ι : Map} {h h2 : Heap}
    (hb : ∀ (id : Nat) (b2 : Blk), h2[id]? = some (some b2) → ∃ b1 : Blk, h[id]? = some (some b1) ∧ b1.own = b2.own) {b : Nat} (hm : mods ι h2 b) : mods ι h b := by
  obtain ⟨id, blk, l, q1, q2, q3, q4⟩ := hm
  obtain ⟨b1, r1, r2⟩ := hb _ _ q1
  exact ⟨id, b1, l, r1, r2.trans q2, q3, q4⟩

theorem mods_empty {ι : Map} {base : Nat} {h : Heap} {w : World} (hr : HR ι base h w) {x : Option Blk} {b : Nat} (hm : mods ι (h ++ [x]) b) : mods ι h b := by
  obtain ⟨id, blk, l, q1, q2, q3, q4⟩ := hm
  rcases getElem?_snoc q1 with h1 | ⟨rfl, _⟩
  · exact ⟨id, blk, l, h1, q2, q3, q4⟩
  · rw [hr.fresh (Nat.le_refl _)] at q3; cases q3

/-- A state told with less, slot by slot. -/
theorem SR.weak_zip {ι : Map} {n : Nat} {live : List Nat} {vs vs2 : List Value} {a : Act} (hs : SR ι n (zipS live vs) a) (hl : vs.length = vs2.length) (hn : live.Nodup)
    (hv : ∀ (i : Nat) (v v2 v' : Value), vs[i]? = some v → vs2[i]? = some v2 → VR ι v v' → VR ι v2 v') : SR ι n (zipS live vs2) a := by
  refine ⟨hs.1, hs.2.1, fun t u hu => ?_⟩
  have key : ∀ {live : List Nat} {vs vs2 : List Value}, vs.length = vs2.length → live.Nodup → getS (zipS live vs2) t = some u → ∃ (i : Nat) (v : Value), vs[i]? = some v ∧ vs2[i]? = some u ∧ getS (zipS live vs) t = some v := by
    intro live
    induction live with
    | nil => intro vs vs2 _ _ h; simp [zipS, getS] at h
    | cons x r ih =>
      intro vs vs2 hl hn h
      cases vs2 with
      | nil => simp [zipS, getS] at h
      | cons y ys => cases vs with
        | nil => simp at hl
        | cons z zs =>
          simp only [zipS] at h ⊢
          rw [getS_cons] at h ⊢
          by_cases e : t = x
          · rw [if_pos e] at h ⊢; cases h; exact ⟨0, z, rfl, rfl, rfl⟩
          · rw [if_neg e] at h ⊢
            obtain ⟨i, v, a, b, c⟩ := ih (by simpa using hl) (List.nodup_cons.1 hn).2 h
            exact ⟨i + 1, v, by simpa using a, by simpa using b, c⟩
  obtain ⟨i, v, h1, h2, h3⟩ := key hl hn hu
  exact hv i v u _ h1 h2 (hs.2.2 t v h3)

/-- No slice: a slice of an empty block. -/
theorem VR.nilAt {ι : Map} {id c : Nat} {v : Value} (h : VR ι (.slice none 0 0) v) : VR ι (.slice (some ⟨id, 0, none⟩) 0 c) v := by
  cases h with
  | slNil => exact .slZero none
end Go.Proofs.Ytcjjngdkkihgjaa.VC

/- A function's code in pieces, with a state told anew between them. -/
namespace Go.Proofs.Ytcjjngdkkihgjaa.VC
open Go

/-- What a function hands back. -/
def resOut (P : Program) (fn : Func) (m : Nat) (e : Exit) (s : Slots) (h1 : Heap) : Out := match e with
  | .normal | .ret => resK P s h1 fn.results.toList fun vs =>
    cutP m h1 [tupled vs] (reach h1 (tupled vs :: contents h1 m) (List.range m)) fun vs h2 => match vs with
      | [v] => some (.ret v h2)
      | _ => none
  | _ => none

/-- The last piece of a function's code. -/
def tailK (P : Program) (S : Spec) (L : LSpec) (fn : Func) (m : Nat) (c : Code) (s : Slots) (h : Heap) : Out := codeK P S L fn.ntmps m c s h (resOut P fn m)

/-- A piece, then some slots alone. -/
def pieceK (P : Program) (S : Spec) (L : LSpec) (n m : Nat) (live : List Nat) (c : Code) (s : Slots) (h : Heap) : Out := codeK P S L n m c s h fun e s h => match e with
  | .normal => cutS m live s h fun vs h => some (.at .normal (zipS live vs) h)
  | _ => none

def fstC : Code → Code
  | .seq a _ => a
  | c => c
def sndC : Code → Code
  | .seq _ b => b
  | _ => .skip
def isSeq : Code → Bool
  | .seq _ _ => true
  | _ => false

def RunsTo (P : Program) (fn : Func) (m : Nat) (c : Code) (s : Slots) (h : Heap) (v : Value) (h' : Heap) : Prop :=
  ∃ e s1 h1, CodeT P fn.ntmps m c s h e s1 h1 ∧ resOut P fn m e s1 h1 = some (.ret v h')

section
variable {P : Program} {S : Spec} {L : LSpec} {fn : Func} {m : Nat}

theorem RunsTo.tail (hS : SpecOK P S) (hm : P.follows .mixedOrders = true) {c : Code} (hL : LoopsOK P L fn.ntmps m c) {s : Slots} {h h' : Heap} {v : Value} (hk : tailK P S L fn m c s h = some (.ret v h')) : RunsTo P fn m c s h v h' := by
  obtain ⟨e, s1, h1, q1, q2⟩ := codeK_sound hS hm hL hk
  exact ⟨e, s1, h1, q2, q1⟩

theorem RunsTo.piece (hS : SpecOK P S) (hm : P.follows .mixedOrders = true) {c : Code} (hs : isSeq c = true) {live : List Nat} (hL : LoopsOK P L fn.ntmps m (fstC c)) {s : Slots} {h h1 h' : Heap} {v : Value} {vs1 : List Value}
    (hk : pieceK P S L fn.ntmps m live (fstC c) s h = some (.at .normal (zipS live vs1) h1)) (h2 : RunsTo P fn m (sndC c) (zipS live vs1) h1 v h') : RunsTo P fn m c s h v h' := by
  cases c with
  | seq a b =>
    obtain ⟨e, s1, hh, q1, q2⟩ := codeK_sound hS hm hL hk
    obtain ⟨e2, s2, hh2, r1, r2⟩ := h2
    have he : e = .normal := by cases e <;> first | rfl | cases q1
    subst he
    simp only [cutS] at q1
    split at q1
    · rename_i vs hvs
      obtain ⟨vs2, h3, c1, c2, c3, c4, c5, c6⟩ := cutP_some q1
      simp only [Option.some.injEq, Res.at.injEq] at c1
      obtain ⟨_, c1, rfl⟩ := c1
      refine ⟨e2, s2, hh2, fun ι0 base h0 w0 e0 hd ι a' w Q hst hq => wp_seq (q2 ι0 base h0 w0 e0 hd ι a' w _ hst fun a2 w2 ⟨ι', st⟩ => ?_), r2⟩
      have st2 := st.cut hd c2 (by rw [e0]; exact c6) c5 (st.sr.zip (cut_keeps _ _) hvs c4)
      rw [c1] at st2
      exact r1 ι0 base h0 w0 e0 hd _ a2 w2 Q st2 hq
    · cases q1
  | _ => cases hs

theorem RunsTo.sound {g : FuncId} {args : List Value} {h h' : Heap} {v : Value} (hf : P.funcs[g]? = some fn) (hname : (fn.name == "runtime.NumGoroutine") = false) (hb : fn.body.isSome = true)
    (hle : args.length ≤ fn.ntmps) (hr : RunsTo P fn h.length (bodyOf fn) (slots0 0 args) h v h') : CallS P g args h v h' := by
  obtain ⟨e, s1, h1, q2, q1⟩ := hr
  have hb := bodyOf_some hb
  generalize bodyOf fn = c at *
  have hres : (e = .normal ∨ e = .ret) ∧ (resK P s1 h1 fn.results.toList fun vs => cutP h.length h1 [tupled vs] (reach h1 (tupled vs :: contents h1 h.length) (List.range h.length)) fun vs h2 => match vs with
      | [v] => some (.ret v h2)
      | _ => none) = some (.ret v h') := by
    cases e <;> simp only [resOut] at q1 <;> first | exact ⟨.inl rfl, q1⟩ | exact ⟨.inr rfl, q1⟩ | cases q1
  obtain ⟨he, hk⟩ := hres
  obtain ⟨vs, r1, r2⟩ := resK_some (n := fn.ntmps) hk
  obtain ⟨vs2, h2, c1, c2, c3, c4, c5, c6⟩ := cutP_some r1
  split at c1
  · rename_i v
    simp only [Option.some.injEq, Res.ret.injEq] at c1
    obtain ⟨rfl, rfl⟩ := c1
    refine fun ι base w args' hr ha => .inl ⟨?_, ?_⟩
    · simp [callFunc, hf, hb]
      simpa using hname
    · have hal : args.length = args'.size := by simpa using ha.1
      refine calls_of_wp hf hb ?_
      have hsr : SR ι fn.ntmps (slots0 0 args) { tmps := args' ++ Array.replicate (fn.ntmps - args'.size) undef, defers := [] } := by
        refine ⟨by simp; omega, rfl, fun t u hu => ?_⟩
        obtain ⟨_, h4⟩ := slots0_get hu
        rw [Nat.sub_zero] at h4
        obtain ⟨u', x1, x2⟩ := ha.get h4
        rw [Array.getElem?_toList] at x1
        have hlt := (Array.getElem?_eq_some_iff.1 x1).1
        simp only [Array.getD_eq_getD_getElem?, Array.getElem?_append_left hlt, x1, Option.getD_some]
        exact x2
      refine q2 ι base h w rfl (fun id l hl => (hr.dom id l hl).1) ι _ w _ ⟨Map.le_refl _, fun _ _ x => .inl x, hr, hsr, Fr.refl _ _, fun _ x _ => x, Nat.le_refl _⟩ fun a' w' ⟨ι', st⟩ => ?_
      obtain ⟨vs', p1, p2⟩ := r2 ι' base w' a' st.sr st.hr
      have hrun : (results fn a'.tmps).run P w' = .ok (if hh : vs'.toArray.size = 1 then vs'.toArray[0] else .tuple vs'.toArray) w' := by
        unfold results
        rw [Sem.run_bind, ← Array.toArray_toList (xs := fn.results), List.mapM_toArray, Sem.run_map]
        have hmm : (fn.results.toList.mapM fun x => (match x with | .tmp t => pure (a'.tmps.getD t undef) | .cell a t => do loadVar t (← asAddr (a'.tmps.getD a undef)) : Sem Value)).run P w' = .ok vs' w' := p2
        erw [hmm]
        rfl
      have hst := st.cut (fun id l hl => (hr.dom id l hl).1) c2 c6 c5 (s' := []) ⟨st.sr.1, st.sr.2.1, fun t v hv => by simp [getS] at hv⟩
      have hfin : bodyPost P fn (fun e w' => ∃ v', e = .returned v' ∧ After ι base h w v h2 v' w' (mods ι h)) .normal a' w' := by
        refine ⟨st.sr.2.1, _, hrun, _, rfl, _, hst.le, hst.new, hst.hr, ?_, hst.fr, hst.mo⟩
        have := renL_VRs (cut_keeps _ _) c4 (VRs.cons (tupled_VR p1) VRs.nil)
        exact this.head
      rcases he with rfl | rfl
      · exact hfin
      · exact hfin
  · cases c1

/-- A function's entry, its code in pieces. -/
theorem EntryOK.of_runs {g : FuncId} {F : FSpec} (hf : P.funcs[g]? = some fn) (hname : (fn.name == "runtime.NumGoroutine") = false) (hb : fn.body.isSome = true)
    (hF : ∀ (args : List Value) (h : Heap) (k : Value → Heap → Out) (out : Res), F args h k = some out → ∃ v h', k v h' = some out ∧ (RealA args h → args.length ≤ fn.ntmps ∧ RunsTo P fn h.length (bodyOf fn) (slots0 0 args) h v h')) : EntryOK P g F := by
  intro args h k out hk
  obtain ⟨v, h', h1, h2⟩ := hF args h k out hk
  refine ⟨v, h', h1, fun ι base w args' hr ha => ?_⟩
  obtain ⟨q1, q2⟩ := h2 ⟨ι, base, w, args'.toList, hr, ha⟩
  exact q2.sound hf hname hb q1 ι base w args' hr ha
end
end Go.Proofs.Ytcjjngdkkihgjaa.VC
