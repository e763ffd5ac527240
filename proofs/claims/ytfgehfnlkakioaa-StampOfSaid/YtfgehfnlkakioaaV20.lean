/- A round of a loop; a loop whose first state is told with less. -/
import Derived.Test.YtfgehfnlkakioaaV19
namespace Go.Proofs.Ytfgehfnlkakioaa.VC
open Go

/-- One round: on to the next one, or out. -/
def roundK (P : Program) (S : Spec) (L : LSpec) (n m : Nat) (c : Code) (live : List Nat) (vs : List Value) (h : Heap) (on : List Value → Heap → Out) (out : Exit → List Value → Heap → Out) : Out :=
  codeK P S L n m c (zipS live vs) h fun e s h => match e with
    | .normal => cutS m live s h on
    | e => cutS m live s h fun vs h => out e vs h

theorem loopN_succ {P : Program} {S : Spec} {L : LSpec} {n m : Nat} {c : Code} {live : List Nat} (r : Nat) (vs : List Value) (h : Heap) (k : Exit → List Value → Heap → Out) :
    loopN P S L n m c live (r + 1) vs h k = roundK P S L n m c live vs h (fun vs h => loopN P S L n m c live r vs h k) k := rfl

/-- A state told with less. -/
def WeakS (s : Slots) (h : Heap) (s2 : Slots) (h2 : Heap) : Prop :=
  h.length ≤ h2.length ∧ ∀ (ι : Map) (n base : Nat) (w : World) (a : Act), SR ι n s a → HR ι base h w → SR ι n s2 a ∧ HR ι base h2 w ∧ ∀ b, mods ι h2 b → mods ι h b

theorem WeakS.refl (s : Slots) (h : Heap) : WeakS s h s h := ⟨Nat.le_refl _, fun _ _ _ _ _ a b => ⟨a, b, fun _ x => x⟩⟩

theorem StepR.weakS {ι0 ι : Map} {n base : Nat} {h0 h h2 : Heap} {w0 w : World} {s s2 : Slots} {a : Act} (x : StepR ι0 ι n base h0 w0 s h a w) (hw : WeakS s h s2 h2) : StepR ι0 ι n base h0 w0 s2 h2 a w := by
  obtain ⟨q1, q2, q3⟩ := hw.2 ι n base w a x.sr x.hr
  exact ⟨x.le, x.new, q2, q1, x.fr, fun b hm hb => x.mo b (q3 b hm) hb, Nat.le_trans x.len hw.1⟩

/-- As LoopOK.of_rounds; the rounds begin at a state that is told with less, and the last state is told with less. -/
theorem LoopOK.of_rounds_weak {P : Program} {S : Spec} {L : LSpec} {n m : Nat} (hS : SpecOK P S) (hm : P.follows .mixedOrders = true) {c : Code} {live : List Nat} {f : List Value → Heap → (Exit → List Value → Heap → Out) → Out}
    (hL : ∀ body ∈ loops c, ∀ live f, (loopKey body).bind L = some (live, f) → LoopOK P n m body live f)
    (hf : ∀ (vs : List Value) (h : Heap) (k : Exit → List Value → Heap → Out) (out : Res), f vs h k = some out → ∃ e vs' h', k e vs' h' = some out ∧
      (RealS (zipS live vs) h → ∃ vs1 h1, WeakS (zipS live vs) h (zipS live vs1) h1 ∧ ∃ r vs2 h2, loopN P S L n m c live r vs1 h1 (fun e vs h => some (.at e (zipS live vs) h)) = some (.at e (zipS live vs2) h2) ∧ WeakS (zipS live vs2) h2 (zipS live vs') h')) :
    LoopOK P n m c live f := by
  intro vs h k out hk
  obtain ⟨e, vs', h', h1, h2⟩ := hf vs h k out hk
  refine ⟨e, vs', h', h1, fun ι0 base h0 w0 e0 hd ι a w Q hst hq b kk cs => ?_⟩
  obtain ⟨vs1, hh1, hw1, r, vs3, hh3, hr, hw2⟩ := h2 ⟨ι, n, base, w, a, hst.sr, hst.hr⟩
  obtain ⟨e2, vs2, h2, q1, q2⟩ := loopN_sound hS hm hL r hr
  simp only [Option.some.injEq, Res.at.injEq] at q1
  obtain ⟨rfl, q1, rfl⟩ := q1
  obtain ⟨e', a', w', hq', harr⟩ := q2 ι0 base h0 w0 e0 hd ι a w Q (hst.weakS hw1) (fun a' w' ⟨ι', st⟩ => hq a' w' ⟨ι', by
    rw [q1] at st; exact st.weakS hw2⟩) b kk cs
  exact ⟨e', a', w', hq', .of_steps (.one step_loop) harr⟩

/-- Of each block fewer cells. -/
theorem HR_cells {ι : Map} {base : Nat} {h h2 : Heap} {w : World} (hr : HR ι base h w) (hl : h.length = h2.length)
    (hb : ∀ (id : Nat) (b2 : Blk), h2[id]? = some (some b2) → ∃ b1 : Blk, h[id]? = some (some b1) ∧ b1.own = b2.own ∧ b1.es = b2.es ∧ (segsOK b1.segs → segsOK b2.segs) ∧ ∀ i v, cell? b2.segs i = some v → cell? b1.segs i = some v) : HR ι base h2 w := by
  refine ⟨fun id blk hb2 => ?_, fun id l h3 => ?_, fun id id' blk blk' l l' h3 h4 ho hne hl hl' => ?_, fun id blk l h3 ho hl => ?_, hr.base_le⟩
  · obtain ⟨b0, q1, q2, q3, q4, q5⟩ := hb _ _ hb2
    rcases hr.live id b0 q1 with ⟨p1, p2, p3⟩ | ⟨l, p1, c, T, fr, r1, r2, r3, r4, r5, r6⟩
    · refine .inl ⟨p1, q4 p2, fun i => ?_⟩
      cases hx : cell? blk.segs i with
      | none => rfl
      | some v => have := q5 i v hx; rw [p3] at this; cases this
    · exact .inr ⟨l, p1, c, T, fr, r1, r2, by rw [← q3]; exact r3, q4 r4, fun i v hv => r5 i v (q5 i v hv), fun ho => r6 (by rw [q2]; exact ho)⟩
  · rw [← hl]; exact hr.dom id l h3
  · obtain ⟨b0, q1, q2, _⟩ := hb _ _ h3
    obtain ⟨b1, q3, _⟩ := hb _ _ h4
    exact hr.inj id id' b0 b1 l l' q1 q3 (by rw [q2]; exact ho) hne hl hl'
  · obtain ⟨b0, q1, q2, _⟩ := hb _ _ h3
    exact hr.own id b0 l q1 (by rw [q2]; exact ho) hl

theorem mods_cells {ι : Map} {h h2 : Heap}
    (hb : ∀ (id : Nat) (b2 : Blk), h2[id]? = some (some b2) → ∃ b1 : Blk, h[id]? = some (some b1) ∧ b1.own = b2.own) {b : Nat} (hm : mods ι h2 b) : mods ι h b := by
  obtain ⟨id, blk, l, q1, q2, q3, q4⟩ := hm
  obtain ⟨b1, r1, r2⟩ := hb _ _ q1
  exact ⟨id, b1, l, r1, r2.trans q2, q3, q4⟩

theorem mods_empty {ι : Map} {base : Nat} {h : Heap} {w : World} (hr : HR ι base h w) {x : Option Blk} {b : Nat} (hm : mods ι (h ++ [x]) b) : mods ι h b := by
  obtain ⟨id, blk, l, q1, q2, q3, q4⟩ := hm
  rcases getElem?_snoc q1 with h1 | ⟨rfl, _⟩
  · exact ⟨id, blk, l, h1, q2, q3, q4⟩
  · rw [hr.fresh (Nat.le_refl _)] at q3; cases q3

/-- A state told with less, slot by slot. -/
theorem SR.weak_zip {ι : Map} {n : Nat} {live : List Nat} {vs vs2 : List Value} {a : Act} (hs : SR ι n (zipS live vs) a) (hl : vs.length = vs2.length) (hn : live.Nodup)
    (hv : ∀ (i : Nat) (v v2 v' : Value), vs[i]? = some v → vs2[i]? = some v2 → VR ι v v' → VR ι v2 v') : SR ι n (zipS live vs2) a := by
  refine ⟨hs.1, hs.2.1, fun t u hu => ?_⟩
  have key : ∀ {live : List Nat} {vs vs2 : List Value}, vs.length = vs2.length → live.Nodup → getS (zipS live vs2) t = some u → ∃ (i : Nat) (v : Value), vs[i]? = some v ∧ vs2[i]? = some u ∧ getS (zipS live vs) t = some v := by
    intro live
    induction live with
    | nil => intro vs vs2 _ _ h; simp [zipS, getS] at h
    | cons x r ih =>
      intro vs vs2 hl hn h
      cases vs2 with
      | nil => simp [zipS, getS] at h
      | cons y ys => cases vs with
        | nil => simp at hl
        | cons z zs =>
          simp only [zipS] at h ⊢
          rw [getS_cons] at h ⊢
          by_cases e : t = x
          · rw [if_pos e] at h ⊢; cases h; exact ⟨0, z, rfl, rfl, rfl⟩
          · rw [if_neg e] at h ⊢
            obtain ⟨i, v, a, b, c⟩ := ih (by simpa using hl) (List.nodup_cons.1 hn).2 h
            exact ⟨i + 1, v, by simpa using a, by simpa using b, c⟩
  obtain ⟨i, v, h1, h2, h3⟩ := key hl hn hu
  exact hv i v u _ h1 h2 (hs.2.2 t v h3)

/-- No slice: a slice of an empty block. -/
theorem VR.nilAt {ι : Map} {id c : Nat} {v : Value} (h : VR ι (.slice none 0 0) v) : VR ι (.slice (some ⟨id, 0, none⟩) 0 c) v := by
  cases h with
  | slNil => exact .slZero none
end Go.Proofs.Ytfgehfnlkakioaa.VC
