/- Code in pieces, also within loops. -/
import Derived.Test.YtcjjngdkkihgjaaVX3
namespace Go.Proofs.Ytcjjngdkkihgjaa.VC
open Go

/-- A piece, then some slots alone, whatever its exit. -/
def pieceA (P : Program) (S : Spec) (L : LSpec) (n m : Nat) (live : List Nat) (c : Code) (s : Slots) (h : Heap) : Out := codeK P S L n m c s h fun e s h => cutS m live s h fun vs h => some (.at e (zipS live vs) h)

def blkC : Code → Code
  | .block _ c => c
  | c => c
def isBlk : Code → Bool
  | .block _ _ => true
  | _ => false

section
variable {P : Program} {S : Spec} {L : LSpec} {n m : Nat}

theorem CodeT.piece (hS : SpecOK P S) (hm : P.follows .mixedOrders = true) {c : Code} (hL : LoopsOK P L n m c) {live : List Nat} {s : Slots} {h h1 : Heap} {e : Exit} {vs : List Value}
    (hk : pieceA P S L n m live c s h = some (.at e (zipS live vs) h1)) : CodeT P n m c s h e (zipS live vs) h1 := by
  obtain ⟨e2, s1, hh, q1, q2⟩ := codeK_sound hS hm hL hk
  simp only [cutS] at q1
  split at q1
  · rename_i vs1 hvs
    obtain ⟨vs2, h3, c1, c2, c3, c4, c5, c6⟩ := cutP_some q1
    simp only [Option.some.injEq, Res.at.injEq] at c1
    obtain ⟨rfl, c1, rfl⟩ := c1
    refine fun ι0 base h0 w0 e0 hd ι a w Q hst hq => q2 ι0 base h0 w0 e0 hd ι a w Q hst fun a2 w2 ⟨ι', st⟩ => hq a2 w2 ?_
    have st2 := st.cut hd c2 (by rw [e0]; exact c6) c5 (st.sr.zip (cut_keeps _ _) hvs c4)
    rw [c1] at st2
    exact ⟨_, st2⟩
  · cases q1

theorem CodeT.weak {c : Code} {s s1 s2 s3 : Slots} {h h1 h2 h3 : Heap} {e : Exit} (hw : WeakS s h s1 h1) (hc : CodeT P n m c s1 h1 e s2 h2) (hw2 : WeakS s2 h2 s3 h3) : CodeT P n m c s h e s3 h3 :=
  fun ι0 base h0 w0 e0 hd ι a w Q hst hq => hc ι0 base h0 w0 e0 hd ι a w Q (hst.weakS hw) fun a' w' ⟨ι', st⟩ => hq a' w' ⟨ι', st.weakS hw2⟩

theorem CodeT.seq {x y : Code} {s s1 s2 : Slots} {h h1 h2 : Heap} {e : Exit} (hx : CodeT P n m x s h .normal s1 h1) (hy : CodeT P n m y s1 h1 e s2 h2) : CodeT P n m (.seq x y) s h e s2 h2 :=
  fun ι0 base h0 w0 e0 hd ι a w Q hst hq => wp_seq (hx ι0 base h0 w0 e0 hd ι a w _ hst fun a' w' ⟨ι', st⟩ => hy ι0 base h0 w0 e0 hd ι' a' w' Q st hq)

theorem CodeT.seqE {x y : Code} {s s1 : Slots} {h h1 : Heap} {e : Exit} (he : e ≠ .normal) (hx : CodeT P n m x s h e s1 h1) : CodeT P n m (.seq x y) s h e s1 h1 :=
  fun ι0 base h0 w0 e0 hd ι a w Q hst hq => wp_seq (hx ι0 base h0 w0 e0 hd ι a w _ hst fun a' w' st => by
    cases e <;> first | exact (he rfl).elim | exact hq a' w' st)

theorem CodeT.block {c : Code} {id : Nat} {s s1 : Slots} {h h1 : Heap} (hx : CodeT P n m c s h (.exit id) s1 h1) : CodeT P n m (.block id c) s h .normal s1 h1 :=
  fun ι0 base h0 w0 e0 hd ι a w Q hst hq => wp_block (hx ι0 base h0 w0 e0 hd ι a w _ hst fun a' w' st => by simp only [Exit.inBlock, if_true]; exact hq a' w' st)

theorem CodeT.blockN {c : Code} {id : Nat} {s s1 : Slots} {h h1 : Heap} {e : Exit} (he : ∀ i, e = .exit i → i ≠ id) (hx : CodeT P n m c s h e s1 h1) : CodeT P n m (.block id c) s h e s1 h1 :=
  fun ι0 base h0 w0 e0 hd ι a w Q hst hq => wp_block (hx ι0 base h0 w0 e0 hd ι a w _ hst fun a' w' st => by
    cases e with
    | exit i => simp only [Exit.inBlock]; rw [if_neg (he i rfl)]; exact hq a' w' st
    | _ => exact hq a' w' st)

theorem CodeT.seqF {c : Code} {s s1 s2 : Slots} {h h1 h2 : Heap} {e : Exit} (hs : isSeq c = true) (hx : CodeT P n m (fstC c) s h .normal s1 h1) (hy : CodeT P n m (sndC c) s1 h1 e s2 h2) : CodeT P n m c s h e s2 h2 := by
  cases c <;> first | exact CodeT.seq hx hy | cases hs
theorem CodeT.seqFE {c : Code} {s s1 : Slots} {h h1 : Heap} {e : Exit} (hs : isSeq c = true) (he : e ≠ .normal) (hx : CodeT P n m (fstC c) s h e s1 h1) : CodeT P n m c s h e s1 h1 := by
  cases c <;> first | exact CodeT.seqE he hx | cases hs
theorem CodeT.blkN {c : Code} {s s1 : Slots} {h h1 : Heap} {e : Exit} (hs : isBlk c = true) (he : ∀ i, e ≠ .exit i) (hx : CodeT P n m (blkC c) s h e s1 h1) : CodeT P n m c s h e s1 h1 := by
  cases c <;> first | exact CodeT.blockN (fun i hi => (he i hi).elim) hx | cases hs

/-- A loop from the begin of a round on. -/
def LoopT (P : Program) (n m : Nat) (c : Code) (s : Slots) (h : Heap) (e : Exit) (s' : Slots) (h' : Heap) : Prop :=
  ∀ (ι0 : Map) (base : Nat) (h0 : Heap) (w0 : World), h0.length = m → (∀ (id : Nat) (l : Loc), ι0 id = some l → id < h0.length) → ∀ (ι : Map) (a : Act) (w : World) (Q : Exit → Act → World → Prop),
    StepR ι0 ι n base h0 w0 s h a w → (∀ a' w', StepS ι0 n base h0 w0 s' h' a' w' → Q e a' w') →
    ∀ (b : Frame) (kk : List Item) (cs : List Frame), ∃ e' a' w', Q e' a' w' ∧ Arrives P (lone (b.at a (.code c :: .inLoop c :: kk)) cs w) b kk cs e' a' w'

theorem LoopT.step {c : Code} {s s1 s2 : Slots} {h h1 h2 : Heap} {e : Exit} (hc : CodeT P n m c s h .normal s1 h1) (hr : LoopT P n m c s1 h1 e s2 h2) : LoopT P n m c s h e s2 h2 := by
  intro ι0 base h0 w0 e0 hd ι a w Q hst hq b kk cs
  have hw : c.wp P (Exit.then (fun a' w' => ∀ (b : Frame) (kk : List Item) (cs : List Frame), ∃ e' a2 w2, Q e' a2 w2 ∧ Arrives P (lone (b.at a' (.code c :: .inLoop c :: kk)) cs w') b kk cs e' a2 w2) Q) a w := by
    refine hc ι0 base h0 w0 e0 hd ι a w _ hst fun a' w' ⟨ι', st⟩ => ?_
    exact hr ι0 base h0 w0 e0 hd ι' a' w' Q st hq
  obtain ⟨e1, a1, w1, hq1, harr⟩ := hw b (.inLoop c :: kk) cs
  cases e1 with
  | normal =>
    obtain ⟨e2, a2, w2, hq2, harr2⟩ := hq1 b kk cs
    exact ⟨e2, a2, w2, hq2, .of_steps (Steps.trans harr (.one step_inLoop)) harr2⟩
  | exit id => exact ⟨_, a1, w1, hq1, .pass (x := .inLoop c) rfl (fun _ _ => .inl (by simp)) harr⟩
  | goto l => exact ⟨_, a1, w1, hq1, .pass (x := .inLoop c) rfl (fun _ _ => .inl (by simp)) harr⟩
  | ret => exact ⟨_, a1, w1, hq1, .pass (x := .inLoop c) rfl (fun _ _ => .inl (by simp)) harr⟩
  | panic ch => exact ⟨_, a1, w1, hq1, .pass (x := .inLoop c) rfl (fun _ _ => .inl (by simp)) harr⟩
  | outgrown => exact ⟨_, a1, w1, hq1, .pass (x := .inLoop c) rfl (fun _ _ => .inl (by simp)) harr⟩

theorem LoopT.last {c : Code} {s s1 : Slots} {h h1 : Heap} {e : Exit} (hen : e ≠ .normal) (hc : CodeT P n m c s h e s1 h1) : LoopT P n m c s h e s1 h1 := by
  intro ι0 base h0 w0 e0 hd ι a w Q hst hq b kk cs
  have hw : c.wp P (fun e2 a' w' => e2 = e ∧ Q e a' w') a w := by
    refine hc ι0 base h0 w0 e0 hd ι a w _ hst fun a' w' st => ⟨rfl, ?_⟩
    exact hq a' w' st
  obtain ⟨e1, a1, w1, ⟨he1, hq1⟩, harr⟩ := hw b (.inLoop c :: kk) cs
  subst he1
  cases e1 with
  | normal => exact (hen rfl).elim
  | exit id => exact ⟨_, a1, w1, hq1, .pass (x := .inLoop c) rfl (fun _ _ => .inl (by simp)) harr⟩
  | goto l => exact ⟨_, a1, w1, hq1, .pass (x := .inLoop c) rfl (fun _ _ => .inl (by simp)) harr⟩
  | ret => exact ⟨_, a1, w1, hq1, .pass (x := .inLoop c) rfl (fun _ _ => .inl (by simp)) harr⟩
  | panic ch => exact ⟨_, a1, w1, hq1, .pass (x := .inLoop c) rfl (fun _ _ => .inl (by simp)) harr⟩
  | outgrown => exact ⟨_, a1, w1, hq1, .pass (x := .inLoop c) rfl (fun _ _ => .inl (by simp)) harr⟩

theorem LoopT.code {c : Code} {s s1 : Slots} {h h1 : Heap} {e : Exit} (hl : LoopT P n m c s h e s1 h1) : CodeT P n m (.loop c) s h e s1 h1 := by
  intro ι0 base h0 w0 e0 hd ι a w Q hst hq b kk cs
  obtain ⟨e', a', w', hq', harr⟩ := hl ι0 base h0 w0 e0 hd ι a w Q hst hq b kk cs
  exact ⟨e', a', w', hq', .of_steps (.one step_loop) harr⟩

/-- A loop whose rounds are told in pieces. -/
theorem LoopOK.of_T {c : Code} {live : List Nat} {f : List Value → Heap → (Exit → List Value → Heap → Out) → Out}
    (hf : ∀ (vs : List Value) (h : Heap) (k : Exit → List Value → Heap → Out) (out : Res), f vs h k = some out → ∃ e vs' h', k e vs' h' = some out ∧ (RealS (zipS live vs) h → LoopT P n m c (zipS live vs) h e (zipS live vs') h')) : LoopOK P n m c live f := by
  intro vs h k out hk
  obtain ⟨e, vs', h', h1, h2⟩ := hf vs h k out hk
  refine ⟨e, vs', h', h1, fun ι0 base h0 w0 e0 hd ι a w Q hst hq => ?_⟩
  exact (h2 ⟨ι, n, base, w, a, hst.sr, hst.hr⟩).code ι0 base h0 w0 e0 hd ι a w Q hst hq

theorem RunsTo.cons {fn : Func} {c : Code} {s s1 : Slots} {h h1 h' : Heap} {v : Value} (hs : isSeq c = true) (hx : CodeT P fn.ntmps m (fstC c) s h .normal s1 h1) (h2 : RunsTo P fn m (sndC c) s1 h1 v h') : RunsTo P fn m c s h v h' := by
  obtain ⟨e, s2, hh2, r1, r2⟩ := h2
  exact ⟨e, s2, hh2, CodeT.seqF hs hx r1, r2⟩

/-- A round by the evaluator. -/
theorem CodeT.round (hS : SpecOK P S) (hm : P.follows .mixedOrders = true) {c : Code} (hL : LoopsOK P L n m c) {live : List Nat} {vs vs1 : List Value} {h h1 : Heap} {e : Exit}
    (hk : roundK P S L n m c live vs h (fun vs h => some (.at .normal (zipS live vs) h)) (fun e vs h => some (.at e (zipS live vs) h)) = some (.at e (zipS live vs1) h1)) : CodeT P n m c (zipS live vs) h e (zipS live vs1) h1 := by
  refine CodeT.piece hS hm hL (live := live) ?_
  refine Eq.trans ?_ hk
  unfold pieceA roundK
  congr 1
  funext e s h
  cases e <;> rfl
end
end Go.Proofs.Ytcjjngdkkihgjaa.VC
