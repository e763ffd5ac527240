/- Regions in the text's order. -/
import Derived.Test.YtfgehfnlkakioaaV14
namespace Go.Proofs.Ytfgehfnlkakioaa.VC
open Go

/-- From a state to a later one. -/
structure StepR (ι ι' : Map) (n base : Nat) (h : Heap) (w : World) (s' : Slots) (h' : Heap) (a' : Act) (w' : World) : Prop where
  le : Map.le ι ι'
  new : ∀ (id : Nat) (l : Loc), ι' id = some l → ι id = some l ∨ (h.length ≤ id ∧ (w.heap.size ≤ l.b ∨ mods ι h l.b))
  hr : HR ι' base h' w'
  sr : SR ι' n s' a'
  fr : Fr (mods ι h) w w'
  mo : ∀ b, mods ι' h' b → b < w.heap.size → mods ι h b
  len : h.length ≤ h'.length

def StepS (ι : Map) (n base : Nat) (h : Heap) (w : World) (s' : Slots) (h' : Heap) (a' : Act) (w' : World) : Prop := ∃ ι', StepR ι ι' n base h w s' h' a' w'

theorem StepS.refl {ι : Map} {n base : Nat} {h : Heap} {w : World} {s : Slots} {a : Act} (hr : HR ι base h w) (hs : SR ι n s a) : StepS ι n base h w s h a w :=
  ⟨ι, Map.le_refl _, fun _ _ h => .inl h, hr, hs, Fr.refl _ _, fun _ h _ => h, Nat.le_refl _⟩

theorem StepR.trans {ι ι1 ι2 : Map} {n base : Nat} {h h1 h2 : Heap} {w w1 w2 : World} {s1 s2 : Slots} {a1 a2 : Act} (x : StepR ι ι1 n base h w s1 h1 a1 w1) (y : StepR ι1 ι2 n base h1 w1 s2 h2 a2 w2) :
    StepR ι ι2 n base h w s2 h2 a2 w2 := by
  refine ⟨Map.le_trans x.le y.le, fun id l hl => ?_, y.hr, y.sr, x.fr.trans y.fr (fun b hb hm => x.mo b hm hb), fun b hm hb => x.mo b (y.mo b hm (Nat.lt_of_lt_of_le hb x.fr.size)) hb, Nat.le_trans x.len y.len⟩
  rcases y.new id l hl with h3 | ⟨h3, h4⟩
  · exact x.new id l h3
  · refine .inr ⟨Nat.le_trans x.len h3, ?_⟩
    by_cases hb : w.heap.size ≤ l.b
    · exact .inl hb
    · rcases h4 with h4 | h4
      · have := x.fr.size; omega
      · exact .inr (x.mo _ h4 (by omega))

theorem StepS.trans {ι ι1 : Map} {n base : Nat} {h h1 h2 : Heap} {w w1 w2 : World} {s1 s2 : Slots} {a1 a2 : Act} (x : StepR ι ι1 n base h w s1 h1 a1 w1) (y : StepS ι1 n base h1 w1 s2 h2 a2 w2) :
    StepS ι n base h w s2 h2 a2 w2 := let ⟨ι2, y⟩ := y; ⟨ι2, x.trans y⟩

/-- A slot is laid, if there is one. -/
def Laid (n : Nat) (s : Slots) (dst : Option Tmp) (v : Option Value) (s' : Slots) : Prop := match dst with
  | some t => t < n ∧ s' = (t, v) :: s
  | none => s' = s

/-- An operation's step. -/
theorem After.step {ι : Map} {n base : Nat} {h h' : Heap} {w w' : World} {v v' : Value} {m : Nat → Prop} {s : Slots} {a : Act} {dst : Option Tmp} {s' : Slots} (ha : After ι base h w v h' v' w' m) (hm : ∀ b, m b → mods ι h b)
    (hlen : h.length ≤ h'.length) (hs : SR ι n s a) (hp : Laid n s dst (some v) s') : StepS ι n base h w s' h' (a.put dst v') w' := by
  obtain ⟨ι', q⟩ := ha
  refine ⟨ι', q.le, fun id l hl => ?_, q.hr, ?_, q.fr.mono hm, q.mo, hlen⟩
  · rcases q.new id l hl with h1 | ⟨h1, h2 | h2⟩
    · exact .inl h1
    · exact .inr ⟨h1, .inl h2⟩
    · exact .inr ⟨h1, .inr (hm _ h2)⟩
  · have hs' := hs.mono q.le
    cases dst with
    | none => simp only [Laid] at hp; subst hp; exact hs'
    | some t =>
      simp only [Laid] at hp
      obtain ⟨ht, rfl⟩ := hp
      exact hs'.put ht (fun u hu => by cases hu; exact q.vr)

section
variable {P : Program} {S : Spec} {n : Nat} {out : Res}

theorem putS_some {s : Slots} {dst : Option Tmp} {v : Option Value} {k : Slots → Out} (hk : putS n s dst v k = some out) :
    ∃ s', k s' = some out ∧ Laid n s dst v s' := by
  cases dst with
  | none => exact ⟨s, hk, rfl⟩
  | some t => simp only [putS] at hk; obtain ⟨h1, hk⟩ := bif_none hk; exact ⟨_, hk, blt_true h1, rfl⟩

/-- A slot's own value, laid once more. -/
theorem SR.again {ι : Map} {s : Slots} {a : Act} (hs : SR ι n s a) {t : Nat} {v : Value} (h : getS s t = some v) : SR ι n ((t, some v) :: s) a := by
  refine ⟨hs.1, hs.2.1, fun u x hx => ?_⟩
  rw [getS_cons] at hx
  by_cases e : u = t
  · subst e
    rw [if_pos rfl] at hx
    rw [← h] at hx
    exact hs.2.2 u x hx
  · rw [if_neg e] at hx
    exact hs.2.2 u x hx

/-- The slot that a guard looks at is as told. -/
def GR (ι : Map) (n : Nat) (ops : Array Oper) (o : Oper) (s : Slots) (a : Act) : Prop := a.tmps.size = n ∧ a.defers = [] ∧ ∀ (t : Nat) (v : Value), (∃ j w, o.guard = some (j, w) ∧ (ops[j]?).bind (·.dst) = some t) → getS s t = some v → VR ι v (a.tmps.getD t undef)

/-- A guard: what the evaluator does is what the region does. -/
theorem guardK_some' {ops : Array Oper} {o : Oper} {s : Slots} {run skip : Slots → Out} (hk : guardK ops o s run skip = some out) :
    ∃ s', (∀ (t : Nat), getS s' t = getS s t) ∧ ((run s' = some out ∧ ∀ (ι : Map) (a : Act), GR ι n ops o s a → Region.wanted o (yielded ops a.tmps) = true) ∨
      (skip s' = some out ∧ ∀ (ι : Map) (a : Act), GR ι n ops o s a → Region.wanted o (yielded ops a.tmps) = false)) := by
  unfold guardK at hk
  split at hk
  · rename_i hg
    exact ⟨s, fun _ => rfl, .inl ⟨hk, fun ι a _ => by simp [Region.wanted, hg]⟩⟩
  · rename_i j want hg
    split at hk
    · rename_i t ht
      have hy : ∀ {ι : Map} {a : Act} {v : Value}, GR ι n ops o s a → getS s t = some v → ∃ v', VR ι v v' ∧ (t < n → yielded ops a.tmps j = (match v' with | .bool b => some b | _ => none)) ∧ (¬ t < n → yielded ops a.tmps j = none ∧ v' = undef) := by
        intro ι a v hs hv
        refine ⟨_, hs.2.2 t v ⟨j, want, hg, ht⟩ hv, fun hlt => ?_, fun hge => ?_⟩
        · have : a.tmps[t]? = some (a.tmps.getD t undef) := by
            rw [Array.getD_eq_getD_getElem?, Array.getElem?_eq_getElem (by rw [hs.1]; exact hlt)]
            rfl
          unfold yielded
          rw [ht]
          simp only [Option.bind_some, this]
          cases a.tmps.getD t undef <;> rfl
        · have : a.tmps[t]? = none := Array.getElem?_eq_none (by rw [hs.1]; exact Nat.not_lt.1 hge)
          unfold yielded
          rw [ht]
          simp only [Option.bind_some, this]
          refine ⟨trivial, ?_⟩
          rw [Array.getD_eq_getD_getElem?, this]
          rfl
      have same : ∀ (v : Value), getS s t = some v → ∀ u, getS ((t, some v) :: s) u = getS s u := by
        intro v hv u
        rw [getS_cons]
        by_cases e : u = t
        · subst e; rw [if_pos rfl, hv]
        · rw [if_neg e]
      split at hk
      · rename_i b hb
        have hyb : ∀ {ι : Map} {a : Act}, GR ι n ops o s a → yielded ops a.tmps j = some b := by
          intro ι a hs
          obtain ⟨v', hv, h1, h2⟩ := hy hs hb
          rw [hv.bool_inv] at h1 h2
          by_cases hlt : t < n
          · exact h1 hlt
          · have := (h2 hlt).2; cases this
        cases b with
        | true =>
          simp only [cond_true] at hk
          cases want with
          | true => exact ⟨_, same _ hb, .inl ⟨hk, fun ι a hs => by simp [Region.wanted, hg, hyb hs]⟩⟩
          | false => exact ⟨_, same _ hb, .inr ⟨hk, fun ι a hs => by simp [Region.wanted, hg, hyb hs]⟩⟩
        | false =>
          simp only [cond_false] at hk
          cases want with
          | true => exact ⟨_, same _ hb, .inr ⟨hk, fun ι a hs => by simp [Region.wanted, hg, hyb hs]⟩⟩
          | false => exact ⟨_, same _ hb, .inl ⟨hk, fun ι a hs => by simp [Region.wanted, hg, hyb hs]⟩⟩
      · rename_i vs hb
        obtain ⟨he, hk⟩ := bif_none hk
        refine ⟨s, fun _ => rfl, .inr ⟨hk, fun ι a hs => ?_⟩⟩
        obtain ⟨v', hv, h1, h2⟩ := hy hs hb
        obtain ⟨cs', rfl, _⟩ := hv.tuple_inv
        have : yielded ops a.tmps j = none := by
          by_cases hlt : t < n
          · exact h1 hlt
          · exact (h2 hlt).1
        simp [Region.wanted, hg, this]
      · cases hk
    · cases hk

theorem guardK_some {ops : Array Oper} {o : Oper} {s : Slots} {run skip : Slots → Out} (hk : guardK ops o s run skip = some out) :
    ∃ s', (∀ (t : Nat), getS s' t = getS s t) ∧ ((run s' = some out ∧ ∀ (ι : Map) (a : Act), SR ι n s a → Region.wanted o (yielded ops a.tmps) = true) ∨
      (skip s' = some out ∧ ∀ (ι : Map) (a : Act), SR ι n s a → Region.wanted o (yielded ops a.tmps) = false)) := by
  obtain ⟨s', h1, ⟨h2, h3⟩ | ⟨h2, h3⟩⟩ := guardK_some' (n := n) hk
  · exact ⟨s', h1, .inl ⟨h2, fun ι a hs => h3 ι a ⟨hs.1, hs.2.1, fun t v _ hv => hs.2.2 t v hv⟩⟩⟩
  · exact ⟨s', h1, .inr ⟨h2, fun ι a hs => h3 ι a ⟨hs.1, hs.2.1, fun t v _ hv => hs.2.2 t v hv⟩⟩⟩

theorem SR.congr {ι : Map} {s s' : Slots} {a : Act} (h : ∀ t, getS s' t = getS s t) (hs : SR ι n s a) : SR ι n s' a := ⟨hs.1, hs.2.1, fun t v hv => hs.2.2 t v (by rw [← h]; exact hv)⟩

/-- A region in the text's order. -/
theorem seqK_sound (hS : SpecOK P S) {ops : Array Oper} : ∀ {l : List Oper} {i : Nat} {s : Slots} {h : Heap} {k : Slots → Heap → Out}, seqK P S n ops l s h k = some out → (∀ j, l[j]? = ops[i + j]?) →
    ∃ s' h', k s' h' = some out ∧ ∀ (ι : Map) (base : Nat) (w : World) (a : Act) (Q : Exit → Act → World → Prop), SR ι n s a → HR ι base h w → (∀ a' w', StepS ι n base h w s' h' a' w' → Q .normal a' w') →
      wpOps P ops Q (List.range' i l.length) a w
  | [], i, s, h, k, hk, _ => ⟨s, h, hk, fun ι base w a Q hs hr hq => by simp only [List.length_nil, List.range'_zero, wpOps]; exact hq a w (StepS.refl hr hs)⟩
  | o :: r, i, s, h, k, hk, hl => by
    have hoi : ops[i]? = some o := by have := hl 0; simpa using this.symm
    have hr' : ∀ j, r[j]? = ops[i + 1 + j]? := fun j => by
      have := hl (j + 1)
      rw [List.getElem?_cons_succ] at this
      rw [this]
      congr 1
      omega
    simp only [seqK] at hk
    obtain ⟨s0, hs0, hrun | hskip⟩ := guardK_some (n := n) hk
    · obtain ⟨hk, hw⟩ := hrun
      obtain ⟨v, h1, q1, q2, q3, _⟩ := opK_sound (n := n) hS hk
      obtain ⟨s1, p1, p2⟩ := putS_some q1
      obtain ⟨s', h', r1, r2⟩ := seqK_sound hS p1 hr'
      refine ⟨s', h', r1, fun ι base w a Q hs hr hq => ?_⟩
      rw [List.length_cons, List.range'_succ, wpOps_cons]
      simp only [wpOp, hoi]
      rw [if_pos (hw ι a hs)]
      refine .inl (q2 ι base w a (hs.congr hs0) hr _ _ fun v' w' ha => ?_)
      obtain ⟨ι1, st⟩ := ha.step (fun b hb => by
        split at hb
        · exact hb
        · exact hb.elim) q3 (hs.congr hs0) p2
      exact r2 ι1 base w' _ Q st.sr st.hr fun a' w2 st2 => hq a' w2 (StepS.trans st st2)
    · obtain ⟨hk, hw⟩ := hskip
      obtain ⟨s1, p1, p2⟩ := putS_some hk
      obtain ⟨s', h', r1, r2⟩ := seqK_sound hS p1 hr'
      refine ⟨s', h', r1, fun ι base w a Q hs hr hq => ?_⟩
      rw [List.length_cons, List.range'_succ, wpOps_cons]
      simp only [wpOp, hoi]
      rw [if_neg (by rw [hw ι a hs]; simp)]
      have hs1 := hs.congr hs0
      have hs2 : SR ι n s1 (a.put o.dst undef) := by
        cases hd : o.dst with
        | none => rw [hd] at p2; simp only [Laid] at p2; subst p2; exact hs1
        | some t => rw [hd] at p2; simp only [Laid] at p2; obtain ⟨ht, rfl⟩ := p2; exact hs1.put ht (fun u hu => by cases hu; exact VR.undef ι)
      exact r2 ι base w _ Q hs2 hr hq

theorem seqK_region (hS : SpecOK P S) {ops : Array Oper} {id : Nat} {s : Slots} {h : Heap} {k : Slots → Heap → Out} (hk : seqK P S n ops ops.toList s h k = some out) :
    ∃ s' h', k s' h' = some out ∧ ∀ (ι : Map) (base : Nat) (w : World) (a : Act) (Q : Exit → Act → World → Prop), SR ι n s a → HR ι base h w → (∀ a' w', StepS ι n base h w s' h' a' w' → Q .normal a' w') →
      (Code.region id ops false).wp P Q a w := by
  obtain ⟨s', h', h1, h2⟩ := seqK_sound hS (i := 0) hk (fun j => by simp)
  refine ⟨s', h', h1, fun ι base w a Q hs hr hq => wp_region ?_⟩
  have := h2 ι base w a Q hs hr hq
  rw [Array.length_toList] at this
  rw [List.range_eq_range']
  exact this
end
end Go.Proofs.Ytfgehfnlkakioaa.VC
