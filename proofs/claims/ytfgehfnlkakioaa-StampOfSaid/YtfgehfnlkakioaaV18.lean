/- What is known of functions, put together; a law at the end. -/
import Derived.Test.YtfgehfnlkakioaaV17
import Derived.RowKit3
namespace Go.Proofs.Ytfgehfnlkakioaa.VC
open Go Go.RowKit

abbrev FSpec := List Value → Heap → (Value → Heap → Out) → Out

/-- Functions by their numbers. -/
def mkS : List (Nat × Bool × FSpec) → Spec
  | [] => ⟨fun _ _ _ _ => none, fun _ => false⟩
  | (g, rw, F) :: r => ⟨fun f => bif Nat.beq g f then F else (mkS r).f f, fun f => bif Nat.beq g f then rw else (mkS r).rw f⟩

/-- What must be shown of one function. -/
def EntryOK (P : Program) (g : FuncId) (F : FSpec) : Prop := ∀ (args : List Value) (h : Heap) (k : Value → Heap → Out) (out : Res), F args h k = some out → ∃ v h', k v h' = some out ∧ CallS P g args h v h'

theorem mkS_nil (P : Program) : SpecOK P (mkS []) := fun _ _ _ _ _ h => by cases h
theorem mkS_cons {P : Program} {g : FuncId} {rw : Bool} {F : FSpec} {l : List (Nat × Bool × FSpec)} (h : EntryOK P g F) (hl : SpecOK P (mkS l)) : SpecOK P (mkS ((g, rw, F) :: l)) := by
  intro f args hp k out hk
  simp only [mkS] at hk
  cases hb : Nat.beq g f with
  | true =>
    have := beq_true hb
    subst this
    rw [hb] at hk
    exact h args hp k out hk
  | false => rw [hb] at hk; exact hl f args hp k out hk

/-- No loops are known. -/
def noL : LSpec := fun _ => none

/-- One loop is known. -/
def oneL (key : Nat) (live : List Nat) (f : List Value → Heap → (Exit → List Value → Heap → Out) → Out) : LSpec := fun i => bif Nat.beq i key then some (live, f) else none

section
variable {P : Program} {S : Spec} {g : FuncId} {fn : Func}

/-- What a function's loops must be. -/
def LoopsOK (P : Program) (L : LSpec) (n m : Nat) (c : Code) : Prop := ∀ body ∈ loops c, ∀ live f, (loopKey body).bind L = some (live, f) → LoopOK P n m body live f

/-- A function's code. -/
def bodyOf (fn : Func) : Code := fn.body.getD .skip
theorem bodyOf_some {fn : Func} (h : fn.body.isSome = true) : fn.body = some (bodyOf fn) := by
  unfold bodyOf
  cases hb : fn.body with
  | none => rw [hb] at h; cases h
  | some c => rfl

/-- A function's entry: on what a world may hold the evaluator's answer is the one that is told. -/
theorem EntryOK.of_fn (hS : SpecOK P S) (hm : P.follows .mixedOrders = true) {F : FSpec} (hf : P.funcs[g]? = some fn) (hname : (fn.name == "runtime.NumGoroutine") = false) (hb : fn.body.isSome = true)
    (hF : ∀ (args : List Value) (h : Heap) (k : Value → Heap → Out) (out : Res), F args h k = some out → ∃ v h', k v h' = some out ∧ (RealA args h → ∃ L, LoopsOK P L fn.ntmps h.length (bodyOf fn) ∧ fnK P S L fn args h = some (.ret v h'))) : EntryOK P g F := by
  intro args h k out hk
  obtain ⟨v, h', h1, h2⟩ := hF args h k out hk
  refine ⟨v, h', h1, fun ι base w args' hr ha => ?_⟩
  obtain ⟨L, hL, hfn⟩ := h2 ⟨ι, base, w, args'.toList, hr, ha⟩
  obtain ⟨v2, h2, e, hc⟩ := fnK_sound hS hm hf hname (bodyOf_some hb) hL hfn
  simp only [Res.ret.injEq] at e
  obtain ⟨rfl, rfl⟩ := e
  exact hc ι base w args' hr ha

/-- What is known less well. -/
structure Weak (v : Value) (h : Heap) (v2 : Value) (h2 : Heap) : Prop where
  hr : ∀ (ι : Map) (base : Nat) (w : World), HR ι base h w → HR ι base h2 w
  vr : ∀ (ι : Map) (base : Nat) (w : World) (v' : Value), HR ι base h w → VR ι v v' → VR ι v2 v'
  mods : ∀ (ι : Map) (b : Nat), VC.mods ι h2 b → VC.mods ι h b

theorem Weak.refl (v : Value) (h : Heap) : Weak v h v h := ⟨fun _ _ _ x => x, fun _ _ _ _ _ x => x, fun _ _ x => x⟩

theorem CallS.weak {args : List Value} {h h1 h2 : Heap} {v1 v2 : Value} (hc : CallS P g args h v1 h1) (hw : Weak v1 h1 v2 h2) : CallS P g args h v2 h2 := fun ι base w args' hr ha =>
  (hc ι base w args' hr ha).mono fun _ _ ⟨ι', q⟩ => ⟨ι', q.le, q.new, hw.hr _ _ _ q.hr, hw.vr _ _ _ _ q.hr q.vr, q.fr, fun b hb => q.mo b (hw.mods _ _ hb)⟩

/-- As EntryOK.of_fn, where less is told than is found. -/
theorem EntryOK.of_fn_weak (hS : SpecOK P S) (hm : P.follows .mixedOrders = true) {F : FSpec} (hf : P.funcs[g]? = some fn) (hname : (fn.name == "runtime.NumGoroutine") = false) (hb : fn.body.isSome = true)
    (hF : ∀ (args : List Value) (h : Heap) (k : Value → Heap → Out) (out : Res), F args h k = some out → ∃ v h', k v h' = some out ∧
      (RealA args h → ∃ L v1 h1, LoopsOK P L fn.ntmps h.length (bodyOf fn) ∧ fnK P S L fn args h = some (.ret v1 h1) ∧ Weak v1 h1 v h')) : EntryOK P g F := by
  intro args h k out hk
  obtain ⟨v, h', h1, h2⟩ := hF args h k out hk
  refine ⟨v, h', h1, fun ι base w args' hr ha => ?_⟩
  obtain ⟨L, v1, hh1, hL, hfn, hw⟩ := h2 ⟨ι, base, w, args'.toList, hr, ha⟩
  obtain ⟨v2, h2, e, hc⟩ := fnK_sound hS hm hf hname (bodyOf_some hb) hL hfn
  simp only [Res.ret.injEq] at e
  obtain ⟨rfl, rfl⟩ := e
  exact hc.weak hw ι base w args' hr ha

theorem noL_ok {P : Program} {n m : Nat} {c : Code} : LoopsOK P noL n m c := by
  intro body _ live f h
  cases hk : loopKey body <;> simp [hk, noL] at h

/-- What a real argument is within. -/
theorem RealA.int {args : List Value} {h : Heap} (hr : RealA args h) {i : Nat} {k : IntKind} {x : Int} (ha : args[i]? = some (.int k x)) : k.min ≤ x ∧ x ≤ k.max := by
  obtain ⟨ι, base, w, args', _, hv⟩ := hr
  obtain ⟨v', _, h2⟩ := hv.get ha
  exact h2.int_inv.2

theorem RealA.segs {args : List Value} {h : Heap} (hr : RealA args h) {i : Nat} {b : Blk} (hb : h[i]? = some (some b)) : segsOK b.segs := by
  obtain ⟨ι, base, w, args', h1, _⟩ := hr
  rcases h1.live i b hb with ⟨_, h2, _⟩ | ⟨l, _, c, T, fr, _, _, _, h2, _⟩ <;> exact h2

theorem RealS.int {s : Slots} {h : Heap} (hr : RealS s h) {t : Nat} {k : IntKind} {x : Int} (ha : getS s t = some (.int k x)) : k.min ≤ x ∧ x ≤ k.max := by
  obtain ⟨ι, n, base, w, a, h1, _⟩ := hr
  exact (h1.2.2 t _ ha).int_inv.2

theorem RealS.segs {s : Slots} {h : Heap} (hr : RealS s h) {i : Nat} {b : Blk} (hb : h[i]? = some (some b)) : segsOK b.segs := by
  obtain ⟨ι, n, base, w, a, _, h1⟩ := hr
  rcases h1.live i b hb with ⟨_, h2, _⟩ | ⟨l, _, c, T, fr, _, _, _, h2, _⟩ <;> exact h2

/-- A law over numbers and truth values alone. -/
theorem law_plain {args : Array Value} {out : Heap} (hc : CallS P g args.toList [] (.bool true) out) (hp : ∀ ι, VRs ι args.toList args.toList) (w : World)
    (hb : (P.funcs[g]?).any (fun fn => fn.body.isSome && !(fn.name == "runtime.NumGoroutine")) = true) : Calls P g args w fun e w' => e = .returned (.bool true) ∧ Grown w w' := by
  have h0 : HR (fun _ => none) w.heap.size [] w := by
    refine ⟨fun id blk h => ?_, fun id l h => ?_, fun id id' blk blk' l l' h => ?_, fun id blk l h => ?_, Nat.le_refl _⟩
    · simp at h
    · cases h
    · simp at h
    · simp at h
  rcases hc (fun _ => none) w.heap.size w args h0 (hp _) with ⟨_, h2⟩ | ⟨v', w', h1, _⟩
  · refine h2.mono fun e w' ⟨v', he, ι', ha⟩ => ?_
    have := ha.vr.bool_inv
    subst this
    have hno : ∀ b, ¬ mods (fun _ => none) [] b := by
      rintro b ⟨id, blk, l, h, _⟩
      simp at h
    refine ⟨he, ⟨ha.fr.os, ha.fr.out, fun i hi => ?_⟩, ha.fr.fz, ha.fr.size⟩
    rw [ha.fr.same i hi (hno i)]
    cases hx : w.heap[i]? with
    | none => rfl
    | some o =>
      cases o <;> simp
  · exfalso
    cases hf : P.funcs[g]? with
    | none => simp [hf] at hb
    | some fn =>
      simp [hf] at hb
      obtain ⟨hb1, hb2⟩ := hb
      cases hbody : fn.body with
      | none => simp [hbody] at hb1
      | some c => simp [callFunc, hf, hbody, hb2] at h1
end
end Go.Proofs.Ytfgehfnlkakioaa.VC
