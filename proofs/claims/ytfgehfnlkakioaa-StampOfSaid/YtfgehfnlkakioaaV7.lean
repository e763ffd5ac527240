/- Operations, one by one: what is needed of all. -/
import Derived.Test.YtfgehfnlkakioaaV6
namespace Go.Proofs.Ytfgehfnlkakioaa.VC
open Go

def SR (ι : Map) (n : Nat) (s : Slots) (a : Act) : Prop := a.tmps.size = n ∧ a.defers = [] ∧ ∀ (t : Nat) (v : Value), getS s t = some v → VR ι v (a.tmps.getD t undef)

theorem SR.mono {i j : Map} (h : Map.le i j) {n : Nat} {s : Slots} {a : Act} (hs : SR i n s a) : SR j n s a := ⟨hs.1, hs.2.1, fun t v hv => (hs.2.2 t v hv).mono h⟩

theorem getS_cons (t : Nat) (v : Option Value) (s : Slots) (u : Nat) : getS ((t, v) :: s) u = if u = t then v else getS s u := by
  simp only [getS]
  cases hb : Nat.beq t u with
  | true => have := beq_true hb; subst this; simp
  | false =>
    have : u ≠ t := fun e => by subst e; simp at hb
    simp [this]

theorem SR.put {ι : Map} {n : Nat} {s : Slots} {a : Act} (hs : SR ι n s a) {t : Nat} (ht : t < n) {v : Option Value} {v' : Value} (hv : ∀ u, v = some u → VR ι u v') : SR ι n ((t, v) :: s) (a.put (some t) v') := by
  refine ⟨by simp [Act.put, hs.1], hs.2.1, fun u x hx => ?_⟩
  rw [getS_cons] at hx
  by_cases e : u = t
  · subst e
    rw [if_pos rfl] at hx
    simp only [Act.put]
    rw [Array.getD_eq_getD_getElem?, Array.getElem?_setIfInBounds_self_of_lt (by rw [hs.1]; exact ht)]
    exact hv x hx
  · rw [if_neg e] at hx
    simp only [Act.put]
    rw [Array.getD_eq_getD_getElem?, Array.getElem?_setIfInBounds_ne (fun x => e x.symm), ← Array.getD_eq_getD_getElem?]
    exact hs.2.2 u x hx

theorem inR_spec {k : IntKind} {n : Int} (h : inR k n = true) : k.min ≤ n ∧ n ≤ k.max := by
  simpa [inR] using h

theorem plainV_VR (ι : Map) : ∀ (d : Nat) {v : Value}, plainV d v = true → VR ι v v
  | 0, v, h => by simp [plainV] at h
  | d + 1, v, h => by
    have arr : ∀ {cs : Array Value}, cs.toList.all (plainV d) = true → ∀ (i : Nat) (v v' : Value), cs[i]? = some v → cs[i]? = some v' → VR ι v v' := by
      intro cs hc i v v' h1 h2
      rw [h1] at h2
      cases h2
      exact plainV_VR ι d (List.all_eq_true.1 hc v (by
        have := List.mem_of_getElem? (l := cs.toList) (i := i) (a := v) (by simpa using h1)
        exact this))
    simp only [plainV] at h
    split at h
    · exact .bool _
    · exact .ptrNil
    · exact .slNil
    · exact .nilFunc
    · exact .nilIface
    · exact .string _ (by simpa using h)
    · exact .int _ _ (inR_spec h)
    · exact .agg rfl (arr h)
    · exact .tuple rfl (arr h)
    · cases h

theorem opnd_VR {ι : Map} {n : Nat} {s : Slots} {a : Act} (hs : SR ι n s a) {x : Operand} {v : Value} (h : opnd s x = some v) : VR ι v (a.eval x) := by
  cases x with
  | tmp t => exact hs.2.2 t v h
  | const c =>
    simp only [opnd] at h
    cases hp : plainV 6 c with
    | false => simp [hp] at h
    | true => simp only [hp, cond_true, Option.some.injEq] at h; subst h; exact plainV_VR ι 6 hp
  | func f =>
    simp only [opnd, Option.some.injEq] at h
    subst h
    exact .func _ rfl (fun i v v' h => by simp at h) rfl (fun i v v' h => by simp at h)
  | «global» g => simp [opnd] at h

theorem opnds_VRs {ι : Map} {n : Nat} {s : Slots} {a : Act} (hs : SR ι n s a) : ∀ {l : List Operand} {vs : List Value}, opnds s l = some vs → VRs ι vs (l.map a.eval)
  | [], vs, h => by simp [opnds] at h; subst h; exact VRs.nil
  | o :: r, vs, h => by
    simp only [opnds] at h
    cases h1 : opnd s o with
    | none => simp [h1] at h
    | some v => cases h2 : opnds s r with
      | none => simp [h1, h2] at h
      | some ws =>
        simp only [h1, h2, Option.some.injEq] at h
        subst h
        exact VRs.cons (opnd_VR hs h1) (opnds_VRs hs h2)

theorem opnd?_VR {ι : Map} {n : Nat} {s : Slots} {a : Act} (hs : SR ι n s a) {x : Option Operand} {v : Option Value} (h : opnd? s x = some v) :
    (x = none ∧ v = none) ∨ ∃ o u, x = some o ∧ v = some u ∧ VR ι u (a.eval o) := by
  cases x with
  | none => simp [opnd?] at h; exact .inl ⟨rfl, h.symm⟩
  | some o =>
    simp only [opnd?] at h
    cases h1 : opnd s o with
    | none => simp [h1] at h
    | some u => simp [h1] at h; exact .inr ⟨o, u, rfl, h.symm, opnd_VR hs h1⟩

section inversions
variable {ι : Map} {v' : Value}
theorem VR.bool_inv {b : Bool} (h : VR ι (.bool b) v') : v' = .bool b := by cases h; rfl
theorem VR.int_inv {k : IntKind} {n : Int} (h : VR ι (.int k n) v') : v' = .int k n ∧ k.min ≤ n ∧ n ≤ k.max := by cases h; exact ⟨rfl, by assumption⟩
theorem VR.string_inv {s : ByteArray} (h : VR ι (.string s) v') : v' = .string s ∧ s.size ≤ 4611686018427387904 := by cases h; exact ⟨rfl, by assumption⟩
theorem VR.ptr_inv {id off : Nat} (h : VR ι (.pointer (some ⟨id, off, none⟩)) v') : ∃ l, ι id = some l ∧ v' = .pointer (some ⟨l.b, l.o + off, none⟩) := by cases h with | ptr h => exact ⟨_, h, rfl⟩
theorem VR.ptrNil_inv (h : VR ι (.pointer none) v') : v' = .pointer none := by cases h; rfl
theorem VR.slNil_inv {n c : Nat} (h : VR ι (.slice none n c) v') : v' = .slice none 0 0 ∧ n = 0 ∧ c = 0 := by cases h; exact ⟨rfl, rfl, rfl⟩
theorem VR.agg_inv {cs : Array Value} (h : VR ι (.agg cs) v') : ∃ cs', v' = .agg cs' ∧ cs.size = cs'.size ∧ ∀ (i : Nat) (v v' : Value), cs[i]? = some v → cs'[i]? = some v' → VR ι v v' := by
  cases h with | agg h1 h2 => exact ⟨_, rfl, h1, h2⟩
theorem VR.tuple_inv {cs : Array Value} (h : VR ι (.tuple cs) v') : ∃ cs', v' = .tuple cs' ∧ cs.size = cs'.size ∧ ∀ (i : Nat) (v v' : Value), cs[i]? = some v → cs'[i]? = some v' → VR ι v v' := by
  cases h with | tuple h1 h2 => exact ⟨_, rfl, h1, h2⟩
theorem VR.func_inv {fn : Fn} {xs ys : Array Value} (h : VR ι (.func fn xs ys) v') : ∃ xs' ys', v' = .func fn xs' ys' ∧ VRs ι xs.toList xs'.toList ∧ VRs ι ys.toList ys'.toList := by
  cases h with | func fn h1 h2 h3 h4 => exact ⟨_, _, rfl, ⟨by simpa using h1, fun i v v' a b => h2 i v v' (by simpa using a) (by simpa using b)⟩, ⟨by simpa using h3, fun i v v' a b => h4 i v v' (by simpa using a) (by simpa using b)⟩⟩
theorem VR.sl_inv {id off n c : Nat} (h : VR ι (.slice (some ⟨id, off, none⟩) n c) v') : (∃ a, n = 0 ∧ v' = .slice a 0 0) ∨
    ∃ l c', ι id = some l ∧ n ≤ 4611686018427387904 ∧ n ≤ c' ∧ (c = 0 → c' = n) ∧ (c = 1 → l.o + off + c' * l.es ≤ l.sz) ∧ v' = .slice (some ⟨l.b, l.o + off, none⟩) n c' := by
  cases h with
  | slZero a => exact .inl ⟨a, rfl, rfl⟩
  | sl h h0 h1 ht ha => exact .inr ⟨_, _, h, h0, h1, ht, ha, rfl⟩
end inversions

theorem VRs.arr {ι : Map} {cs cs' : Array Value} (h1 : cs.size = cs'.size) (h2 : ∀ (i : Nat) (v v' : Value), cs[i]? = some v → cs'[i]? = some v' → VR ι v v') : VRs ι cs.toList cs'.toList :=
  ⟨by simpa using h1, fun i v v' a b => h2 i v v' (by simpa using a) (by simpa using b)⟩

theorem VRs.agg {ι : Map} {cs cs' : Array Value} (h : VRs ι cs.toList cs'.toList) : VR ι (.agg cs) (.agg cs') :=
  .agg (by simpa using h.1) (fun i v v' a b => h.2 i v v' (by simpa using a) (by simpa using b))

theorem VRs.tup {ι : Map} {cs cs' : Array Value} (h : VRs ι cs.toList cs'.toList) : VR ι (.tuple cs) (.tuple cs') :=
  .tuple (by simpa using h.1) (fun i v v' a b => h.2 i v v' (by simpa using a) (by simpa using b))

theorem VR.cells {ι : Map} {v v' : Value} (h : VR ι v v') : VRs ι v.cells.toList v'.cells.toList := by
  cases h with
  | agg h1 h2 => exact VRs.arr h1 h2
  | bool b => exact VRs.cons (.bool b) VRs.nil
  | int k n hn => exact VRs.cons (.int k n hn) VRs.nil
  | string s hs => exact VRs.cons (.string s hs) VRs.nil
  | ptrNil => exact VRs.cons .ptrNil VRs.nil
  | ptr hl => exact VRs.cons (.ptr hl) VRs.nil
  | slNil => exact VRs.cons .slNil VRs.nil
  | slZero a => exact VRs.cons (.slZero a) VRs.nil
  | sl hl h0 h1 ht ha => exact VRs.cons (.sl hl h0 h1 ht ha) VRs.nil
  | nilFunc => exact VRs.cons .nilFunc VRs.nil
  | nilIface => exact VRs.cons .nilIface VRs.nil
  | func fn h1 h2 h3 h4 => exact VRs.cons (.func fn h1 h2 h3 h4) VRs.nil
  | iface t h => exact VRs.cons (.iface t h) VRs.nil
  | tuple h1 h2 => exact VRs.cons (.tuple h1 h2) VRs.nil

theorem VR.isCell {ι : Map} {v v' : Value} (h : VR ι v v') : isCell v' = VC.isCell v := by cases h <;> rfl

theorem VR.undef (ι : Map) : VR ι undef undef := .tuple rfl (fun i v v' h => by simp at h)

/-- A value that is one of whole numbers is within its kind. -/
theorem VRs.ints {ι : Map} {vs vs' : List Value} (h : VRs ι vs vs') (k : IntKind) (x : Int) (hm : Value.int k x ∈ vs) : k.min ≤ x ∧ x ≤ k.max := by
  obtain ⟨i, hi⟩ := List.getElem?_of_mem hm
  obtain ⟨v', _, hv⟩ := h.get hi
  exact hv.int_inv.2

section runs
variable {P : Program} {w : World} {t : TypeId}
theorem run_typeInfo {i : TypeInfo} (h : P.info? t = some i) : (typeInfo t).run P w = .ok i w := by simp [typeInfo, h]
theorem run_underlying {d : TypeDesc} (h : P.underlying t = some d) : (underlying t).run P w = .ok d w := by simp [underlying, h]
theorem run_sizeOf {i : TypeInfo} (h : P.info? t = some i) : (sizeOf t).run P w = .ok i.size w := by simp [sizeOf, run_typeInfo h]
theorem run_zeroValue {i : TypeInfo} {z : Value} (h : P.info? t = some i) (hz : i.zero = some z) : (zeroValue t).run P w = .ok z w := by simp [zeroValue, run_typeInfo h, hz]
theorem run_isAgg {b : Bool} (h : isAggT P t = some b) : (isAgg t).run P w = .ok b w := by
  simp only [isAggT] at h
  cases hu : P.underlying t with
  | none => simp [hu] at h
  | some d => cases d <;> simp [hu] at h <;> subst h <;> simp [isAgg, run_underlying hu]
end runs

/-- What is shown of an operation. -/
def OpS (P : Program) (n : Nat) (s : Slots) (h : Heap) (o : Oper) (v : Value) (h' : Heap) (b : Bool) : Prop :=
  ∀ (ι : Map) (base : Nat) (w : World) (a : Act), SR ι n s a → HR ι base h w → ∀ (next : Act → World → Prop) (Q : Exit → Act → World → Prop),
    (∀ v' w', After ι base h w v h' v' w' (if b = true then mods ι h else fun _ => False) → next (a.put o.dst v') w') → o.wp P a w next Q

theorem OpS_run {P : Program} {n : Nat} {s : Slots} {h h' : Heap} {o : Oper} {v : Value} {b : Bool}
    (hh : ∀ (ι : Map) (base : Nat) (w : World) (a : Act), SR ι n s a → HR ι base h w → ∃ v' w', (execOp a.eval o).run P w = .ok (.value v') w' ∧
      After ι base h w v h' v' w' (if b = true then mods ι h else fun _ => False)) : OpS P n s h o v h' b := by
  intro ι base w a hs hr next Q hn
  obtain ⟨v', w', h1, h2⟩ := hh ι base w a hs hr
  simp only [Oper.wp, h1, Oper.upon]
  exact hn v' w' h2

theorem OpS_pure {P : Program} {n : Nat} {s : Slots} {h : Heap} {o : Oper} {v : Value} {b : Bool}
    (hh : ∀ (ι : Map) (base : Nat) (w : World) (a : Act), SR ι n s a → HR ι base h w → ∃ v', (execOp a.eval o).run P w = .ok (.value v') w ∧ VR ι v v') : OpS P n s h o v h b :=
  OpS_run fun ι base w a hs hr =>
    let ⟨v', h1, h2⟩ := hh ι base w a hs hr
    ⟨v', w, h1, after_same hr rfl (Still.refl _) h2 _⟩

theorem OpS_push {P : Program} {n : Nat} {s : Slots} {h : Heap} {o : Oper} {v : Value} {b : Bool} {es : Nat} {sg : List Seg}
    (hh : ∀ (ι : Map) (base : Nat) (w : World) (a : Act), SR ι n s a → HR ι base h w → ∃ v' c T w', (execOp a.eval o).run P w = .ok (.value v') w' ∧
      w'.heap = w.heap.push (.cells c T) ∧ Still w w' ∧ segsOK sg ∧ (∀ (i : Nat) (v : Value), cell? sg i = some v → ∃ v', c[i]? = some v' ∧ VR ι v v') ∧
      (∀ ι' : Map, ι' h.length = some ⟨w.heap.size, 0, c.size, es⟩ → VR ι' v v')) : OpS P n s h o v (h ++ [some ⟨true, es, sg⟩]) b :=
  OpS_run fun ι base w a hs hr =>
    let ⟨v', c, T, w', h1, h2, h3, h4, h5, h6⟩ := hh ι base w a hs hr
    ⟨v', w', h1, by
      obtain ⟨ι', a1, a2, a3, a4, a5, a6⟩ := after_push hr h2 h3 h4 h5 h6
      cases b
      · exact ⟨ι', a1, a2, a3, a4, a5, a6⟩
      · exact ⟨ι', a1, fun id l hl => by
          rcases a2 id l hl with x | ⟨x, y | y⟩
          · exact .inl x
          · exact .inr ⟨x, .inl y⟩
          · exact y.elim, a3, a4, a5.mono fun _ x => x.elim, a6⟩⟩

end Go.Proofs.Ytfgehfnlkakioaa.VC
