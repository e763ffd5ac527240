/- The abstract memory: blocks by literal numbers, cells by segments; what it means of a world. -/
import Derived.Calls
import Derived.Orders
namespace Go.Proofs.Ytfgehfnlkakioaa.VC
open Go

/-- Where an abstract block lies: the real block, the place of its first cell in it, how many cells the real block has, the cells of an element. -/
structure Loc where
  b : Nat
  o : Nat
  sz : Nat
  es : Nat

abbrev Map := Nat → Option Loc

def Map.le (i j : Map) : Prop := ∀ id l, i id = some l → j id = some l
theorem Map.le_refl (i : Map) : Map.le i i := fun _ _ h => h
theorem Map.le_trans {i j k : Map} (h : Map.le i j) (h' : Map.le j k) : Map.le i k := fun _ _ x => h' _ _ (h _ _ x)

/-- An abstract value and a real one. The capacity of an abstract slice: 0 (the real one is the length), 1 (unknown; the room lies in the block), else unknown. -/
inductive VR (ι : Map) : Value → Value → Prop
  | bool (b : Bool) : VR ι (.bool b) (.bool b)
  | int (k : IntKind) (n : Int) (h : k.min ≤ n ∧ n ≤ k.max) : VR ι (.int k n) (.int k n)
  | string (s : ByteArray) (h : s.size ≤ 4611686018427387904) : VR ι (.string s) (.string s)
  | ptrNil : VR ι (.pointer none) (.pointer none)
  | ptr {id off : Nat} {l : Loc} (h : ι id = some l) : VR ι (.pointer (some ⟨id, off, none⟩)) (.pointer (some ⟨l.b, l.o + off, none⟩))
  | slNil : VR ι (.slice none 0 0) (.slice none 0 0)
  | slZero {id off c : Nat} (a : Option Addr) : VR ι (.slice (some ⟨id, off, none⟩) 0 c) (.slice a 0 0)
  | sl {id off len c c' : Nat} {l : Loc} (h : ι id = some l) (h0 : len ≤ 4611686018427387904) (h1 : len ≤ c') (ht : c = 0 → c' = len) (ha : c = 1 → l.o + off + c' * l.es ≤ l.sz) :
      VR ι (.slice (some ⟨id, off, none⟩) len c) (.slice (some ⟨l.b, l.o + off, none⟩) len c')
  | nilFunc : VR ι .nilFunc .nilFunc
  | nilIface : VR ι .nilIface .nilIface
  | func (fn : Fn) {xs xs' ys ys' : Array Value} (h1 : xs.size = xs'.size) (h2 : ∀ (i : Nat) (v v' : Value), xs[i]? = some v → xs'[i]? = some v' → VR ι v v')
      (h3 : ys.size = ys'.size) (h4 : ∀ (i : Nat) (v v' : Value), ys[i]? = some v → ys'[i]? = some v' → VR ι v v') : VR ι (.func fn xs ys) (.func fn xs' ys')
  | iface (t : TypeId) {v v' : Value} (h : VR ι v v') : VR ι (.iface t v) (.iface t v')
  | agg {cs cs' : Array Value} (h1 : cs.size = cs'.size) (h2 : ∀ (i : Nat) (v v' : Value), cs[i]? = some v → cs'[i]? = some v' → VR ι v v') : VR ι (.agg cs) (.agg cs')
  | tuple {cs cs' : Array Value} (h1 : cs.size = cs'.size) (h2 : ∀ (i : Nat) (v v' : Value), cs[i]? = some v → cs'[i]? = some v' → VR ι v v') : VR ι (.tuple cs) (.tuple cs')

theorem VR.mono {i j : Map} (h : Map.le i j) {v v' : Value} (hv : VR i v v') : VR j v v' := by
  induction hv with
  | bool b => exact .bool b
  | int k n h => exact .int k n h
  | string s h => exact .string s h
  | ptrNil => exact .ptrNil
  | ptr hi => exact .ptr (h _ _ hi)
  | slNil => exact .slNil
  | slZero a => exact .slZero a
  | sl hi h0 h1 ht ha => exact .sl (h _ _ hi) h0 h1 ht ha
  | nilFunc => exact .nilFunc
  | nilIface => exact .nilIface
  | func fn h1 _ h3 _ ih1 ih2 => exact .func fn h1 ih1 h3 ih2
  | iface t _ ih => exact .iface t ih
  | agg h1 _ ih => exact .agg h1 ih
  | tuple h1 _ ih => exact .tuple h1 ih

/-- Lists of values, place by place. -/
def VRs (ι : Map) (xs ys : List Value) : Prop := xs.length = ys.length ∧ ∀ (i : Nat) (v v' : Value), xs[i]? = some v → ys[i]? = some v' → VR ι v v'

theorem VRs.mono {i j : Map} (h : Map.le i j) {xs ys : List Value} (hv : VRs i xs ys) : VRs j xs ys := ⟨hv.1, fun n v v' a b => (hv.2 n v v' a b).mono h⟩
theorem VRs.nil {ι : Map} : VRs ι [] [] := ⟨rfl, fun i v v' h => by simp at h⟩
theorem VRs.cons {ι : Map} {x y : Value} {xs ys : List Value} (h : VR ι x y) (hs : VRs ι xs ys) : VRs ι (x :: xs) (y :: ys) := by
  refine ⟨by simp [hs.1], fun i v v' a b => ?_⟩
  cases i with
  | zero => simp at a b; subst a b; exact h
  | succ i => simp at a b; exact hs.2 i v v' a b
theorem VRs.head {ι : Map} {x y : Value} {xs ys : List Value} (h : VRs ι (x :: xs) (y :: ys)) : VR ι x y := h.2 0 x y rfl rfl
theorem VRs.tail {ι : Map} {x y : Value} {xs ys : List Value} (h : VRs ι (x :: xs) (y :: ys)) : VRs ι xs ys :=
  ⟨by simpa using h.1, fun i v v' a b => h.2 (i + 1) v v' (by simpa using a) (by simpa using b)⟩
theorem VRs.get {ι : Map} {xs ys : List Value} (h : VRs ι xs ys) {i : Nat} {v : Value} (hv : xs[i]? = some v) : ∃ v', ys[i]? = some v' ∧ VR ι v v' := by
  obtain ⟨hi, hv2⟩ := List.getElem?_eq_some_iff.1 hv
  have hj : i < ys.length := h.1 ▸ hi
  exact ⟨ys[i], List.getElem?_eq_getElem hj, h.2 i v _ hv (List.getElem?_eq_getElem hj)⟩
theorem VRs.append {ι : Map} {xs ys xs' ys' : List Value} (h : VRs ι xs ys) (h' : VRs ι xs' ys') : VRs ι (xs ++ xs') (ys ++ ys') := by
  induction xs generalizing ys with
  | nil => cases ys with
    | nil => simpa using h'
    | cons y ys => simp [VRs] at h
  | cons x xs ih => cases ys with
    | nil => simp [VRs] at h
    | cons y ys => exact VRs.cons h.head (ih h.tail)

/-- Cells of an abstract block: written out, or a row of whole numbers. -/
inductive Seg where
  | vals (vs : List Value)
  | ints (k : IntKind) (n : Nat) (xs : List Int)

structure Blk where
  own : Bool
  es : Nat
  segs : List Seg

abbrev Heap := List (Option Blk)

/-- The cell at a place. -/
def cell? : List Seg → Nat → Option Value
  | [], _ => none
  | .vals vs :: r, i => match vs[i]? with
    | some v => some v
    | none => cell? r (i - vs.length)
  | .ints k n xs :: r, i => if i < n then some (.int k (xs.getD i 0)) else cell? r (i - n)

def segLen : Seg → Nat
  | .vals vs => vs.length
  | .ints _ n _ => n

def segsLen : List Seg → Nat
  | [] => 0
  | s :: r => segLen s + segsLen r

def segOK : Seg → Prop
  | .vals _ => True
  | .ints k n xs => xs.length = n ∧ ∀ x ∈ xs, k.min ≤ x ∧ x ≤ k.max

def segsOK (l : List Seg) : Prop := ∀ s ∈ l, segOK s

/-- An abstract block at its place in a world. -/
def BlkRel (ι : Map) (l : Loc) (blk : Blk) (w : World) : Prop :=
  ∃ c T fr, w.heap[l.b]? = some (.cells c T fr) ∧ c.size = l.sz ∧ blk.es = l.es ∧ segsOK blk.segs ∧
    (∀ i v, cell? blk.segs i = some v → ∃ v', c[l.o + i]? = some v' ∧ VR ι v v') ∧
    (blk.own = true → ∀ i, ¬ (fr.1 ≤ i ∧ i < fr.2))

/-- What a run does to a world but for the blocks that it may write. -/
structure Fr (mods : Nat → Prop) (w w' : World) : Prop where
  size : w.heap.size ≤ w'.heap.size
  same : ∀ b, b < w.heap.size → ¬ mods b → w'.heap[b]? = w.heap[b]?
  os : w'.os = w.os
  out : w'.output = w.output
  tape : w'.tape = w.tape
  fz : ∀ a, w'.frozen? a = w.frozen? a

theorem Fr.refl (m : Nat → Prop) (w : World) : Fr m w w := ⟨Nat.le_refl _, fun _ _ _ => rfl, rfl, rfl, rfl, fun _ => rfl⟩

theorem Fr.trans {m m' : Nat → Prop} {w w1 w2 : World} (h : Fr m w w1) (h' : Fr m' w1 w2) (hm : ∀ b, b < w.heap.size → m' b → m b) : Fr m w w2 :=
  ⟨Nat.le_trans h.size h'.size,
   fun b hb hn => by rw [h'.same b (Nat.lt_of_lt_of_le hb h.size) (fun x => hn (hm b hb x)), h.same b hb hn],
   h'.os.trans h.os, h'.out.trans h.out, h'.tape.trans h.tape, fun a => (h'.fz a).trans (h.fz a)⟩

theorem Fr.mono {m m' : Nat → Prop} {w w' : World} (h : Fr m w w') (hm : ∀ b, m b → m' b) : Fr m' w w' :=
  ⟨h.size, fun b hb hn => h.same b hb (fun x => hn (hm b x)), h.os, h.out, h.tape, h.fz⟩

/-- An abstract heap in a world. 'base': what was there when the law began lies below it. -/
structure HR (ι : Map) (base : Nat) (h : Heap) (w : World) : Prop where
  live : ∀ (id : Nat) (blk : Blk), h[id]? = some (some blk) → (ι id = none ∧ segsOK blk.segs ∧ ∀ i, cell? blk.segs i = none) ∨ ∃ l, ι id = some l ∧ BlkRel ι l blk w
  dom : ∀ (id : Nat) (l : Loc), ι id = some l → id < h.length ∧ l.b < w.heap.size
  inj : ∀ (id id' : Nat) (blk blk' : Blk) (l l' : Loc), h[id]? = some (some blk) → h[id']? = some (some blk') → blk.own = true → id ≠ id' →
    ι id = some l → ι id' = some l' → l.b ≠ l'.b
  own : ∀ (id : Nat) (blk : Blk) (l : Loc), h[id]? = some (some blk) → blk.own = true → ι id = some l → base ≤ l.b
  base_le : base ≤ w.heap.size

/-- The real blocks that lie under the abstract blocks that may be written. -/
def mods (ι : Map) (h : Heap) (b : Nat) : Prop := ∃ (id : Nat) (blk : Blk) (l : Loc), h[id]? = some (some blk) ∧ blk.own = true ∧ ι id = some l ∧ l.b = b

theorem BlkRel.mono {i j : Map} (h : Map.le i j) {l : Loc} {blk : Blk} {w : World} (hb : BlkRel i l blk w) : BlkRel j l blk w := by
  obtain ⟨c, T, fr, h1, h2, h3, h4, h5, h6⟩ := hb
  exact ⟨c, T, fr, h1, h2, h3, h4, fun n v hv => let ⟨v', a, b⟩ := h5 n v hv; ⟨v', a, b.mono h⟩, h6⟩

theorem BlkRel.same {ι : Map} {l : Loc} {blk : Blk} {w w' : World} (he : w'.heap[l.b]? = w.heap[l.b]?) (hb : BlkRel ι l blk w) : BlkRel ι l blk w' := by
  obtain ⟨c, T, fr, h1, h⟩ := hb
  exact ⟨c, T, fr, he.trans h1, h⟩

theorem BlkRel.lt {ι : Map} {l : Loc} {blk : Blk} {w : World} (hb : BlkRel ι l blk w) : l.b < w.heap.size := by
  obtain ⟨c, T, fr, h1, h⟩ := hb
  exact (Array.getElem?_eq_some_iff.1 h1).1

/-- A draw, or whatever leaves the heap as it is. -/
theorem HR.sameHeap {ι : Map} {base : Nat} {h : Heap} {w w' : World} (he : w'.heap = w.heap) (hr : HR ι base h w) : HR ι base h w' := by
  obtain ⟨a, b, c, d, e⟩ := hr
  refine ⟨fun id blk hh => ?_, fun id l hl => ?_, c, d, by rw [he]; exact e⟩
  · rcases a id blk hh with hp | ⟨l, h1, h2⟩
    · exact .inl hp
    · exact .inr ⟨l, h1, h2.same (by rw [he])⟩
  · rw [he]; exact b id l hl

theorem HR.cell {ι : Map} {base : Nat} {h : Heap} {w : World} (hr : HR ι base h w) {id off : Nat} {blk : Blk} {v : Value} {l : Loc}
    (hb : h[id]? = some (some blk)) (hl : ι id = some l) (hc : cell? blk.segs off = some v) : ∃ v', w.cell? ⟨l.b, l.o + off, none⟩ = some v' ∧ VR ι v v' := by
  rcases hr.live id blk hb with ⟨h1, _⟩ | ⟨l', h1, c, T, fr, h2, _, _, _, h5, _⟩
  · rw [hl] at h1; cases h1
  rw [hl] at h1; cases h1
  obtain ⟨v', hv, hvr⟩ := h5 off v hc
  exact ⟨v', by simp [World.cell?, h2, hv], hvr⟩

end Go.Proofs.Ytfgehfnlkakioaa.VC
