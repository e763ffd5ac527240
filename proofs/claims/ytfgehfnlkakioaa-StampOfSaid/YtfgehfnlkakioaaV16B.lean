/- Regions whose order is open: every order comes to the text's end. -/
import Derived.Test.YtfgehfnlkakioaaV16
namespace Go.Proofs.Ytfgehfnlkakioaa.VC
open Go

theorem maskF_live {keep : Nat → Bool} {rs : List (Nat × Nat × Nat)} {h : Heap} {id : Nat} {blk : Blk} (hm : (maskF keep rs h)[id]? = some (some blk)) : (∀ r ∈ rs, inRange r id → keep r.1 = true) ∧ h[id]? = some (some blk) := by
  obtain ⟨_, g2, g3⟩ := maskF_get (keep := keep) rs h id
  have h1 : ∀ r ∈ rs, inRange r id → keep r.1 = true := by
    intro r hr hi
    cases hk : keep r.1 with
    | true => rfl
    | false => exact (g2 ⟨r, hr, hi, hk⟩ blk hm).elim
  exact ⟨h1, by rw [← g3 h1]; exact hm⟩

theorem maskF_of {keep : Nat → Bool} {rs : List (Nat × Nat × Nat)} {h : Heap} {id : Nat} (h1 : ∀ r ∈ rs, inRange r id → keep r.1 = true) : (maskF keep rs h)[id]? = h[id]? := (maskF_get (keep := keep) rs h id).2.2 h1

theorem maskF_len {keep : Nat → Bool} {rs : List (Nat × Nat × Nat)} {h : Heap} : (maskF keep rs h).length = h.length := (maskF_get (keep := keep) rs h 0).1

theorem SR.below {ι : Map} {n L : Nat} {s : Slots} {a : Act} (hs : SR ι n s a) (hb : bdS L s = true) : SR (ι.below L) n s a := by
  refine ⟨hs.1, hs.2.1, fun t v hv => bdV_VR 8 ?_ (hs.2.2 t v hv)⟩
  have mem : ∀ (s : Slots), getS s t = some v → (t, some v) ∈ s := by
    intro s
    induction s with
    | nil => intro h; simp [getS] at h
    | cons p r ih =>
      intro h
      obtain ⟨u, x⟩ := p
      rw [getS_cons] at h
      by_cases e : t = u
      · subst e; rw [if_pos rfl] at h; subst h; exact List.mem_cons_self ..
      · rw [if_neg e] at h; exact List.mem_cons_of_mem _ (ih h)
  exact List.all_eq_true.1 hb _ (mem s hv)

/-- Two maps, one within a range. -/
def Map.mix (ι ι1 : Map) (L m : Nat) : Map := fun id => if L ≤ id ∧ id < L + m then ι1 id else ι id

theorem HR_merge {ι ι1 : Map} {base : Nat} {HD HD' mk N : Heap} {w w' : World} (hr : HR ι base HD w) (hr1 : HR ι1 base (mk ++ N) w') (hf : Fr (fun _ => False) w w') (le1 : Map.le ι1 (ι.mix ι1 mk.length N.length)) (le2 : Map.le ι (ι.mix ι1 mk.length N.length))
    (new1 : ∀ (id : Nat) (l : Loc), mk.length ≤ id → ι1 id = some l → w.heap.size ≤ l.b) (hlen : HD'.length = HD.length) (hfit : mk.length + N.length ≤ HD.length)
    (hH : ∀ (id : Nat) (blk : Blk), HD'[id]? = some (some blk) → ((mk.length ≤ id ∧ id < mk.length + N.length) ∧ (mk ++ N)[id]? = some (some blk)) ∨ (¬ (mk.length ≤ id ∧ id < mk.length + N.length) ∧ HD[id]? = some (some blk))) :
    HR (ι.mix ι1 mk.length N.length) base HD' w' := by
  have inn : ∀ {id : Nat}, (mk.length ≤ id ∧ id < mk.length + N.length) → ι.mix ι1 mk.length N.length id = ι1 id := fun h => by simp only [Map.mix]; rw [if_pos h]
  have out : ∀ {id : Nat}, ¬ (mk.length ≤ id ∧ id < mk.length + N.length) → ι.mix ι1 mk.length N.length id = ι id := fun h => by simp only [Map.mix]; rw [if_neg h]
  refine ⟨fun id blk hb => ?_, fun id l hl => ?_, fun id id' blk blk' l l' hb hb' ho hne hl hl' => ?_, fun id blk l hb ho hl => ?_, Nat.le_trans hr.base_le hf.size⟩
  · rcases hH id blk hb with ⟨hi, hb⟩ | ⟨hi, hb⟩
    · rcases hr1.live id blk hb with ⟨p1, p2⟩ | ⟨l, p1, p2⟩
      · exact .inl ⟨by rw [inn hi]; exact p1, p2⟩
      · exact .inr ⟨l, by rw [inn hi]; exact p1, p2.mono le1⟩
    · rcases hr.live id blk hb with ⟨p1, p2⟩ | ⟨l, p1, p2⟩
      · exact .inl ⟨by rw [out hi]; exact p1, p2⟩
      · exact .inr ⟨l, by rw [out hi]; exact p1, (p2.same (hf.same _ (hr.dom id l p1).2 (fun x => x))).mono le2⟩
  · by_cases hi : mk.length ≤ id ∧ id < mk.length + N.length
    · rw [inn hi] at hl
      have := (hr1.dom id l hl).2
      exact ⟨by omega, this⟩
    · rw [out hi] at hl
      have := hr.dom id l hl
      exact ⟨by omega, Nat.lt_of_lt_of_le this.2 hf.size⟩
  · rcases hH id blk hb with ⟨hi, hb⟩ | ⟨hi, hb⟩ <;> rcases hH id' blk' hb' with ⟨hi', hb'⟩ | ⟨hi', hb'⟩
    · rw [inn hi] at hl; rw [inn hi'] at hl'
      exact hr1.inj id id' blk blk' l l' hb hb' ho hne hl hl'
    · rw [inn hi] at hl; rw [out hi'] at hl'
      have := new1 id l hi.1 hl
      have := (hr.dom id' l' hl').2
      omega
    · rw [out hi] at hl; rw [inn hi'] at hl'
      have := new1 id' l' hi'.1 hl'
      have := (hr.dom id l hl).2
      omega
    · rw [out hi] at hl; rw [out hi'] at hl'
      exact hr.inj id id' blk blk' l l' hb hb' ho hne hl hl'
  · rcases hH id blk hb with ⟨hi, hb⟩ | ⟨hi, hb⟩
    · rw [inn hi] at hl; exact hr1.own id blk l hb ho hl
    · rw [out hi] at hl; exact hr.own id blk l hb ho hl

section
variable {P : Program} {n : Nat} {ops : Array Oper} {b : Array Nat} {ss : Nat → Slots} {hh : Nat → Heap} {rr : Nat → List (Nat × Nat × Nat)}

/-- The text's run. -/
def Run (P : Program) (n : Nat) (ops : Array Oper) (b : Array Nat) (ss : Nat → Slots) (hh : Nat → Heap) (rr : Nat → List (Nat × Nat × Nat)) : Prop :=
  ∀ i o, i < ops.size → ops[i]? = some o → StepTr P n ops b i o (ss i) (hh i) (rr i) (ss (i + 1)) (hh (i + 1)) (rr (i + 1))

def Md (ops : Array Oper) (b : Array Nat) (rr : Nat → List (Nat × Nat × Nat)) (i : Nat) : Prop := barrier b ops.size i = true ∧ rr (i + 1) = []

theorem Run.at (hr : Run P n ops b ss hh rr) {i : Nat} (hi : i < ops.size) : ∃ o, ops[i]? = some o ∧ StepTr P n ops b i o (ss i) (hh i) (rr i) (ss (i + 1)) (hh (i + 1)) (rr (i + 1)) :=
  ⟨ops[i], Array.getElem?_eq_getElem hi, hr i _ hi (Array.getElem?_eq_getElem hi)⟩

theorem StepTr.shape {j : Nat} {o : Oper} {s s' : Slots} {h h' : Heap} {rs rs' : List (Nat × Nat × Nat)} (hs : StepTr P n ops b j o s h rs s' h' rs') :
    (∃ N, h' = h ++ N ∧ ((rs' = rs ∧ N = []) ∨ rs' = (j, h.length, N.length) :: rs)) ∨ (barrier b ops.size j = true ∧ rs' = [] ∧ h.length ≤ h'.length) := by
  cases hs with
  | skip => exact .inl ⟨[], by simp, .inl ⟨rfl, rfl⟩⟩
  | non => exact .inl ⟨_, rfl, .inr rfl⟩
  | mod h0 hw hbar ho hlen hl => exact .inr ⟨hbar, rfl, hlen⟩

theorem Run.len (hr : Run P n ops b ss hh rr) {i : Nat} (hi : i < ops.size) : (hh i).length ≤ (hh (i + 1)).length := by
  obtain ⟨o, _, hs⟩ := hr.at hi
  rcases hs.shape with ⟨N, e, _⟩ | ⟨_, _, e⟩
  · rw [e]; simp
  · exact e

theorem Run.len0 (hr : Run P n ops b ss hh rr) : ∀ {i : Nat}, i ≤ ops.size → (hh 0).length ≤ (hh i).length
  | 0, _ => Nat.le_refl _
  | i + 1, hi => Nat.le_trans (hr.len0 (by omega)) (hr.len (by omega))

theorem Run.ranges (hr : Run P n ops b ss hh rr) (h0 : rr 0 = []) : ∀ {i : Nat}, i ≤ ops.size → ∀ r ∈ rr i, r.1 < i ∧ r.2.1 + r.2.2 ≤ (hh i).length
  | 0, _, r, h => by rw [h0] at h; cases h
  | i + 1, hi, r, h => by
    obtain ⟨o, _, hs⟩ := hr.at (i := i) (by omega)
    have hl := hr.len (i := i) (by omega)
    rcases hs.shape with ⟨N, e, ⟨e2, _⟩ | e2⟩ | ⟨_, e2, _⟩
    · rw [e2] at h; have := hr.ranges h0 (by omega) r h; omega
    · rw [e2] at h
      rcases List.mem_cons.1 h with rfl | h
      · rw [e]; simp
      · have := hr.ranges h0 (by omega) r h; omega
    · rw [e2] at h; cases h

/-- Where no operation writes, the later heap begins with the elder one. -/
theorem Run.begins (hr : Run P n ops b ss hh rr) {i : Nat} : ∀ {m : Nat}, i + m ≤ ops.size → (∀ k, i ≤ k → k < i + m → ¬ Md ops b rr k) → ∃ M E, hh (i + m) = hh i ++ M ∧ rr (i + m) = E ++ rr i ∧
    (∀ r ∈ E, i ≤ r.1 ∧ (hh i).length ≤ r.2.1) ∧ ∀ id, (hh i).length ≤ id → id < (hh (i + m)).length → ∃ r ∈ E, inRange r id
  | 0, _, _ => ⟨[], [], by simp, rfl, (fun r h => by cases h), fun id h1 h2 => by rw [Nat.add_zero] at h2; omega⟩
  | m + 1, hm, hno => by
    obtain ⟨M, E, e1, e2, e3, e4⟩ := hr.begins (i := i) (m := m) (by omega) (fun k h1 h2 => hno k h1 (by omega))
    obtain ⟨o, _, hs⟩ := hr.at (i := i + m) (by omega)
    rcases hs.shape with ⟨N, f1, ⟨f2, f3⟩ | f2⟩ | ⟨f1, f2, f3⟩
    · refine ⟨M, E, by rw [show i + (m + 1) = i + m + 1 by omega, f1, e1, f3]; simp, by rw [show i + (m + 1) = i + m + 1 by omega, f2, e2], e3, fun id h1 h2 => e4 id h1 ?_⟩
      rw [show i + (m + 1) = i + m + 1 by omega, f1, f3] at h2
      simpa using h2
    · refine ⟨M ++ N, (i + m, (hh (i + m)).length, N.length) :: E, by rw [show i + (m + 1) = i + m + 1 by omega, f1, e1]; simp, by rw [show i + (m + 1) = i + m + 1 by omega, f2, e2]; simp, fun r h => ?_, fun id h1 h2 => ?_⟩
      · rcases List.mem_cons.1 h with rfl | h
        · exact ⟨by omega, by rw [e1]; simp⟩
        · exact e3 r h
      · by_cases hi : id < (hh (i + m)).length
        · obtain ⟨r, a, c⟩ := e4 id h1 hi; exact ⟨r, List.mem_cons_of_mem _ a, c⟩
        · refine ⟨_, List.mem_cons_self .., Nat.not_lt.1 hi, ?_⟩
          rw [show i + (m + 1) = i + m + 1 by omega, f1, List.length_append] at h2
          exact h2
    · exact (hno (i + m) (by omega) (by omega) ⟨f1, f2⟩).elim

/-- The next operation that writes. -/
theorem next_md (ops : Array Oper) (b : Array Nat) (rr : Nat → List (Nat × Nat × Nat)) (i : Nat) : ∀ (d : Nat), i + d = ops.size → ∃ m, i + m ≤ ops.size ∧ (∀ k, i ≤ k → k < i + m → ¬ Md ops b rr k) ∧ (i + m = ops.size ∨ Md ops b rr (i + m))
  | 0, h => ⟨0, by omega, fun k _ _ => by omega, .inl (by omega)⟩
  | d + 1, h => by
    by_cases hm : Md ops b rr i
    · exact ⟨0, by omega, fun k _ _ => by omega, .inr hm⟩
    · obtain ⟨m, h1, h2, h3⟩ := next_md ops b rr (i + 1) d (by omega)
      refine ⟨m + 1, by omega, fun k a c => ?_, by rw [show i + (m + 1) = i + 1 + m by omega]; exact h3⟩
      by_cases e : k = i
      · subst e; exact hm
      · exact h2 k (by omega) (by omega)

/-! #### slots -/
def writes (ops : Array Oper) (i t : Nat) : Prop := (ops[i]?).bind (·.dst) = some t

/-- A slot's value, when some operations are done. -/
def sv (ops : Array Oper) (ss : Nat → Slots) (D : Nat → Bool) : Nat → Nat → Option Value
  | 0, t => getS (ss 0) t
  | i + 1, t => if D i = true ∧ (ops[i]?).bind (·.dst) = some t then getS (ss (i + 1)) t else sv ops ss D i t

theorem StepTr.slots {j : Nat} {o : Oper} {s s' : Slots} {h h' : Heap} {rs rs' : List (Nat × Nat × Nat)} (hs : StepTr P n ops b j o s h rs s' h' rs') {t : Nat} (ht : o.dst ≠ some t) : getS s' t = getS s t := by
  have key : ∀ {s0 : Slots} {v : Option Value}, (∀ t, getS s0 t = getS s t) → Laid n s0 o.dst v s' → getS s' t = getS s t := by
    intro s0 v h0 hl
    cases hd : o.dst with
    | none => rw [hd] at hl; simp only [Laid] at hl; rw [hl]; exact h0 t
    | some u =>
      rw [hd] at hl
      simp only [Laid] at hl
      rw [hl.2, getS_cons, if_neg (fun e => ht (by rw [hd, e]))]
      exact h0 t
  cases hs with
  | skip h0 _ hl => exact key h0 hl
  | non h0 _ _ _ _ hl => exact key h0 hl
  | mod h0 _ _ _ _ hl => exact key h0 hl

theorem sv_text (hr : Run P n ops b ss hh rr) {D : Nat → Bool} {t : Nat} : ∀ {j : Nat}, j ≤ ops.size → (∀ i, i < j → writes ops i t → D i = true) → sv ops ss D j t = getS (ss j) t
  | 0, _, _ => rfl
  | j + 1, hj, h => by
    simp only [sv]
    by_cases hw : writes ops j t
    · rw [if_pos ⟨h j (by omega) hw, hw⟩]
    · rw [if_neg (fun x => hw x.2), sv_text hr (by omega) (fun i hi => h i (by omega))]
      obtain ⟨o, ho, hs⟩ := hr.at (i := j) (by omega)
      exact (hs.slots (fun e => hw (by simp [writes, ho, e]))).symm

theorem sv_later {D : Nat → Bool} {t j : Nat} : ∀ {m : Nat}, (∀ i, j ≤ i → i < j + m → writes ops i t → D i = false) → sv ops ss D (j + m) t = sv ops ss D j t
  | 0, _ => rfl
  | m + 1, h => by
    rw [show j + (m + 1) = j + m + 1 by omega]
    simp only [sv]
    rw [if_neg, sv_later (fun i h1 h2 => h i h1 (by omega))]
    rintro ⟨h1, h2⟩
    rw [h (j + m) (by omega) (by omega) h2] at h1
    cases h1

theorem sv_congr {D D' : Nat → Bool} {t : Nat} : ∀ {j : Nat}, (∀ i, i < j → writes ops i t → D' i = D i) → sv ops ss D' j t = sv ops ss D j t
  | 0, _ => rfl
  | j + 1, h => by
    simp only [sv]
    rw [sv_congr (fun i hi => h i (by omega))]
    by_cases hw : writes ops j t
    · rw [h j (by omega) hw]
    · rw [if_neg (fun x => hw x.2), if_neg (fun x => hw x.2)]

/-! #### order -/
theorem edges_spec (he : edgesOK ops = true) {j : Nat} {o : Oper} (ho : ops[j]? = some o) {e : Edge} (hm : e ∈ o.after) (hb : Region.binds .any e = true) : e.on < j := by
  have hj := (Array.getElem?_eq_some_iff.1 ho).1
  have := List.all_eq_true.1 he j (List.mem_range.2 hj)
  rw [ho] at this
  simp only at this
  have := List.all_eq_true.1 this e (by simpa using hm)
  rw [hb] at this
  simp only [Bool.not_true, Bool.false_or] at this
  exact blt_true this

theorem before_lt (he : edgesOK ops = true) : ∀ (j : Nat) {i : Nat}, ((Region.before ops).getD j 0).testBit i = true → i < j ∧ j < ops.size := by
  intro j
  induction j using Nat.strongRecOn with
  | _ j ih =>
    intro i h
    have hj : j < ops.size := by
      rcases Nat.lt_or_ge j ops.size with h1 | h1
      · exact h1
      · exfalso
        have hsz : (Region.before ops).size = ops.size := by
          have : ∀ (l : List Oper) (acc : Array Nat), (l.foldl (fun acc o => acc.push (o.after.foldl (fun s e => if Region.binds .any e then s ||| 2 ^ e.on ||| acc.getD e.on 0 else s) 0)) acc).size = acc.size + l.length := by
            intro l
            induction l with
            | nil => intro acc; rfl
            | cons x l ih => intro acc; rw [List.foldl_cons, ih]; simp; omega
          unfold Region.before
          rw [← Array.foldl_toList, this]
          simp
        rw [Array.getD_eq_getD_getElem?, Array.getElem?_eq_none (by omega)] at h
        simp at h
    obtain ⟨e, he1, he2, he3⟩ := before_spec ops j i ops[j] (Array.getElem?_eq_getElem hj) h
    have hlt := edges_spec he (Array.getElem?_eq_getElem hj) he1 he2
    rcases he3 with rfl | ⟨_, h3⟩
    · exact ⟨hlt, hj⟩
    · have := (ih _ hlt h3).1; exact ⟨by omega, hj⟩

theorem slots_ordered (hk : slotsOK ops (Region.before ops) = true) {i j t : Nat} {o : Oper} (ho : ops[j]? = some o) (ht : t ∈ namesOf ops o) (hw : writes ops i t) (hne : i ≠ j) :
    ((Region.before ops).getD j 0).testBit i = true ∨ ((Region.before ops).getD i 0).testBit j = true := by
  have hj := (Array.getElem?_eq_some_iff.1 ho).1
  have hi : i < ops.size := by
    unfold writes at hw
    cases hx : ops[i]? with
    | none => rw [hx] at hw; simp at hw
    | some x => exact (Array.getElem?_eq_some_iff.1 hx).1
  have := List.all_eq_true.1 hk j (List.mem_range.2 hj)
  rw [ho] at this
  simp only at this
  have := List.all_eq_true.1 this i (List.mem_range.2 hi)
  rw [show (ops[i]?).bind (·.dst) = some t from hw] at this
  simp only [Bool.or_eq_true] at this
  rcases this with h | h
  · exact (hne (beq_true h)).elim
  · rcases h with h | h
    · exfalso
      rw [Bool.not_eq_true'] at h
      exact memN_false h ht
    · simpa [orderedB] using h

theorem barrier_spec {q : Nat} (hq : barrier b ops.size q = true) {i : Nat} (hi : i < ops.size) (hne : i ≠ q) : (i < q → (b.getD q 0).testBit i = true) ∧ (q < i → (b.getD i 0).testBit q = true) := by
  have := List.all_eq_true.1 hq i (List.mem_range.2 hi)
  simp only [Bool.or_eq_true] at this
  rcases this with h | h
  · exact (hne (beq_true h)).elim
  · cases hb : Nat.blt i q with
    | true => rw [hb, cond_true] at h; exact ⟨fun _ => h, fun h2 => by have := blt_true hb; omega⟩
    | false => rw [hb, cond_false] at h; exact ⟨fun h2 => by have := blt_false hb; omega, fun _ => h⟩

/-- What holds when some operations are done. -/
structure Inv (n : Nat) (ops : Array Oper) (b : Array Nat) (ss : Nat → Slots) (hh : Nat → Heap) (rr : Nat → List (Nat × Nat × Nat)) (D : Nat → Bool) (z : Nat) (ι0 : Map) (base : Nat) (w0 : World) (ι : Map) (a : Act) (w : World) : Prop where
  hz : z ≤ ops.size
  below : ∀ i, D i = true → i < z
  mds : ∀ i, i < z → Md ops b rr i → D i = true
  zz : z = ops.size ∨ Md ops b rr z
  clo : ∀ j i, D j = true → (b.getD j 0).testBit i = true → D i = true
  heap : HR ι base (maskF D (rr z) (hh z)) w
  none : ∀ r ∈ rr z, D r.1 = false → ∀ id, inRange r id → ι id = none
  size : a.tmps.size = n
  defers : a.defers = []
  slots : ∀ (t : Nat) (u : Value), sv ops ss D ops.size t = some u → VR ι u (a.tmps.getD t undef)
  le : Map.le ι0 ι
  new : ∀ (id : Nat) (l : Loc), ι id = some l → ι0 id = some l ∨ ((hh 0).length ≤ id ∧ (w0.heap.size ≤ l.b ∨ mods ι0 (hh 0) l.b))
  fr : Fr (mods ι0 (hh 0)) w0 w
  mo : ∀ b', mods ι (maskF D (rr z) (hh z)) b' → b' < w0.heap.size → mods ι0 (hh 0) b'

def upd (D : Nat → Bool) (i : Nat) : Nat → Bool := fun k => D k || k == i

theorem upd_true {D : Nat → Bool} {i k : Nat} : upd D i k = true ↔ D k = true ∨ k = i := by simp [upd]
theorem upd_false {D : Nat → Bool} {i k : Nat} : upd D i k = false ↔ D k = false ∧ k ≠ i := by simp [upd]

theorem mods_live {ι : Map} {h h' : Heap} (hs : ∀ (id : Nat) (blk : Blk), h'[id]? = some (some blk) → h[id]? = some (some blk)) {b' : Nat} (hm : mods ι h' b') : mods ι h b' := by
  obtain ⟨id, blk, l, hb, r⟩ := hm
  exact ⟨id, blk, l, hs id blk hb, r⟩

/-- The slots that an operation names. -/
theorem Inv.named (hr : Run P n ops (Region.before ops) ss hh rr) (hk : slotsOK ops (Region.before ops) = true) (he : edgesOK ops = true) {D : Nat → Bool} {z : Nat} {ι0 ι : Map} {base : Nat} {w0 w : World} {a : Act}
    (hi : Inv n ops (Region.before ops) ss hh rr D z ι0 base w0 ι a w) {i : Nat} {o : Oper} (ho : ops[i]? = some o) (hD : D i = false) (hdep : ∀ k, ((Region.before ops).getD i 0).testBit k = true → D k = true) :
    SR ι n (restrS (namesOf ops o) (ss i)) a := by
  have hlt := (Array.getElem?_eq_some_iff.1 ho).1
  refine ⟨hi.size, hi.defers, fun t v hv => hi.slots t v ?_⟩
  rw [restrS_get] at hv
  split at hv
  · rename_i ht
    have h1 : sv ops ss D ops.size t = sv ops ss D i t := by
      have := sv_later (ops := ops) (ss := ss) (D := D) (t := t) (j := i) (m := ops.size - i) (fun k hk1 hk2 hw => by
        by_cases e : k = i
        · subst e; exact hD
        · rcases slots_ordered hk ho ht hw e with h | h
          · have := (before_lt he i h).1; omega
          · cases hDk : D k with
            | false => rfl
            | true => rw [hi.clo k i hDk h] at hD; cases hD)
      rwa [show i + (ops.size - i) = ops.size by omega] at this
    rw [h1, sv_text hr (by omega) (fun k hk1 hw => by
      rcases slots_ordered hk ho ht hw (by omega) with h | h
      · exact hdep k h
      · have := (before_lt he k h).1; omega)]
    exact hv
  · cases hv

/-- The slots behind an operation. -/
theorem Inv.slots_upd (_hr : Run P n ops (Region.before ops) ss hh rr) (hk : slotsOK ops (Region.before ops) = true) (he : edgesOK ops = true) {D : Nat → Bool} {z : Nat} {ι0 ι ι' : Map} {base : Nat} {w0 w : World} {a : Act}
    (hi : Inv n ops (Region.before ops) ss hh rr D z ι0 base w0 ι a w) (hle : Map.le ι ι') {i : Nat} {o : Oper} (ho : ops[i]? = some o) (hD : D i = false) {s0 : Slots} {v v' : Value} (hl : Laid n s0 o.dst (some v) (ss (i + 1))) (hv : VR ι' v v') :
    ∀ (t : Nat) (u : Value), sv ops ss (upd D i) ops.size t = some u → VR ι' u ((a.put o.dst v').tmps.getD t undef) := by
  have hlt := (Array.getElem?_eq_some_iff.1 ho).1
  intro t u hu
  by_cases hw : writes ops i t
  · have hd : o.dst = some t := by simpa [writes, ho] using hw
    rw [hd] at hl
    simp only [Laid] at hl
    have h1 : sv ops ss (upd D i) ops.size t = sv ops ss (upd D i) (i + 1) t := by
      have := sv_later (ops := ops) (ss := ss) (D := upd D i) (t := t) (j := i + 1) (m := ops.size - (i + 1)) (fun k hk1 hk2 hwk => by
        have hok : ∃ o', ops[k]? = some o' := ⟨ops[k], Array.getElem?_eq_getElem (by omega)⟩
        obtain ⟨o', ho'⟩ := hok
        have ht : t ∈ namesOf ops o' := by
          have : o'.dst = some t := by simpa [writes, ho'] using hwk
          simp [namesOf, this]
        rw [upd_false]
        refine ⟨?_, by omega⟩
        rcases slots_ordered hk ho' ht hw (by omega) with h | h
        · cases hDk : D k with
          | false => rfl
          | true => rw [hi.clo k i hDk h] at hD; cases hD
        · have := (before_lt he i h).1; omega)
      rwa [show i + 1 + (ops.size - (i + 1)) = ops.size by omega] at this
    rw [h1] at hu
    simp only [sv] at hu
    rw [if_pos ⟨by rw [upd_true]; exact .inr rfl, hw⟩, hl.2, getS_cons, if_pos rfl] at hu
    cases hu
    simp only [Act.put, hd]
    rw [Array.getD_eq_getD_getElem?, Array.getElem?_setIfInBounds_self_of_lt (by rw [hi.size]; exact hl.1)]
    exact hv
  · have h1 : sv ops ss (upd D i) ops.size t = sv ops ss D ops.size t := sv_congr (fun k hk1 hwk => by
      simp only [upd]
      by_cases e : k = i
      · subst e; exact (hw hwk).elim
      · simp [e])
    rw [h1] at hu
    have := (hi.slots t u hu).mono hle
    cases hd : o.dst with
    | none => simpa [Act.put] using this
    | some x =>
      have hne : x ≠ t := fun e => hw (by simp [writes, ho, hd, e])
      simp only [Act.put]
      rw [Array.getD_eq_getD_getElem?, Array.getElem?_setIfInBounds_ne hne, ← Array.getD_eq_getD_getElem?]
      exact this

theorem Inv.put_size {a : Act} {d : Option Tmp} {v : Value} (h : a.tmps.size = n) : (a.put d v).tmps.size = n := by cases d <;> simp [Act.put, h]
theorem Inv.put_defers {a : Act} {d : Option Tmp} {v : Value} (h : a.defers = []) : (a.put d v).defers = [] := by cases d <;> simp [Act.put, h]

/-- One operation more. -/
theorem Inv.step (hr : Run P n ops (Region.before ops) ss hh rr) (h0 : rr 0 = []) (hk : slotsOK ops (Region.before ops) = true) (he : edgesOK ops = true) {D : Nat → Bool} {z : Nat} {ι0 ι : Map} {base : Nat} {w0 w : World} {a : Act}
    (hi : Inv n ops (Region.before ops) ss hh rr D z ι0 base w0 ι a w) {i : Nat} {o : Oper} (ho : ops[i]? = some o) (hD : D i = false) (hdep : ∀ k, ((Region.before ops).getD i 0).testBit k = true → D k = true) {K : Act → World → Prop} {Q : Exit → Act → World → Prop}
    (hK : ∀ z' ι' a' w', Inv n ops (Region.before ops) ss hh rr (upd D i) z' ι0 base w0 ι' a' w' → K a' w') : wpOp P ops Q i K a w := by
  have hlt := (Array.getElem?_eq_some_iff.1 ho).1
  have hst := hr i o hlt ho
  have hnm := hi.named hr hk he ho hD hdep
  have cloD : ∀ j k, upd D i j = true → ((Region.before ops).getD j 0).testBit k = true → upd D i k = true := by
    intro j k hj hb
    rw [upd_true] at hj ⊢
    rcases hj with hj | rfl
    · exact .inl (hi.clo j k hj hb)
    · exact .inl (hdep k hb)
  have zi : z ≤ i → z = i := by
    intro hle
    rcases hi.zz with e | hm
    · omega
    · by_cases e : i = z
      · exact e.symm
      · exfalso
        have := hdep z ((barrier_spec hm.1 hlt e).2 (by omega))
        have := hi.below z this
        omega
  simp only [wpOp, ho]
  by_cases hmd : Md ops (Region.before ops) rr i
  · -- it writes: all that stand ahead of it are done, and nothing else
    have hzi : z = i := by
      rcases Nat.lt_or_ge i z with h | h
      · rw [hi.mds i h hmd] at hD; cases hD
      · exact zi h
    subst hzi
    have allD : ∀ k, k < z → D k = true := fun k hk1 => hdep k ((barrier_spec hmd.1 (by omega) (by omega)).1 hk1)
    have rng := hr.ranges h0 (i := z) (by omega)
    have same : ∀ id : Nat, (maskF D (rr z) (hh z))[id]? = (hh z)[id]? := fun id => maskF_of fun r hr' _ => allD _ (rng r hr').1
    have hHR : HR ι base (hh z) w := HR_ext hi.heap (fun id blk h => by rw [same]; exact h) (by rw [maskF_len]; exact Nat.le_refl _)
    obtain ⟨m, m1, m2, m3⟩ := next_md ops (Region.before ops) rr (z + 1) (ops.size - (z + 1)) (by omega)
    obtain ⟨M, E, f1, f2, f3, f4⟩ := hr.begins (i := z + 1) (m := m) m1 m2
    rw [hmd.2, List.append_nil] at f2
    have DE : ∀ k, z + 1 ≤ k → upd D z k = false := by
      intro k hk1
      rw [upd_false]
      refine ⟨?_, by omega⟩
      cases hDk : D k with
      | false => rfl
      | true => have := hi.below k hDk; omega
    -- the heap behind it
    have live : ∀ (id : Nat) (blk : Blk), (maskF (upd D z) (rr (z + 1 + m)) (hh (z + 1 + m)))[id]? = some (some blk) → (hh (z + 1))[id]? = some (some blk) := by
      intro id blk hb
      obtain ⟨g1, g2⟩ := maskF_live hb
      have hidl := (List.getElem?_eq_some_iff.1 g2).1
      by_cases hid : id < (hh (z + 1)).length
      · rw [f1, List.getElem?_append_left hid] at g2; exact g2
      · exfalso
        obtain ⟨r, hr1, hr2⟩ := f4 id (by omega) hidl
        have := g1 r (by rw [f2]; exact hr1) hr2
        rw [DE r.1 (f3 r hr1).1] at this
        cases this
    -- put together
    have fin : ∀ {ι' : Map} {a' : Act} {w' : World}, Map.le ι ι' → HR ι' base (hh (z + 1)) w' → (∀ (id : Nat) (l : Loc), ι' id = some l → ι id = some l ∨ ((hh z).length ≤ id ∧ (w.heap.size ≤ l.b ∨ mods ι (hh z) l.b))) →
        Fr (mods ι (hh z)) w w' → (∀ b', mods ι' (hh (z + 1)) b' → b' < w.heap.size → mods ι (hh z) b') → a'.tmps.size = n → a'.defers = [] → (∀ (t : Nat) (u : Value), sv ops ss (upd D z) ops.size t = some u → VR ι' u (a'.tmps.getD t undef)) → K a' w' := by
      intro ι' a' w' hle hHR' hnew hfr hmo hsz hdf hsl
      have moz : ∀ b', mods ι (hh z) b' → b' < w0.heap.size → mods ι0 (hh 0) b' := fun b' hb' => hi.mo b' (mods_live (fun id blk h => by rw [same]; exact h) hb')
      refine hK (z + 1 + m) ι' a' w' ⟨m1, fun k hk1 => ?_, fun k hk1 hk2 => ?_, m3, cloD, HR_ext hHR' live (by rw [maskF_len, f1]; simp), fun r hr1 hr2 id hid => ?_, hsz, hdf, hsl, Map.le_trans hi.le hle, fun id l hl => ?_, hi.fr.trans hfr (fun b' hb' hm => moz b' hm hb'), fun b' hb' hlt' => ?_⟩
      · rw [upd_true] at hk1
        rcases hk1 with h | rfl
        · have := hi.below k h; omega
        · omega
      · rw [upd_true]
        by_cases e : k = z
        · exact .inr e
        · rcases Nat.lt_or_ge k z with h | h
          · exact .inl (allD k h)
          · exact (m2 k (by omega) hk1 hk2).elim
      · rw [f2] at hr1
        have := (f3 r hr1).2
        exact hHR'.fresh (by unfold inRange at hid; omega)
      · rcases hnew id l hl with h | ⟨h, h2⟩
        · exact hi.new id l h
        · refine .inr ⟨Nat.le_trans (hr.len0 (by omega)) h, ?_⟩
          by_cases hb : w0.heap.size ≤ l.b
          · exact .inl hb
          · rcases h2 with h2 | h2
            · have := hi.fr.size; omega
            · exact .inr (moz _ h2 (by omega))
      · exact moz b' (hmo b' (mods_live live hb') (Nat.lt_of_lt_of_le hlt' hi.fr.size)) hlt'
    generalize hsn : ss (z + 1) = sn at hst
    generalize hhn : hh (z + 1) = hn at hst
    generalize hrn : rr (z + 1) = rn at hst
    have hrn0 : rn = [] := hrn.symm.trans hmd.2
    cases hst with
    | non g0 gw gs gb go gl => cases hrn0
    | skip g0 gw gl =>
      rw [if_neg (by rw [gw ι a hnm]; simp)]
      refine fin (Map.le_refl _) (by rw [hhn]; exact hHR) (fun id l hl => .inl hl) (Fr.refl _ _) (fun b' hb' _ => by rw [hhn] at hb'; exact hb') (Inv.put_size hi.size) (Inv.put_defers hi.defers) ?_
      exact hi.slots_upd hr hk he (Map.le_refl _) ho hD (by rw [hsn]; exact gl) (VR.undef ι)
    | mod g0 gw gb go glen gl =>
      rw [if_pos (gw ι a hnm)]
      rename_i s0 v
      have hnm' : SR ι n (restrS (namesOf ops o) s0) a := hnm.congr (fun t => by rw [restrS_get, restrS_get, g0])
      refine .inl (go ι base w a hnm' hHR _ _ fun v' w' ⟨ι', q⟩ => ?_)
      refine fin q.le (by rw [hhn]; exact q.hr) (fun id l hl => by simpa using q.new id l hl) (by simpa using q.fr) (fun b' hb' => q.mo b' (by rw [← hhn]; exact hb')) (Inv.put_size hi.size) (Inv.put_defers hi.defers) ?_
      exact hi.slots_upd hr hk he q.le ho hD (by rw [hsn]; exact gl) q.vr
  · -- it only adds
    have hiz : i < z := by
      rcases Nat.lt_or_ge i z with h | h
      · exact h
      · have := zi h
        subst this
        rcases hi.zz with e | hm
        · omega
        · exact (hmd hm).elim
    have noMd : ∀ k, i + 1 ≤ k → k < i + 1 + (z - (i + 1)) → ¬ Md ops (Region.before ops) rr k := by
      intro k hk1 hk2 hm
      have hDk := hi.mds k (by omega) hm
      have hz := hi.hz
      rw [hi.clo k i hDk ((barrier_spec hm.1 hlt (by omega)).1 (by omega))] at hD
      cases hD
    have hz := hi.hz
    obtain ⟨M, E, f1, f2, f3, f4⟩ := hr.begins (i := i + 1) (m := z - (i + 1)) (by omega) noMd
    rw [show i + 1 + (z - (i + 1)) = z by omega] at f1 f2 f4
    have rng := hr.ranges h0 (i := i) (by omega)
    have hlen := hr.len (i := i) hlt
    have mdsD : ∀ k, k < z → Md ops (Region.before ops) rr k → upd D i k = true := fun k h1 h2 => by rw [upd_true]; exact .inl (hi.mds k h1 h2)
    have belowD : ∀ k, upd D i k = true → k < z := fun k hk1 => by
      rw [upd_true] at hk1
      rcases hk1 with h | rfl
      · exact hi.below k h
      · exact hiz
    generalize hsn : ss (i + 1) = sn at hst
    generalize hhn : hh (i + 1) = hn at hst
    generalize hrn : rr (i + 1) = rn at hst
    cases hst with
    | skip g0 gw gl =>
      rw [if_neg (by rw [gw ι a hnm]; simp)]
      have idx : ∀ r ∈ rr z, r.1 ≠ i := by
        intro r hr1
        rw [f2, hrn] at hr1
        rcases List.mem_append.1 hr1 with h | h
        · have := (f3 r h).1; omega
        · have := (rng r h).1; omega
      have live : ∀ (id : Nat) (blk : Blk), (maskF (upd D i) (rr z) (hh z))[id]? = some (some blk) → (maskF D (rr z) (hh z))[id]? = some (some blk) := by
        intro id blk hb
        obtain ⟨g1, g2⟩ := maskF_live hb
        rw [maskF_of fun r hr1 hr2 => ?_]
        · exact g2
        · have := g1 r hr1 hr2
          rw [upd_true] at this
          rcases this with h | h
          · exact h
          · exact (idx r hr1 h).elim
      refine hK z ι _ w ⟨hi.hz, belowD, mdsD, hi.zz, cloD, HR_ext hi.heap live (by rw [maskF_len, maskF_len]; exact Nat.le_refl _), fun r hr1 hr2 => hi.none r hr1 (upd_false.1 hr2).1, Inv.put_size hi.size, Inv.put_defers hi.defers,
        hi.slots_upd hr hk he (Map.le_refl _) ho hD (by rw [hsn]; exact gl) (VR.undef ι), hi.le, hi.new, hi.fr, fun b' hb' => hi.mo b' (mods_live live hb')⟩
    | non g0 gw gs gb go gl =>
      rename_i s0 v N
      rw [if_pos (gw ι a hnm)]
      -- what it may see is there
      have hml : (maskF (fun k => ((Region.before ops).getD i 0).testBit k) (rr i) (hh i)).length = (hh i).length := maskF_len
      have hzl : (hh i).length + N.length ≤ (hh z).length := by rw [f1, hhn]; simp
      have rzi : ∀ r ∈ rr z, r.1 = i → r = (i, (hh i).length, N.length) := by
        intro r hr1 e
        rw [f2, hrn] at hr1
        rcases List.mem_append.1 hr1 with h | h
        · have := (f3 r h).1; omega
        · rcases List.mem_cons.1 h with rfl | h
          · rfl
          · have := (rng r h).1; omega
      have seen : ∀ (id : Nat) (blk : Blk), (maskF (fun k => ((Region.before ops).getD i 0).testBit k) (rr i) (hh i))[id]? = some (some blk) → (maskF D (rr z) (hh z))[id]? = some (some blk) := by
        intro id blk hb
        obtain ⟨g1, g2⟩ := maskF_live hb
        have hid := (List.getElem?_eq_some_iff.1 g2).1
        rw [maskF_of fun r hr1 hr2 => ?_]
        · rw [f1, hhn, List.getElem?_append_left (by simp; omega), List.getElem?_append_left hid]; exact g2
        · rw [f2, hrn] at hr1
          rcases List.mem_append.1 hr1 with h | h
          · have h9 := (f3 r h).2; rw [hhn, List.length_append] at h9; unfold inRange at hr2; omega
          · rcases List.mem_cons.1 h with rfl | h
            · unfold inRange at hr2; simp only at hr2; omega
            · exact hdep _ (g1 r h hr2)
      have hsub := HR_sub hi.heap seen (by rw [hml]; exact gb)
      rw [hml] at hsub
      have hnm' : SR ι n (restrS (namesOf ops o) s0) a := hnm.congr (fun t => by rw [restrS_get, restrS_get, g0])
      refine .inl (go _ base w a (hnm'.below gs) hsub _ _ fun v' w' ⟨ι1, q⟩ => ?_)
      simp only [Bool.false_eq_true, if_false] at q
      generalize hmk : maskF (fun k => ((Region.before ops).getD i 0).testBit k) (rr i) (hh i) = mk at *
      have domN : ∀ (id : Nat) (l : Loc), ι1 id = some l → id < mk.length + N.length := fun id l hl => by have := (q.hr.dom id l hl).1; rwa [List.length_append] at this
      have le1 : Map.le ι1 (ι.mix ι1 mk.length N.length) := by
        intro id l hl
        have h2 := domN id l hl
        simp only [Map.mix]
        by_cases h3 : mk.length ≤ id
        · rw [if_pos ⟨h3, h2⟩]; exact hl
        · rw [if_neg (by omega)]
          rcases q.new id l hl with h | ⟨h, _⟩
          · exact Map.below_le _ _ _ _ h
          · omega
      have rin : (i, (hh i).length, N.length) ∈ rr z := by rw [f2, hrn]; exact List.mem_append_right _ (List.mem_cons_self ..)
      have le2 : Map.le ι (ι.mix ι1 mk.length N.length) := by
        intro id l hl
        simp only [Map.mix]
        by_cases h3 : mk.length ≤ id ∧ id < mk.length + N.length
        · exfalso
          rw [hi.none _ rin hD id (by unfold inRange; simp only; omega)] at hl
          cases hl
        · rw [if_neg h3]; exact hl
      have new1 : ∀ (id : Nat) (l : Loc), mk.length ≤ id → ι1 id = some l → w.heap.size ≤ l.b := by
        intro id l h3 hl
        rcases q.new id l hl with h | ⟨_, h | h⟩
        · simp only [Map.below] at h
          rw [if_neg (by omega)] at h
          cases h
        · exact h
        · exact h.elim
      have hHH : ∀ (id : Nat) (blk : Blk), (maskF (upd D i) (rr z) (hh z))[id]? = some (some blk) → ((mk.length ≤ id ∧ id < mk.length + N.length) ∧ (mk ++ N)[id]? = some (some blk)) ∨ (¬ (mk.length ≤ id ∧ id < mk.length + N.length) ∧ (maskF D (rr z) (hh z))[id]? = some (some blk)) := by
        intro id blk hb
        obtain ⟨g1, g2⟩ := maskF_live hb
        by_cases h3 : mk.length ≤ id ∧ id < mk.length + N.length
        · refine .inl ⟨h3, ?_⟩
          rw [f1, hhn, List.getElem?_append_left (by simp; omega), List.getElem?_append_right (by omega)] at g2
          rw [List.getElem?_append_right h3.1, hml]
          exact g2
        · refine .inr ⟨h3, ?_⟩
          rw [maskF_of fun r hr1 hr2 => ?_]
          · exact g2
          · have := g1 r hr1 hr2
            rw [upd_true] at this
            rcases this with h | h
            · exact h
            · exfalso
              rw [rzi r hr1 h] at hr2
              unfold inRange at hr2
              simp only at hr2
              omega
      have hHR' := HR_merge hi.heap q.hr q.fr le1 le2 new1 (HD' := maskF (upd D i) (rr z) (hh z)) (by rw [maskF_len, maskF_len]) (by rw [maskF_len]; omega) hHH
      refine hK z _ _ w' ⟨hi.hz, belowD, mdsD, hi.zz, cloD, hHR', fun r hr1 hr2 id hid => ?_, Inv.put_size hi.size, Inv.put_defers hi.defers,
        hi.slots_upd hr hk he le2 ho hD (by rw [hsn]; exact gl) (q.vr.mono le1), Map.le_trans hi.le le2, fun id l hl => ?_, hi.fr.trans q.fr (fun _ _ h => h.elim), fun b' hb' hlt' => ?_⟩
      · obtain ⟨d1, d2⟩ := upd_false.1 hr2
        have hnot : ¬ (mk.length ≤ id ∧ id < mk.length + N.length) := by
          rw [f2, hrn] at hr1
          unfold inRange at hid
          rcases List.mem_append.1 hr1 with h | h
          · have h9 := (f3 r h).2; rw [hhn, List.length_append] at h9; omega
          · rcases List.mem_cons.1 h with rfl | h
            · exact (d2 rfl).elim
            · have := (rng r h).2; omega
        simp only [Map.mix]
        rw [if_neg hnot]
        exact hi.none r hr1 d1 id hid
      · by_cases h3 : mk.length ≤ id ∧ id < mk.length + N.length
        · simp only [Map.mix] at hl
          rw [if_pos h3] at hl
          have := new1 id l h3.1 hl
          have := hi.fr.size
          exact .inr ⟨Nat.le_trans (hr.len0 (i := i) (by omega)) (by omega), .inl (by omega)⟩
        · simp only [Map.mix] at hl
          rw [if_neg h3] at hl
          exact hi.new id l hl
      · obtain ⟨id, blk, l, hb, hown, hl, rfl⟩ := hb'
        rcases hHH id blk hb with ⟨h3, h4⟩ | ⟨h3, h4⟩
        · simp only [Map.mix] at hl
          rw [if_pos h3] at hl
          have := new1 id l h3.1 hl
          have := hi.fr.size
          omega
        · simp only [Map.mix] at hl
          rw [if_neg h3] at hl
          exact hi.mo _ ⟨id, blk, l, h4, hown, hl, rfl⟩ hlt'
    | mod g0 gw gb go glen gl => exact (hmd ⟨gb, hrn⟩).elim

/-- How many are left. -/
def left (D : Nat → Bool) : Nat → Nat
  | 0 => 0
  | m + 1 => left D m + (if D m = true then 0 else 1)

theorem left_le (D : Nat → Bool) : ∀ m, left D m ≤ m
  | 0 => Nat.le_refl _
  | m + 1 => by have := left_le D m; simp only [left]; split <;> omega

theorem left_zero {D : Nat → Bool} : ∀ {m : Nat}, left D m = 0 → ∀ i, i < m → D i = true
  | 0, _, i, hi => by omega
  | m + 1, h, i, hi => by
    simp only [left] at h
    by_cases hd : D m = true
    · rw [if_pos hd] at h
      by_cases e : i = m
      · subst e; exact hd
      · exact left_zero (m := m) (by omega) i (by omega)
    · rw [if_neg hd] at h; omega

theorem left_upd_ge {D : Nat → Bool} {i : Nat} : ∀ {m : Nat}, m ≤ i → left (upd D i) m = left D m
  | 0, _ => rfl
  | m + 1, h => by
    simp only [left]
    rw [left_upd_ge (by omega)]
    have : upd D i m = D m := by simp only [upd]; rw [show (m == i) = false by simp; omega, Bool.or_false]
    rw [this]

theorem left_upd {D : Nat → Bool} {i : Nat} (hD : D i = false) : ∀ {m : Nat}, i < m → left (upd D i) m + 1 = left D m
  | 0, h => by omega
  | m + 1, h => by
    simp only [left]
    by_cases e : m = i
    · subst e
      rw [left_upd_ge (Nat.le_refl _), if_pos (by rw [upd_true]; exact .inr rfl), if_neg (by rw [hD]; simp)]
    · have : upd D i m = D m := by simp only [upd]; rw [show (m == i) = false by simp; exact e, Bool.or_false]
      rw [this]
      have := left_upd hD (m := m) (by omega)
      omega

/-- Every order comes to the same. -/
theorem Inv.any (hr : Run P n ops (Region.before ops) ss hh rr) (h0 : rr 0 = []) (hk : slotsOK ops (Region.before ops) = true) (he : edgesOK ops = true) {ι0 : Map} {base : Nat} {w0 : World} {Q : Exit → Act → World → Prop}
    (hQ : ∀ a' w', StepS ι0 n base (hh 0) w0 (ss ops.size) (hh ops.size) a' w' → Q .normal a' w') :
    ∀ (fuel : Nat) (listed : Array Bool) (z : Nat) (ι : Map) (a : Act) (w : World), listed.size = ops.size → left (fun i => listed.getD i false) ops.size ≤ fuel →
      Inv n ops (Region.before ops) ss hh rr (fun i => listed.getD i false) z ι0 base w0 ι a w → wpAny P .any ops Q fuel listed a w := by
  intro fuel listed z ι a w hsz hfu hi
  -- ready means: nothing that it stands behind is left
  have key : ∀ i, i ∈ Region.ready .any ops listed → (∃ o, ops[i]? = some o) ∧ listed.getD i false = false ∧ ∀ k, ((Region.before ops).getD i 0).testBit k = true → listed.getD k false = true := by
    intro i hm
    obtain ⟨q1, o, q2, q3⟩ := mem_ready.1 hm
    have hlt := (Array.getElem?_eq_some_iff.1 q2).1
    refine ⟨⟨o, q2⟩, ?_, fun k hkb => ?_⟩
    · rw [Array.getD_eq_getD_getElem?, Array.getElem?_eq_getElem (by omega)] at q1 ⊢
      exact q1
    · obtain ⟨e, e1, e2, e3⟩ := before_spec ops i k o q2 hkb
      have hon := q3 e e1 e2
      rcases e3 with e3 | ⟨_, e3⟩
      · rw [← e3]; exact hon
      · exact hi.clo e.on k hon e3
  -- nothing ready: all is done
  have fin : (∀ i, i < ops.size → listed.getD i false = true) → Q .normal a w := by
    intro all
    have hz : z = ops.size := by
      have hzl := hi.hz
      rcases Nat.lt_or_ge z ops.size with h | h
      · have := hi.below z (all z h); omega
      · omega
    subst hz
    have same : ∀ id : Nat, (maskF (fun i => listed.getD i false) (rr ops.size) (hh ops.size))[id]? = (hh ops.size)[id]? := fun id => maskF_of fun r hr1 _ => all _ (hr.ranges h0 (Nat.le_refl _) r hr1).1
    refine hQ a w ⟨ι, hi.le, hi.new, HR_ext hi.heap (fun id blk h => by rw [same]; exact h) (by rw [maskF_len]; exact Nat.le_refl _), ⟨hi.size, hi.defers, fun t v hv => hi.slots t v ?_⟩, hi.fr, fun b' hb' hlt => hi.mo b' (mods_live (fun id blk h => by rw [same]; exact h) hb') hlt, hr.len0 (Nat.le_refl _)⟩
    rw [sv_text hr (Nat.le_refl _) (fun i hi1 _ => all i hi1)]
    exact hv
  have some_ready : Region.ready .any ops listed = [] → ∀ i, i < ops.size → listed.getD i false = true := by
    intro hn i
    induction i using Nat.strongRecOn with
    | _ i ih =>
      intro hi1
      cases hD : listed.getD i false with
      | true => rfl
      | false =>
        exfalso
        have : i ∈ Region.ready .any ops listed := by
          refine mem_ready.2 ⟨?_, ops[i], Array.getElem?_eq_getElem hi1, fun e e1 e2 => ?_⟩
          · rw [Array.getD_eq_getD_getElem?, Array.getElem?_eq_getElem (by omega)] at hD ⊢
            exact hD
          · have := edges_spec he (Array.getElem?_eq_getElem hi1) e1 e2
            exact ih e.on this (by omega)
        rw [hn] at this
        cases this
  cases fuel with
  | zero =>
    have all := left_zero (D := fun i => listed.getD i false) (m := ops.size) (by omega)
    refine ⟨?_, fin all⟩
    cases hrd : Region.ready .any ops listed with
    | nil => rfl
    | cons i l =>
      exfalso
      obtain ⟨⟨o, ho⟩, h1, _⟩ := key i (by rw [hrd]; exact List.mem_cons_self ..)
      have h2 := all i (Array.getElem?_eq_some_iff.1 ho).1
      rw [h1] at h2
      cases h2
  | succ fuel =>
    refine ⟨fun hn => fin (some_ready hn), fun i hm => ?_⟩
    obtain ⟨⟨o, ho⟩, hD, hdep⟩ := key i hm
    have hlt := (Array.getElem?_eq_some_iff.1 ho).1
    have hup : upd (fun i => listed.getD i false) i = fun k => (listed.setIfInBounds i true).getD k false := by
      funext k
      simp only [upd]
      by_cases e : k = i
      · subst e
        rw [Array.getD_eq_getD_getElem? (xs := listed.setIfInBounds k true), Array.getElem?_setIfInBounds_self_of_lt (by omega)]
        simp
      · rw [Array.getD_eq_getD_getElem? (xs := listed.setIfInBounds i true), Array.getElem?_setIfInBounds_ne (fun h => e h.symm), ← Array.getD_eq_getD_getElem?, show (k == i) = false by simp [e], Bool.or_false]
    refine hi.step hr h0 hk he ho hD hdep fun z' ι' a' w' hi' => ?_
    rw [hup] at hi'
    refine Inv.any hr h0 hk he hQ fuel (listed.setIfInBounds i true) z' ι' a' w' (by simp [hsz]) ?_ hi'
    rw [← hup]
    have := left_upd (D := fun i => listed.getD i false) hD hlt
    omega

/-- A region whose order is open. -/
theorem drawK_region {S : Spec} {out : Res} (hS : SpecOK P S) (hm : P.follows .mixedOrders = true) {id : Nat} {s : Slots} {h : Heap} {k : Slots → Heap → Out} (hok : (slotsOK ops (Region.before ops) && edgesOK ops) = true) (hk : drawK P S n ops (Region.before ops) ops.toList 0 s h [] k = some out) :
    ∃ s' h', k s' h' = some out ∧ ∀ (ι : Map) (base : Nat) (w : World) (a : Act) (Q : Exit → Act → World → Prop), SR ι n s a → HR ι base h w → (∀ a' w', StepS ι n base h w s' h' a' w' → Q .normal a' w') → (Code.region id ops true).wp P Q a w := by
  rw [Bool.and_eq_true] at hok
  obtain ⟨hsl, hed⟩ := hok
  obtain ⟨ss, hh, rr, rfl, rfl, e3, e4, e5⟩ := drawK_trace hS hk (fun i => by simp)
  simp only [Array.length_toList, Nat.zero_add] at e4 e5
  have hr : Run P n ops (Region.before ops) ss hh rr := fun i o h1 h2 => e5 i o (Nat.zero_le _) h1 h2
  refine ⟨_, _, e4, fun ι base w a Q hs hhr hq => wp_region_any hm ?_⟩
  obtain ⟨m, m1, m2, m3⟩ := next_md ops (Region.before ops) rr 0 ops.size (by omega)
  obtain ⟨M, E, f1, f2, f3, f4⟩ := hr.begins (i := 0) (m := m) m1 m2
  rw [e3, List.append_nil] at f2
  simp only [Nat.zero_add] at f1 f2 f4 m1 m2 m3
  have nofalse : ∀ i, (Array.replicate ops.size false).getD i false = false := by
    intro i
    rw [Array.getD_eq_getD_getElem?, Array.getElem?_replicate]
    split <;> rfl
  have hDf : (fun i => (Array.replicate ops.size false).getD i false) = fun _ => false := funext nofalse
  refine Inv.any hr e3 hsl hed (w0 := w) hq ops.size _ m ι a _ (by simp) (left_le _ _) ?_
  rw [hDf]
  have live : ∀ (id : Nat) (blk : Blk), (maskF (fun _ => false) (rr m) (hh m))[id]? = some (some blk) → (hh 0)[id]? = some (some blk) := by
    intro id blk hb
    obtain ⟨g1, g2⟩ := maskF_live hb
    have hidl := (List.getElem?_eq_some_iff.1 g2).1
    by_cases hid : id < (hh 0).length
    · rw [f1, List.getElem?_append_left hid] at g2; exact g2
    · exfalso
      obtain ⟨r, hr1, hr2⟩ := f4 id (by omega) hidl
      have := g1 r (by rw [f2]; exact hr1) hr2
      cases this
  refine ⟨m1, fun i hi => (by cases hi), fun i h1 h2 => (m2 i (Nat.zero_le _) h1 h2).elim, m3, fun j i hj => (by cases hj), ?_, fun r hr1 _ id hid => ?_, hs.1, hs.2.1, fun t u hu => ?_, Map.le_refl _, fun id l hl => .inl hl, ?_, fun b' hb' _ => mods_live live hb'⟩
  · exact HR_ext (HR.sameHeap (w := w) (w' := { w with drawn := w.drawn + 1 }) rfl hhr) live (by rw [maskF_len, f1]; simp)
  · rw [f2] at hr1
    have := (f3 r hr1).2
    exact hhr.fresh (by unfold inRange at hid; omega)
  · have : ∀ j, sv ops ss (fun _ => false) j t = getS (ss 0) t := by
      intro j
      induction j with
      | zero => rfl
      | succ j ih => simp only [sv]; rw [if_neg (by simp)]; exact ih
    rw [this] at hu
    exact hs.2.2 t u hu
  · exact ⟨Nat.le_refl _, fun b _ _ => rfl, rfl, rfl, rfl, fun a => rfl⟩
end
end Go.Proofs.Ytfgehfnlkakioaa.VC
