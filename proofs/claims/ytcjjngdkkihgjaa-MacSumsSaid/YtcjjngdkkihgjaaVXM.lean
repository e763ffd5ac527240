/- Maps: keys, entries, and the operations on them. -/
import Derived.Test.YtcjjngdkkihgjaaVX1
namespace Go.Proofs.Ytcjjngdkkihgjaa.VC
open Go

/-! ### maps -/
theorem getElem?_snoc {h : Heap} {x : Option Blk} {id : Nat} {b : Blk} (hb : (h ++ [x])[id]? = some (some b)) : h[id]? = some (some b) ∨ (id = h.length ∧ x = some b) := by
  by_cases hi : id < h.length
  · rw [List.getElem?_append_left hi] at hb; exact .inl hb
  · rw [List.getElem?_append_right (by omega)] at hb
    have : id - h.length = 0 := by
      have := (List.getElem?_eq_some_iff.1 hb).1
      simp at this
      omega
    rw [this] at hb
    simp at hb
    exact .inr ⟨by omega, hb⟩
section
variable {P : Program}

theorem keyV_VR {ι : Map} {t : TypeId} {n : Nat} {v v' : Value} (h : keyV P t n v = true) (hv : VR ι v v') : v' = v ∧ ∀ κ : Map, VR κ v v := by
  unfold keyV at h
  split at h
  · split at h
    · rename_i cs
      simp only [Bool.and_eq_true] at h
      obtain ⟨cs', rfl, h1, h2⟩ := hv.agg_inv
      have key : ∀ (i : Nat) (hi : i < cs.size) (hi' : i < cs'.size), cs'[i] = cs[i] ∧ ∀ κ : Map, VR κ cs[i] cs[i] := fun i hi hi' =>
        leafV_VR (List.all_eq_true.1 h.2 _ (by simp)) (h2 i cs[i] cs'[i] (by simp [hi]) (by simp [hi']))
      refine ⟨congrArg Value.agg (Array.ext h1.symm fun i hi' hi => (key i hi hi').1), fun κ => .agg rfl fun i v v' a b => ?_⟩
      rw [a] at b; cases b
      obtain ⟨hi, rfl⟩ := Array.getElem?_eq_some_iff.1 a
      exact (key i hi (by omega)).2 κ
    · cases h
  · exact leafV_VR h hv
  · cases h

theorem eqL_refl {α : Type} {f : α → Option Bool} (hf : ∀ x c, f x = some c → c = true) : ∀ {l : List α} {c : Bool}, eqL f l = some c → c = true
  | [], c, h => by cases h; rfl
  | x :: r, c, h => by
    obtain ⟨a, b, h1, h2, rfl⟩ := eqL_cons h
    rw [hf _ _ h1, eqL_refl hf h2]; rfl
theorem eqL_all {α : Type} {f : α → Option Bool} : ∀ {l : List α}, eqL f l = some true → ∀ x ∈ l, f x = some true
  | [], _, x, hx => by cases hx
  | y :: r, h, x, hx => by
    obtain ⟨a, b, h1, h2, h3⟩ := eqL_cons h
    have := (Bool.and_eq_true_iff.1 h3.symm)
    rcases List.mem_cons.1 hx with rfl | hx
    · rw [h1, this.1]
    · exact eqL_all (by rw [h2, this.2]) x hx

theorem ba_iff (a b : ByteArray) : (a == b) = true ↔ a = b := by
  show ByteArray.beq a b = true ↔ _
  cases a; cases b; simp [ByteArray.beq]
theorem eqV_refl : ∀ (d : Nat) {t : TypeId} {a : Value} {c : Bool}, eqV P d t a a = some c → c = true
  | 0, t, a, c, h => by simp [eqV] at h
  | d + 1, t, a, c, h => by
    simp only [eqV] at h
    split at h
    · rename_i e2; cases e2; simp at h; exact h
    · rename_i e2; cases e2; simp at h; exact h
    · rename_i e2; cases e2; cases h; exact (ba_iff _ _).2 rfl
    · rename_i e2; cases e2; simp at h; exact h
    · rename_i e2; cases e2
    · rename_i e2
      cases e2
      cases hs : P.stoodInHeld t with
      | true => rw [hs] at h; cases h
      | false =>
        rw [hs] at h
        refine eqL_refl (fun f c hc => ?_) h
        cases hn : (f.name == "_") with
        | true => rw [hn] at hc; cases hc
        | false =>
          rw [hn] at hc
          simp only [cond_false] at hc
          split at hc
          · rename_i u v hu hv
            rw [hu] at hv; cases hv
            exact eqV_refl d hc
          · cases hc
    · rename_i e2
      cases e2
      split at h
      · refine eqL_refl (fun f c hc => ?_) h
        split at hc
        · rename_i u v hu hv
          rw [hu] at hv; cases hv
          exact eqV_refl d hc
        · cases hc
      · cases h
    · cases h; rfl
    · rename_i e2; cases e2
    · rename_i e2; cases e2
    · cases h; rfl
    · rename_i e2; cases e2; cases h; rfl
    · cases h

/-- Cells of an aggregate. -/
def WfK (P : Program) (t : TypeId) (n : Nat) (v : Value) : Prop := isAggT P t = some true → ∃ cs, v = .agg cs ∧ cs.size = n
theorem keyV_wf {t : TypeId} {n : Nat} {v : Value} (h : keyV P t n v = true) : WfK P t n v := by
  intro ha
  unfold keyV at h
  rw [ha] at h
  simp only at h
  split at h
  · rename_i cs
    simp only [Bool.and_eq_true] at h
    exact ⟨cs, rfl, beq_true h.1⟩
  · cases h
theorem partV_agg {t : TypeId} {i : TypeInfo} {cs : Array Value} {off : Nat} (hi : P.info? t = some i) (ha : isAggT P t = some true) : partV P t cs off = some (.agg (cs.extract off (off + i.size))) := by
  unfold isAggT at ha
  unfold partV
  rw [hi]
  simp only
  split at ha <;> rename_i hu <;> first | (rw [hu]; done) | (simp only; done) | (simp only [hu]; rfl) | cases ha
theorem partV_cell {t : TypeId} {i : TypeInfo} {cs : Array Value} {off : Nat} (hi : P.info? t = some i) (ha : isAggT P t = some false) : partV P t cs off = cs[off]? := by
  unfold isAggT at ha
  unfold partV
  rw [hi]
  simp only
  cases hu : P.underlying t with
  | none => rw [hu] at ha; cases ha
  | some d => rw [hu] at ha; cases d <;> first | rfl | cases ha
theorem keyT_agg {d : Nat} {t : TypeId} {n : Nat} (h : keyT P d t = some n) : isAggT P t = some true ∨ (isAggT P t = some false ∧ n = 1) := by
  cases d with
  | zero => cases h
  | succ d =>
    simp only [keyT] at h
    unfold isAggT
    split at h <;> rename_i hu <;> (try rw [hu])
    · cases h; exact .inr ⟨rfl, rfl⟩
    · cases h; exact .inr ⟨rfl, rfl⟩
    · cases h; exact .inr ⟨rfl, rfl⟩
    · exact .inl rfl
    · exact .inl rfl
    · cases h
/-- Cells of a part. -/
theorem part_cells {t : TypeId} {i : TypeInfo} {xs ys : Array Value} {off m N : Nat} {pa pb : Value} (hi : P.info? t = some i) (hm : m = i.size) (hk : isAggT P t = some true ∨ (isAggT P t = some false ∧ m = 1))
    (hx : xs.size = N) (hy : ys.size = N) (hN : off + m ≤ N) (ha : partV P t xs off = some pa) (hb : partV P t ys off = some pb) :
    (WfK P t m pa ∧ WfK P t m pb) ∧ (pa = pb → ∀ q, off ≤ q → q < off + m → xs[q]? = ys[q]?) := by
  rcases hk with hk | ⟨hk, rfl⟩
  · rw [partV_agg hi hk] at ha hb
    cases ha; cases hb
    refine ⟨⟨fun _ => ⟨_, rfl, by simp; omega⟩, fun _ => ⟨_, rfl, by simp; omega⟩⟩, fun e q h1 h2 => ?_⟩
    have e := Value.agg.inj e
    have := congrArg (fun a => a[q - off]?) e
    rw [Array.getElem?_extract_of_lt (by omega), Array.getElem?_extract_of_lt (by omega)] at this
    rw [Array.getElem?_eq_getElem (by omega), Array.getElem?_eq_getElem (by omega)]
    simpa [show off + (q - off) = q by omega] using this
  · rw [partV_cell hi hk] at ha hb
    refine ⟨⟨fun h => (by rw [hk] at h; cases h), fun h => (by rw [hk] at h; cases h)⟩, fun e q h1 h2 => ?_⟩
    obtain rfl : q = off := by omega
    rw [ha, hb, e]
theorem agg_ext {xs ys : Array Value} {n : Nat} (hx : xs.size = n) (hy : ys.size = n) (h : ∀ q, q < n → xs[q]? = ys[q]?) : xs = ys :=
  Array.ext (by omega) fun i hi hi' => by
    have := h i (by omega)
    rw [Array.getElem?_eq_getElem hi, Array.getElem?_eq_getElem hi'] at this
    exact Option.some.inj this
theorem keyFs_le {rc : TypeId → Option Nat} : ∀ {fs : List Field} {o n : Nat}, keyFs P rc fs o = some n → o ≤ n
  | [], o, n, h => by cases h; exact Nat.le_refl _
  | f :: r, o, n, h => by
    simp only [keyFs] at h
    split at h
    · rename_i m i hm hi
      cases hb : (Nat.beq f.offset o && (Nat.beq m i.size && !(f.name == "_"))) with
      | false => rw [hb] at h; cases h
      | true =>
        rw [hb] at h
        have := keyFs_le h
        omega
    · cases h

/-- Equal keys are one. -/
theorem eqV_eq : ∀ (d e : Nat) {t : TypeId} {n : Nat} {a b : Value}, keyT P d t = some n → WfK P t n a → WfK P t n b → eqV P e t a b = some true → a = b
  | 0, _, t, n, a, b, h, _, _, _ => by cases h
  | _ + 1, 0, t, n, a, b, _, _, _, h => by simp [eqV] at h
  | d + 1, e + 1, t, n, a, b, hk, ha, hb, h => by
    simp only [keyT] at hk
    split at hk
    · rename_i hu
      simp only [eqV, hu] at h
      split at h <;> rename_i q <;> first | (simp at q; done) | skip
      · simp at h; rw [h]
      all_goals cases h
    · rename_i k hu
      simp only [eqV, hu] at h
      split at h <;> rename_i q <;> first | (simp at q; done) | skip
      · rename_i x k3 y _
        cases hkk : (x == y) with
        | false => rw [hkk] at h; cases h
        | true =>
          rw [hkk] at h
          have := kind_eq hkk
          simp at h
          rw [h, this]
      all_goals cases h
    · rename_i hu
      simp only [eqV, hu] at h
      split at h <;> rename_i q <;> first | (simp at q; done) | skip
      · rw [(ba_iff _ _).1 (Option.some.inj h)]
      all_goals cases h
    · rename_i fs hu
      have hagg : isAggT P t = some true := by unfold isAggT; rw [hu]
      obtain ⟨xs, rfl, hx⟩ := ha hagg
      obtain ⟨ys, rfl, hy⟩ := hb hagg
      simp only [eqV, hu] at h
      cases hs : P.stoodInHeld t with
      | true => rw [hs] at h; cases h
      | false =>
        rw [hs] at h
        simp only [cond_false] at h
        have key : ∀ (fs : List Field) (o : Nat), keyFs P (keyT P d) fs o = some n → eqL (fun f => bif f.name == "_" then none else match partV P f.type xs f.offset, partV P f.type ys f.offset with
            | some a, some b => eqV P e f.type a b
            | _, _ => none) fs = some true → ∀ q, o ≤ q → q < n → xs[q]? = ys[q]? := by
          intro fs
          induction fs with
          | nil => intro o ho _ q h1 h2; cases ho; omega
          | cons f r ih =>
            intro o ho hl q h1 h2
            obtain ⟨c1, c2, e1, e2, e3⟩ := eqL_cons hl
            have e3 := Bool.and_eq_true_iff.1 e3.symm
            rw [e3.1] at e1
            rw [e3.2] at e2
            simp only [keyFs] at ho
            split at ho
            · rename_i m i hm hi
              obtain ⟨hc, ho⟩ : (Nat.beq f.offset o && (Nat.beq m i.size && !(f.name == "_"))) = true ∧ keyFs P (keyT P d) r (o + m) = some n := by
                cases hb : (Nat.beq f.offset o && (Nat.beq m i.size && !(f.name == "_"))) with
                | false => rw [hb] at ho; cases ho
                | true => rw [hb] at ho; exact ⟨rfl, ho⟩
              simp only [Bool.and_eq_true, Bool.not_eq_true'] at hc
              obtain ⟨hc1, hc2, hc3⟩ := hc
              have hc1 := beq_true hc1
              have hc2 := beq_true hc2
              have hle := keyFs_le ho
              by_cases hq : q < o + m
              · rw [hc3] at e1
                simp only [cond_false] at e1
                split at e1
                · rename_i pa pb hpa hpb
                  obtain ⟨⟨w1, w2⟩, w3⟩ := part_cells hi hc2 (keyT_agg hm) hx hy (by rw [hc1]; exact hle) hpa hpb
                  exact w3 (eqV_eq d e hm w1 w2 e1) q (by omega) (by omega)
                · cases e1
              · exact ih _ ho e2 q (by omega) h2
            · cases ho
        rw [agg_ext hx hy fun q hq => key fs.toList 0 hk h q (Nat.zero_le _) hq]
    · rename_i len elem hu
      have hagg : isAggT P t = some true := by unfold isAggT; rw [hu]
      obtain ⟨xs, rfl, hx⟩ := ha hagg
      obtain ⟨ys, rfl, hy⟩ := hb hagg
      split at hk
      · rename_i m i hm hi
        obtain ⟨hc, hk⟩ : (Nat.beq m i.size && Nat.blt 0 m) = true ∧ some (len * m) = some n := by
          cases hb : (Nat.beq m i.size && Nat.blt 0 m) with
          | false => rw [hb] at hk; cases hk
          | true => rw [hb] at hk; exact ⟨rfl, hk⟩
        cases hk
        simp only [Bool.and_eq_true] at hc
        have hc1 := beq_true hc.1
        have hc2 := blt_true hc.2
        simp only [eqV, hu, hi] at h
        have hall := eqL_all h
        rw [agg_ext hx hy fun q hq => ?_]
        have hj : q / m < len := Nat.div_lt_of_lt_mul (by rw [Nat.mul_comm]; exact hq)
        have hf := hall (q / m) (List.mem_range.2 hj)
        have h1 : q / m * m ≤ q := Nat.div_mul_le_self q m
        have h2 : q < q / m * m + m := by have := Nat.lt_div_mul_add (a := q) hc2; omega
        have h3 : q / m * m + m ≤ len * m := by
          have : (q / m + 1) * m ≤ len * m := Nat.mul_le_mul_right _ hj
          rw [Nat.succ_mul] at this; exact this
        rw [← hc1] at hf
        split at hf
        · rename_i pa pb hpa hpb
          obtain ⟨⟨w1, w2⟩, w3⟩ := part_cells hi hc1 (keyT_agg hm) hx hy h3 hpa hpb
          exact w3 (eqV_eq d e hm w1 w2 hf) q h1 h2
        · cases hf
      · cases hk
    · cases hk

theorem run_part {t : TypeId} {i : TypeInfo} {cs : Array Value} {off n : Nat} {w : World} (hi : P.info? t = some i) (hk : isAggT P t = some true ∨ (isAggT P t = some false ∧ n = 1)) (hn : n = i.size) (hs : off + n ≤ cs.size) :
    ∃ v, (part t cs off).run P w = .ok v w ∧ WfK P t n v := by
  rcases hk with hk | ⟨hk, rfl⟩
  · refine ⟨.agg (cs.extract off (off + i.size)), ?_, fun _ => ⟨_, rfl, by simp; omega⟩⟩
    simp [part, run_isAgg hk, run_sizeOf hi]
  · refine ⟨cs[off], ?_, fun h => by rw [hk] at h; cases h⟩
    simp [part, run_isAgg hk, Array.getElem?_eq_getElem (show off < cs.size by omega)]

theorem checkKey_run {em : Bool} {w : World} : ∀ (d e : Nat) {t : TypeId} {n : Nat} {v : Value}, keyT P d t = some n → WfK P t n v → d ≤ e → (Instr.checkKey em e t v).run P w = .ok () w
  | 0, _, t, n, v, h, _, _ => by cases h
  | _ + 1, 0, t, n, v, _, _, h => by omega
  | d + 1, e + 1, t, n, v, hk, hv, hle => by
    simp only [keyT] at hk
    split at hk
    · rename_i hu; simp [Instr.checkKey, run_underlying hu]
    · rename_i hu; simp [Instr.checkKey, run_underlying hu]
    · rename_i hu; simp [Instr.checkKey, run_underlying hu]
    · rename_i fs hu
      have hagg : isAggT P t = some true := by unfold isAggT; rw [hu]
      obtain ⟨xs, rfl, hx⟩ := hv hagg
      simp only [Instr.checkKey, Sem.run_bind, run_underlying hu, Result.andThen_ok]
      rw [← Array.forIn_toList]
      have key : ∀ (fs : List Field) (o : Nat), keyFs P (keyT P d) fs o = some n → (forIn fs PUnit.unit fun f (_ : PUnit) => do
          if f.name ≠ "_" then Instr.checkKey em e f.type (← part f.type xs f.offset) 
          pure (ForInStep.yield PUnit.unit) : Sem PUnit).run P w = .ok PUnit.unit w := by
        intro fs
        induction fs with
        | nil => intro o _; simp
        | cons f r ih =>
          intro o ho
          simp only [keyFs] at ho
          split at ho
          · rename_i m i hm hi
            obtain ⟨hc, ho⟩ : (Nat.beq f.offset o && (Nat.beq m i.size && !(f.name == "_"))) = true ∧ keyFs P (keyT P d) r (o + m) = some n := by
              cases hb : (Nat.beq f.offset o && (Nat.beq m i.size && !(f.name == "_"))) with
              | false => rw [hb] at ho; cases ho
              | true => rw [hb] at ho; exact ⟨rfl, ho⟩
            simp only [Bool.and_eq_true, Bool.not_eq_true'] at hc
            obtain ⟨hc1, hc2, hc3⟩ := hc
            have hc1 := beq_true hc1
            have hc2 := beq_true hc2
            have hle2 := keyFs_le ho
            have hne : f.name ≠ "_" := by simpa using hc3
            obtain ⟨v, g1, g2⟩ := run_part (w := w) (cs := xs) (off := f.offset) hi (keyT_agg hm) hc2 (by omega)
            have := checkKey_run d e (em := em) (w := w) hm g2 (by omega)
            have h2 := ih _ ho
            simp only [List.forIn_cons, Sem.run_bind, if_pos hne, g1, this, Result.andThen_ok, Sem.run_pure]
            exact h2
          · cases ho
      have h3 := key fs.toList 0 hk
      simp at h3 ⊢
      rw [h3]; rfl
    · rename_i len elem hu
      have hagg : isAggT P t = some true := by unfold isAggT; rw [hu]
      obtain ⟨xs, rfl, hx⟩ := hv hagg
      split at hk
      · rename_i m i hm hi
        obtain ⟨hc, hk⟩ : (Nat.beq m i.size && Nat.blt 0 m) = true ∧ some (len * m) = some n := by
          cases hb : (Nat.beq m i.size && Nat.blt 0 m) with
          | false => rw [hb] at hk; cases hk
          | true => rw [hb] at hk; exact ⟨rfl, hk⟩
        cases hk
        simp only [Bool.and_eq_true] at hc
        have hc1 := beq_true hc.1
        simp only [Instr.checkKey, Sem.run_bind, run_underlying hu, Result.andThen_ok]
        rw [Std.Legacy.Range.forIn_eq_forIn_range']
        simp only [Std.Legacy.Range.size, Nat.sub_zero, Nat.add_sub_cancel, Nat.div_one]
        have hmem : ∀ j ∈ List.range' 0 len, j < len := fun j hj => by simpa using hj
        generalize List.range' 0 len = l at hmem
        induction l with
        | nil => simp
        | cons j r ih =>
          have hj := hmem j (List.mem_cons_self ..)
          have h3 : j * m + m ≤ len * m := by
            have : (j + 1) * m ≤ len * m := Nat.mul_le_mul_right _ hj
            rw [Nat.succ_mul] at this; exact this
          obtain ⟨v, g1, g2⟩ := run_part (w := w) (cs := xs) (off := j * i.size) hi (keyT_agg hm) hc1 (by rw [← hc1]; omega)
          have := checkKey_run d e (em := em) (w := w) hm g2 (by omega)
          simp only [List.forIn_cons, Sem.run_bind, run_sizeOf hi, g1, this, Result.andThen_ok, Sem.run_pure]
          simpa using ih fun q hq => hmem q (List.mem_cons_of_mem _ hq)
      · cases hk
    · cases hk

/-- The first entry that is. -/
def firstM (f : MapEntry → Bool) : List MapEntry → Nat → Option (Nat × Value)
  | [], _ => none
  | e :: r, i => match f e with
    | true => some (i, e.val)
    | false => firstM f r (i + 1)
theorem firstM_some {f : MapEntry → Bool} : ∀ {l : List MapEntry} {i j : Nat} {v : Value}, firstM f l i = some (j, v) → ∃ q e, j = i + q ∧ l[q]? = some e ∧ f e = true ∧ v = e.val
  | [], i, j, v, h => by cases h
  | e :: r, i, j, v, h => by
    simp only [firstM] at h
    split at h
    · rename_i he; cases h; exact ⟨0, e, rfl, rfl, he, rfl⟩
    · obtain ⟨q, e', h1, h2, h3, h4⟩ := firstM_some h
      exact ⟨q + 1, e', by omega, by simpa using h2, h3, h4⟩
theorem firstM_none {f : MapEntry → Bool} : ∀ {l : List MapEntry} {i : Nat}, firstM f l i = none → ∀ e ∈ l, f e = false
  | [], i, h, e, he => by cases he
  | e :: r, i, h, e', he => by
    simp only [firstM] at h
    split at h
    · cases h
    · rename_i hf
      rcases List.mem_cons.1 he with rfl | he
      · exact hf
      · exact firstM_none h e' he

theorem asking_run {kt : TypeId} {key : Value} {f : MapEntry → Bool} {w : World} (hk : ∀ κ : Map, VR κ key key) : ∀ {l : List MapEntry} {i : Nat}, (∀ e ∈ l, eqV P 20 kt key e.key = some (f e) ∧ ∀ κ : Map, VR κ e.key e.key) →
    (Instr.findAsking kt key l i).run P w = .ok (firstM f l i) w
  | [], i, _ => by simp [Instr.findAsking, firstM]
  | e :: r, i, h => by
    obtain ⟨h1, h2⟩ := h e (List.mem_cons_self ..)
    have := eqV_run 20 h1 (fun _ => none) key e.key (hk _) (h2 _) (Op.maxDepth - 20) w
    have hq : (Op.equal kt key e.key).run P w = .ok (f e) w := this
    have ih := asking_run (i := i + 1) (f := f) (w := w) hk fun e he => h e (List.mem_cons_of_mem _ he)
    simp only [Instr.findAsking, Sem.run_bind, hq, Result.andThen_ok, firstM]
    cases f e
    · exact ih
    · rfl
theorem eqV_now {d : Nat} {kt : TypeId} {k a : Value} {b c : Bool} {D : TypeDesc} (h1 : eqV P (d + 1) kt k a = some c) (hu : P.underlying kt = some D) (hb : Instr.sameNow D k a = some b) : b = c := by
  unfold Instr.sameNow at hb
  simp only [eqV, hu] at h1
  split at hb
  · split at hb
    · rename_i hkk
      subst hkk
      simp only [beq_self_eq_true, cond_true] at h1
      rw [h1] at hb; cases hb; rfl
    · cases hb
  · cases h1; cases hb; rfl
  · cases h1; cases hb; rfl
  · cases hb
theorem now_run {kt : TypeId} {key : Value} {f : MapEntry → Bool} {D : TypeDesc} (hu : P.underlying kt = some D) : ∀ {l : List MapEntry} {i : Nat}, (∀ e ∈ l, eqV P 20 kt key e.key = some (f e) ∧ ∀ κ : Map, VR κ e.key e.key) →
    ∀ r, Instr.findNow D key l i = some r → r = firstM f l i
  | [], i, _, r, hr => by cases hr; rfl
  | e :: q, i, h, r, hr => by
    obtain ⟨h1, h2⟩ := h e (List.mem_cons_self ..)
    have hs : ∀ b, Instr.sameNow D key e.key = some b → b = f e := fun b hb => eqV_now (d := 19) h1 hu hb
    simp only [Instr.findNow] at hr
    simp only [firstM]
    split at hr
    · rename_i hb; rw [← hs _ hb]; cases hr; rfl
    · rename_i hb; rw [← hs _ hb]; exact now_run hu (fun e he => h e (List.mem_cons_of_mem _ he)) r hr
    · cases hr
theorem findKey_run {kt : TypeId} {key : Value} {f : MapEntry → Bool} {w : World} {D : TypeDesc} (hu : P.underlying kt = some D) (hk : ∀ κ : Map, VR κ key key) {l : List MapEntry}
    (h : ∀ e ∈ l, eqV P 20 kt key e.key = some (f e) ∧ ∀ κ : Map, VR κ e.key e.key) : (Instr.findKey kt key l).run P w = .ok (firstM f l 0) w := by
  simp only [Instr.findKey, Sem.run_bind, run_underlying hu, Result.andThen_ok]
  cases hn : Instr.findNow D key l 0 with
  | some r => simp only [Sem.run_pure]; rw [now_run hu h r hn]
  | none => exact asking_run hk h

theorem nodup_map_inj {α β : Type} {f : α → β} : ∀ {l : List α}, (l.map f).Nodup → ∀ {a b : α}, a ∈ l → b ∈ l → f a = f b → a = b
  | [], _, a, b, ha, _, _ => by cases ha
  | x :: r, h, a, b, ha, hb, he => by
    rw [List.map_cons, List.nodup_cons] at h
    rcases List.mem_cons.1 ha with h1 | h1 <;> rcases List.mem_cons.1 hb with h2 | h2
    · rw [h1, h2]
    · subst h1; exact (h.1 (he ▸ List.mem_map_of_mem h2)).elim
    · subst h2; exact (h.1 (he ▸ List.mem_map_of_mem h1)).elim
    · exact nodup_map_inj h.2 h1 h2 he

/-- What is known of the entries when a key is looked for. -/
theorem keysV_spec {kt : TypeId} {n : Nat} {key : Value} : ∀ {ents : List (Value × Value)}, keysV P kt n key ents = true → ∀ p ∈ ents, keyV P kt n p.1 = true ∧ ∃ b, eqV P 20 kt key p.1 = some b
  | [], _, p, hp => by cases hp
  | (k, v) :: r, h, p, hp => by
    simp only [keysV, Bool.and_eq_true] at h
    rcases List.mem_cons.1 hp with rfl | hp
    · exact ⟨h.1, Option.isSome_iff_exists.1 h.2.1⟩
    · exact keysV_spec h.2.2 p hp

theorem findM_some {kt : TypeId} {key : Value} {found : Nat → Value → Out} {miss : Out} {out : Res} : ∀ {ents : List (Value × Value)} {i : Nat}, findM P kt key found miss ents i = some out →
    (∃ (j : Nat) (p : Value × Value), ents[j]? = some p ∧ eqV P 20 kt key p.1 = some true ∧ found (i + j) p.2 = some out) ∨ (miss = some out ∧ ∀ p ∈ ents, eqV P 20 kt key p.1 = some false)
  | [], i, h => .inr ⟨h, fun p hp => by cases hp⟩
  | (k, v) :: r, i, h => by
    simp only [findM] at h
    split at h
    · rename_i b hb
      cases b with
      | true => exact .inl ⟨0, (k, v), rfl, hb, h⟩
      | false =>
        simp only [cond_false] at h
        rcases findM_some h with ⟨j, p, h1, h2, h3⟩ | ⟨h1, h2⟩
        · exact .inl ⟨j + 1, p, by simpa using h1, h2, by rw [← h3]; congr 1; omega⟩
        · refine .inr ⟨h1, fun p hp => ?_⟩
          rcases List.mem_cons.1 hp with rfl | hp
          · exact hb
          · exact h2 p hp
    · cases h

/-- The real search. -/
theorem find_real {ι : Map} {kt : TypeId} {n : Nat} {key : Value} {ents : List (Value × Value)} {es : Array MapEntry} {rs : List MapEntry} {w : World} {D : TypeDesc} (hu : P.underlying kt = some D) (ht : keyT P 8 kt = some n) (hkv : keyV P kt n key = true)
    (hself : ∀ κ : Map, VR κ key key) (hall : keysV P kt n key ents = true) (h3 : (ents.map (·.1)).Nodup) (h7 : ∀ k ∈ ents.map (·.1), ∀ κ : Map, VR κ k k) (h4 : rs.Perm es.toList) (h5 : rs.map (·.key) = ents.map (·.1)) (_h6 : VRs ι (ents.map (·.2)) (rs.map (·.val))) :
    (∀ (j : Nat) (p : Value × Value), ents[j]? = some p → eqV P 20 kt key p.1 = some true → ∃ q e, es[q]? = some e ∧ rs[j]? = some e ∧ e.key = key ∧ (Instr.findKey kt key es.toList).run P w = .ok (some (q, e.val)) w) ∧
    ((∀ p ∈ ents, eqV P 20 kt key p.1 = some false) → (Instr.findKey kt key es.toList).run P w = .ok none w ∧ key ∉ ents.map (·.1)) := by
  let f : MapEntry → Bool := fun e => (eqV P 20 kt key e.key).getD false
  have hmem : ∀ e ∈ es.toList, ∃ p ∈ ents, p.1 = e.key := by
    intro e he
    have : e.key ∈ rs.map (·.key) := List.mem_map_of_mem (h4.mem_iff.2 he)
    rw [h5] at this
    obtain ⟨p, hp, hpe⟩ := List.mem_map.1 this
    exact ⟨p, hp, hpe⟩
  have hf : ∀ e ∈ es.toList, eqV P 20 kt key e.key = some (f e) ∧ ∀ κ : Map, VR κ e.key e.key := by
    intro e he
    obtain ⟨p, hp, hpe⟩ := hmem e he
    obtain ⟨_, b, hb⟩ := keysV_spec hall p hp
    rw [hpe] at hb
    exact ⟨by simp only [f, hb, Option.getD_some], hpe ▸ h7 p.1 (List.mem_map_of_mem hp)⟩
  have hrun := findKey_run (w := w) hu hself hf
  have heq : ∀ p ∈ ents, eqV P 20 kt key p.1 = some true → key = p.1 := fun p hp h => eqV_eq 8 20 ht (keyV_wf hkv) (keyV_wf (keysV_spec hall p hp).1) h
  have hnd : (es.toList.map (·.key)).Nodup := by
    have : (rs.map (·.key)).Nodup := by rw [h5]; exact h3
    exact (h4.map (·.key)).nodup_iff.1 this
  refine ⟨fun j p hj hp => ?_, fun hno => ⟨?_, fun hin => ?_⟩⟩
  · have hpm := List.mem_of_getElem? hj
    have hkp := heq p hpm hp
    have hjk : (rs.map (·.key))[j]? = some key := by rw [h5, List.getElem?_map, hj, hkp]; rfl
    rw [List.getElem?_map] at hjk
    cases hrj : rs[j]? with
    | none => rw [hrj] at hjk; cases hjk
    | some e =>
      rw [hrj] at hjk
      have hek : e.key = key := Option.some.inj hjk
      have hes : e ∈ es.toList := h4.mem_iff.1 (List.mem_of_getElem? hrj)
      cases hfm : firstM f es.toList 0 with
      | none =>
        have h1 := firstM_none hfm e hes
        have h2 := (hf e hes).1
        rw [h1, hek, hkp] at h2
        rw [hkp] at hp
        rw [hp] at h2
        cases h2
      | some r =>
        obtain ⟨q0, v0⟩ := r
        obtain ⟨q, e', g1, g2, g3, g4⟩ := firstM_some hfm
        have hes' := List.mem_of_getElem? g2
        obtain ⟨p', hp', hpe'⟩ := hmem e' hes'
        have hk' : key = e'.key := by
          rw [← hpe']
          refine heq p' hp' ?_
          rw [hpe', (hf e' hes').1, g3]
        have : e' = e := nodup_map_inj hnd hes' hes (by rw [← hk', hek])
        subst this
        refine ⟨q, e', by simpa using g2, rfl, hek, ?_⟩
        rw [hrun, hfm, g1, g4]
        simp
  · rw [hrun]
    cases hfm : firstM f es.toList 0 with
    | none => rfl
    | some r =>
      obtain ⟨q0, v0⟩ := r
      obtain ⟨q, e', g1, g2, g3, g4⟩ := firstM_some hfm
      have hes' := List.mem_of_getElem? g2
      obtain ⟨p', hp', hpe'⟩ := hmem e' hes'
      have h2 := (hf e' hes').1
      rw [g3, ← hpe', hno p' hp'] at h2
      cases h2
  · obtain ⟨p, hp, hpe⟩ := List.mem_map.1 hin
    have h1 := hno p hp
    rw [hpe] at h1
    have := eqV_refl 20 h1
    cases this

theorem perm_set {α : Type} {x : α} : ∀ {l m : List α} {i j : Nat} {e : α}, l.Perm m → l[i]? = some e → m[j]? = some e → (l.set i x).Perm (m.set j x) := by
  have key : ∀ {l : List α} {i : Nat} {e : α}, l[i]? = some e → ∃ r, l.Perm (e :: r) ∧ (l.set i x).Perm (x :: r) := by
    intro l
    induction l with
    | nil => intro i e h; cases h
    | cons y q ih =>
      intro i e h
      cases i with
      | zero => cases h; exact ⟨q, .refl _, .refl _⟩
      | succ i =>
        obtain ⟨r, h1, h2⟩ := ih (i := i) (e := e) (by simpa using h)
        exact ⟨y :: r, (h1.cons y).trans (.swap ..), (h2.cons y).trans (.swap ..)⟩
  intro l m i j e h hi hj
  obtain ⟨r, h1, h2⟩ := key hi
  obtain ⟨r', h3, h4⟩ := key hj
  have : (e :: r).Perm (e :: r') := h1.symm.trans (h.trans h3)
  exact h2.trans (((List.perm_cons e).1 this).cons x |>.trans h4.symm)
theorem setM_keys : ∀ {ents : List (Value × Value)} {i : Nat} {v : Value}, (setM ents i v).map (·.1) = ents.map (·.1)
  | [], _, _ => rfl
  | (k, u) :: r, 0, v => rfl
  | e :: r, i + 1, v => by simp only [setM, List.map_cons, setM_keys (ents := r)]
theorem setM_vals : ∀ {ents : List (Value × Value)} {i : Nat} {v : Value}, (setM ents i v).map (·.2) = (ents.map (·.2)).set i v
  | [], _, _ => rfl
  | (k, u) :: r, 0, v => rfl
  | e :: r, i + 1, v => by simp only [setM, List.map_cons, setM_vals (ents := r), List.set_cons_succ]

theorem sameBits_leaf {v : Value} (h : leafV v = true) (m : Nat) : Instr.sameBits m v v = true := by
  cases v <;> first | cases h | skip
  · cases m <;> simp [Instr.sameBits]
  · cases m <;> simp [Instr.sameBits]
  · cases m <;> exact (ba_iff _ _).2 rfl
theorem sameBits_key {t : TypeId} {n : Nat} {v : Value} (h : keyV P t n v = true) (m : Nat) : Instr.sameBits (m + 1) v v = true := by
  unfold keyV at h
  split at h
  · split at h
    · rename_i cs
      simp only [Bool.and_eq_true] at h
      simp only [Instr.sameBits, beq_self_eq_true, Bool.true_and]
      rw [List.all_eq_true]
      intro x hx
      have hl : ∀ (l : List Value), ∀ x ∈ l.zip l, x.1 = x.2 ∧ x.1 ∈ l := by
        intro l
        induction l with
        | nil => intro x hx; cases hx
        | cons y r ih =>
          intro x hx
          rw [List.zip_cons_cons] at hx
          rcases List.mem_cons.1 hx with rfl | hx
          · exact ⟨rfl, List.mem_cons_self ..⟩
          · exact ⟨(ih x hx).1, List.mem_cons_of_mem _ (ih x hx).2⟩
      obtain ⟨a, b⟩ := x
      obtain ⟨h1, h2⟩ := hl _ _ hx
      simp only at h1 h2
      subst h1
      exact sameBits_leaf (List.all_eq_true.1 h.2 _ h2) m
    · cases h
  · exact sameBits_leaf h _
  · cases h

/-- A block that may be written turns (whatever it is). -/
theorem HR_updB0 {ι : Map} {base : Nat} {h : Heap} {w w2 : World} (hr : HR ι base h w) {id : Nat} {b0 b1 : Blk} {l : Loc} (hb : h[id]? = some (some b0)) (ho0 : b0.own = true) (hl : ι id = some l)
    {o : Obj} (hw2 : w2.heap = w.heap.setIfInBounds l.b o) (hrel : BlkRel ι l b1 w2) : HR ι base (h.set id (some b1)) w2 := by
  have hlt := (List.getElem?_eq_some_iff.1 hb).1
  have other : ∀ b, b ≠ l.b → w2.heap[b]? = w.heap[b]? := fun b hne => by rw [hw2, Array.getElem?_setIfInBounds_ne (fun e => hne e.symm)]
  have get : ∀ (id' : Nat) (blk : Blk), (h.set id (some b1))[id']? = some (some blk) → (id' = id ∧ blk = b1) ∨ (id' ≠ id ∧ h[id']? = some (some blk)) := by
    intro id' blk hx
    by_cases e : id' = id
    · subst e
      simp [hlt] at hx
      exact .inl ⟨rfl, hx.symm⟩
    · rw [List.getElem?_set_ne (fun x => e x.symm)] at hx
      exact .inr ⟨e, hx⟩
  refine ⟨fun id' blk hx => ?_, fun id' l' hl' => ?_, fun a a' blk blk' x x' hx hx' ho hne hl1 hl2 => ?_, fun a blk x hx ho hl1 => ?_, by rw [hw2]; simpa using hr.base_le⟩
  · rcases get id' blk hx with ⟨rfl, rfl⟩ | ⟨e, hx⟩
    · exact .inr ⟨l, hl, hrel⟩
    · rcases hr.live id' blk hx with ⟨p1, p2⟩ | ⟨l', p1, p2⟩
      · exact .inl ⟨p1, p2⟩
      · exact .inr ⟨l', p1, p2.same (other _ (hr.inj id id' _ blk l l' hb hx ho0 (fun x => e x.symm) hl p1).symm)⟩
  · have := hr.dom id' l' hl'
    rw [hw2]
    simpa using this
  · rcases get a blk hx with ⟨e1, e2⟩ | ⟨e, hy⟩ <;> rcases get a' blk' hx' with ⟨e3, e4⟩ | ⟨e', hy'⟩
    · exact (hne (e1.trans e3.symm)).elim
    · subst e1; exact hr.inj _ a' _ blk' x x' hb hy' ho0 hne hl1 hl2
    · subst e3; exact hr.inj a _ blk _ x x' hy hb ho hne hl1 hl2
    · exact hr.inj a a' blk blk' x x' hy hy' ho hne hl1 hl2
  · rcases get a blk hx with ⟨rfl, rfl⟩ | ⟨e, hx⟩
    · exact hr.own _ _ x hb ho0 hl1
    · exact hr.own a blk x hx ho hl1

theorem HR_updB {ι : Map} {base : Nat} {h : Heap} {w w2 : World} (hr : HR ι base h w) {id : Nat} {b0 b1 : Blk} {l : Loc} (hb : h[id]? = some (some b0)) (ho0 : b0.own = true) (hl : ι id = some l)
    {o : Obj} (hw2 : w2.heap = w.heap.setIfInBounds l.b o) (_ : b1.own = true) (hrel : BlkRel ι l b1 w2) : HR ι base (h.set id (some b1)) w2 := HR_updB0 hr hb ho0 hl hw2 hrel

/-- A new block (whatever it is). -/
theorem HR_pushB {ι : Map} {base : Nat} {h : Heap} {w w' : World} (hr : HR ι base h w) {o : Obj} {l : Loc} {blk : Blk} (hlb : l.b = w.heap.size) (hw : w'.heap = w.heap.push o)
    (hrel : BlkRel (ι.put h.length l) l blk w') : HR (ι.put h.length l) base (h ++ [some blk]) w' := by
  have hf := hr.fresh (Nat.le_refl _)
  have le := Map.le_put (id := h.length) l hf
  have keep : ∀ b, b < w.heap.size → w'.heap[b]? = w.heap[b]? := fun b hb => by rw [hw, Array.getElem?_push_lt hb, Array.getElem?_eq_getElem hb]
  have hsz : w'.heap.size = w.heap.size + 1 := by rw [hw]; simp
  refine ⟨fun id blk' hb => ?_, fun id l' hl => ?_, fun id id' blk1 blk2 l1 l2 hb hb' ho hne hl hl' => ?_, fun id blk1 l1 hb ho hl => ?_, by have := hr.base_le; omega⟩
  · rcases getElem?_snoc hb with hb | ⟨rfl, e⟩
    · have hi := (List.getElem?_eq_some_iff.1 hb).1
      rcases hr.live id blk' hb with ⟨p1, p2⟩ | ⟨l', p1, p2⟩
      · exact .inl ⟨by rw [Map.put_ne _ _ (by omega)]; exact p1, p2⟩
      · exact .inr ⟨l', le _ _ p1, (p2.same (keep _ (hr.dom id l' p1).2)).mono le⟩
    · cases e
      exact .inr ⟨l, Map.put_same _ _ _, hrel⟩
  · by_cases e : id = h.length
    · subst e
      rw [Map.put_same] at hl
      simp only [Option.some.injEq] at hl
      subst hl
      simp [hsz, hlb]
    · rw [Map.put_ne _ _ e] at hl
      have := hr.dom id l' hl
      simp; omega
  · rcases getElem?_snoc hb with hb | ⟨e1, q1⟩ <;> rcases getElem?_snoc hb' with hb' | ⟨e2, q2⟩
    · have hi := (List.getElem?_eq_some_iff.1 hb).1
      have hi' := (List.getElem?_eq_some_iff.1 hb').1
      rw [Map.put_ne _ _ (by omega)] at hl hl'
      exact hr.inj id id' blk1 blk2 l1 l2 hb hb' ho hne hl hl'
    · have hi := (List.getElem?_eq_some_iff.1 hb).1
      subst e2
      rw [Map.put_ne _ _ (by omega)] at hl
      rw [Map.put_same] at hl'
      cases hl'
      have := (hr.dom id l1 hl).2
      omega
    · have hi' := (List.getElem?_eq_some_iff.1 hb').1
      subst e1
      rw [Map.put_ne _ _ (by omega)] at hl'
      rw [Map.put_same] at hl
      cases hl
      have := (hr.dom id' l2 hl').2
      omega
    · exact (hne (e1.trans e2.symm)).elim
  · rcases getElem?_snoc hb with hb | ⟨e1, q1⟩
    · have hi := (List.getElem?_eq_some_iff.1 hb).1
      rw [Map.put_ne _ _ (by omega)] at hl
      exact hr.own id blk1 l1 hb ho hl
    · subst e1
      rw [Map.put_same] at hl
      cases hl
      have := hr.base_le
      omega

theorem map_mp {ι : Map} {base : Nat} {h : Heap} {w : World} (hr : HR ι base h w) {id : Nat} {own lf : Bool} {es : Nat} {ents : List (Value × Value)} {l : Loc} (hb : h[id]? = some (some ⟨own, es, [.mp lf ents]⟩)) (hl : ι id = some l) :
    ∃ os clock, w.heap[l.b]? = some (.map os clock) ∧ es = l.es ∧ (ents.map (·.1)).Nodup ∧ (∀ k ∈ ents.map (·.1), ∀ κ : Map, VR κ k k) ∧ (lf = true → ∀ p ∈ ents, flatV p.2 = true) ∧
      ∃ rs : List MapEntry, rs.Perm os.toList ∧ rs.map (·.key) = ents.map (·.1) ∧ VRs ι (ents.map (·.2)) (rs.map (·.val)) := by
  rcases hr.live id _ hb with ⟨p1, _⟩ | ⟨l', p1, ⟨_, _, _, _, _, _, q4, _⟩ | ⟨os, clock, ents', q1, q2, q3, q4, q5, q6⟩⟩
  · rw [hl] at p1; cases p1
  · exact (segsOK_mp q4).elim
  · rw [hl] at p1; cases p1
    obtain ⟨lf', q2, qf⟩ := q2
    simp only [List.cons.injEq, Seg.mp.injEq, and_true] at q2
    obtain ⟨rfl, rfl⟩ := q2
    exact ⟨os, clock, q1, q3, q4, q5, qf, q6⟩
theorem VR.map_es {ι : Map} {id : Nat} {v' : Value} (h : VR ι (.map (some id)) v') : ∃ l, ι id = some l ∧ v' = .map (some l.b) ∧ l.es = 0 := by cases h; exact ⟨_, by assumption, rfl, by assumption⟩
theorem VR.map_inv {ι : Map} {id : Nat} {v' : Value} (h : VR ι (.map (some id)) v') : ∃ l, ι id = some l ∧ v' = .map (some l.b) := by cases h; exact ⟨_, by assumption, rfl⟩
theorem VR.mapNil_inv {ι : Map} {v' : Value} (h : VR ι (.map none) v') : v' = .map none := by cases h; rfl
end

section
variable {P : Program} {S : Spec} {n : Nat} {s : Slots} {h : Heap} {o : Oper} {k : Value → Heap → Out} {out : Res}

theorem op_makeMap {t : TypeId} {r : Option Operand} (ho : o.op = .makeMap t r) (hk : opK P S s h (.makeMap t r) k = some out) : OpOut P S n s h o k out := by
  simp only [opK] at hk
  split at hk
  · refine ⟨_, _, hk, OpS_run fun ι base w a hs hr => ?_, by simp, fun _ => ⟨_, rfl⟩⟩
    have hrun : (execOp a.eval o).run P w = .ok (.value (.map (some w.heap.size))) { w with heap := w.heap.push (.map #[] 0) } := by
      simp only [execOp, ho, Instr.makeMap, newObj]
      rfl
    have hrel : BlkRel (ι.put h.length ⟨w.heap.size, 0, 0, 0⟩) ⟨w.heap.size, 0, 0, 0⟩ ⟨true, 0, [.mp (flatT P t) []]⟩ { w with heap := w.heap.push (.map #[] 0) } :=
      .inr ⟨#[], 0, [], by simp, ⟨_, rfl, fun _ p hp => by cases hp⟩, rfl, List.nodup_nil, (fun k hk => by cases hk), [], List.Perm.refl _, rfl, VRs.nil⟩
    refine ⟨_, _, hrun, ι.put h.length ⟨w.heap.size, 0, 0, 0⟩, Map.le_put _ (hr.fresh (Nat.le_refl _)), fun id l hl => ?_, HR_pushB hr rfl rfl hrel, .map (l := ⟨w.heap.size, 0, 0, 0⟩) (Map.put_same _ _ _) rfl, ?_, fun b hb hlt => ?_⟩
    · by_cases e : id = h.length
      · subst e
        rw [Map.put_same] at hl
        cases hl
        exact .inr ⟨Nat.le_refl _, .inl (Nat.le_refl _)⟩
      · rw [Map.put_ne _ _ e] at hl; exact .inl hl
    · refine ⟨by simp, fun b hb _ => by simp only; rw [Array.getElem?_push_lt hb, Array.getElem?_eq_getElem hb], rfl, rfl, rfl⟩
    · rcases mods_push hb with e | e
      · simp only at e; omega
      · exact e
  · cases hk

theorem run_getMap {w : World} {b : Nat} {os : Array MapEntry} {clock : Nat} (h : w.heap[b]? = some (.map os clock)) : (getObj b).run P w = .ok (.map os clock) w := by
  simp [getObj, Sem.run, h]
theorem run_setMap {w : World} {b : Nat} {os : Array MapEntry} {clock : Nat} (ob : Obj) (h : w.heap[b]? = some (.map os clock)) : (setObj b ob).run P w = .ok () { w with heap := w.heap.setIfInBounds b ob } := by
  simp [setObj, Sem.run, h]

theorem findD_some {P : Program} {d : Option Bool} {kt : TypeId} {key : Value} {found : Nat → Value → Out} {miss : Out} {E : List (Value × Value)} {out : Res} (h : findD d P kt key found miss E = some out) : findM P kt key found miss E 0 = some out := by
  unfold findD at h
  split at h
  · exact h
  · unfold headM at h
    split at h
    · cases h
    · rename_i k v r
      simp only [findM]
      split at h
      · rename_i b hb
        cases b
        · cases h
        · exact h
      · cases h
  · cases hm : missM P kt key E with
    | false => rw [hm] at h; cases h
    | true =>
      rw [hm] at h
      have key2 : ∀ (E : List (Value × Value)) (i : Nat), missM P kt key E = true → findM P kt key found miss E i = miss := by
        intro E
        induction E with
        | nil => intro i _; rfl
        | cons e r ih =>
          intro i hm
          obtain ⟨k, v⟩ := e
          simp only [missM] at hm
          simp only [findM]
          split at hm
          · rename_i b hb
            cases b
            · exact ih _ (by simpa using hm)
            · simp at hm
          · cases hm
      rw [key2 E 0 hm]
      exact h
theorem lookK_some {d : Option Bool} {t : TypeId} {m key : Value} {ok : Bool} {kk : Value → Out} (hk : lookK P d h t m key ok kk = some out) : ∃ v, kk v = some out ∧ ∀ (ι : Map) (base : Nat) (w : World) (m' key' : Value), HR ι base h w → VR ι m m' → VR ι key key' →
    ∃ v', (Instr.lookup t m' key' ok).run P w = .ok v' w ∧ VR ι v v' := by
  have lv : ∀ {ι : Map} {v v' : Value} (b : Bool), VR ι v v' → VR ι (lookV ok v b) (if ok then .tuple #[v', .bool b] else v') := by
    intro ι v v' b hv
    cases ok
    · exact hv
    · exact VRs.tup (cs := #[v, .bool b]) (cs' := #[v', .bool b]) (VRs.cons hv (VRs.cons (.bool b) VRs.nil))
  unfold lookK at hk
  split at hk
  · rename_i kt et hu
    split at hk
    · rename_i nn ie ht hie
      split at hk
      · rename_i z hz
        obtain ⟨hc, hk⟩ : (keyV P kt nn key && plainV 6 z) = true ∧ _ := by
          cases hb : (keyV P kt nn key && plainV 6 z) with
          | false => rw [hb] at hk; cases hk
          | true => rw [hb] at hk; exact ⟨rfl, hk⟩
        simp only [Bool.and_eq_true] at hc
        have hD : ∃ D, P.underlying kt = some D := by
          cases hx : P.underlying kt with
          | some D => exact ⟨D, rfl⟩
          | none => simp only [keyT, hx] at ht; cases ht
        obtain ⟨D, hD⟩ := hD
        simp only [cond_true] at hk
        split at hk
        · refine ⟨_, hk, fun ι base w m' key' hr hm hkey => ?_⟩
          rw [hm.mapNil_inv]
          obtain ⟨rfl, hself⟩ := keyV_VR hc.1 hkey
          refine ⟨_, ?_, lv false (plainV_VR ι 6 hc.2)⟩
          have hf := findKey_run (w := w) (f := fun _ => false) hD hself (l := []) (fun e he => by cases he)
          simp only [Instr.lookup, Sem.run_bind, run_underlying hu, Result.andThen_ok, Sem.run_pure, checkKey_run 8 10000 ht (keyV_wf hc.1) (by omega)]
          have hf : (Instr.findKey kt key' (#[] : Array MapEntry).toList).run P w = .ok none w := hf
          simp only [hf, Result.andThen_ok, Sem.run_bind, run_zeroValue hie hz, Sem.run_pure]
        · rename_i id
          split at hk
          · rename_i own es ents hb
            have hb := getB_some hb
            obtain ⟨hall, hk⟩ : keysV P kt nn key ents = true ∧ _ := by
              cases hb : keysV P kt nn key ents with
              | false => rw [hb] at hk; cases hk
              | true => rw [hb] at hk; exact ⟨rfl, hk⟩
            simp only [cond_true] at hk
            rcases findM_some (findD_some hk) with ⟨j, p, h1, h2, h3⟩ | ⟨h1, h2⟩
            · refine ⟨_, h3, fun ι base w m' key' hr hm hkey => ?_⟩
              obtain ⟨rfl, hself⟩ := keyV_VR hc.1 hkey
              obtain ⟨l, hl, rfl⟩ := hm.map_inv
              obtain ⟨os, clock, q1, q2, q3, q4, qf, rs, q5, q6, q7⟩ := map_mp hr hb hl
              obtain ⟨q, e, g1, g2, g3, g4⟩ := (find_real (w := w) hD ht hc.1 hself hall q3 q4 q5 q6 q7).1 j p h1 h2
              refine ⟨_, ?_, lv true (q7.2 j p.2 e.val (by rw [List.getElem?_map, h1]; rfl) (by rw [List.getElem?_map, g2]; rfl))⟩
              simp only [Instr.lookup, Sem.run_bind, run_underlying hu, Result.andThen_ok, Sem.run_pure, run_getMap q1, checkKey_run 8 10000 ht (keyV_wf hc.1) (by omega), g4]
            · refine ⟨_, h1, fun ι base w m' key' hr hm hkey => ?_⟩
              obtain ⟨rfl, hself⟩ := keyV_VR hc.1 hkey
              obtain ⟨l, hl, rfl⟩ := hm.map_inv
              obtain ⟨os, clock, q1, q2, q3, q4, qf, rs, q5, q6, q7⟩ := map_mp hr hb hl
              obtain ⟨g4, _⟩ := (find_real (w := w) hD ht hc.1 hself hall q3 q4 q5 q6 q7).2 h2
              refine ⟨_, ?_, lv false (plainV_VR ι 6 hc.2)⟩
              simp only [Instr.lookup, Sem.run_bind, run_underlying hu, Result.andThen_ok, Sem.run_pure, run_getMap q1, checkKey_run 8 10000 ht (keyV_wf hc.1) (by omega), g4, run_zeroValue hie hz]
          · cases hk
        · cases hk
      · cases hk
    · cases hk
  · cases hk

theorem op_lookup {t : TypeId} {x ix : Operand} {ok : Bool} (ho : o.op = .lookup t x ix ok) (hk : opK P S s h (.lookup t x ix ok) k = some out) : OpOut P S n s h o k out := by
  simp only [opK] at hk
  split at hk
  · rename_i m key hm hkey
    obtain ⟨v, h1, h2⟩ := lookK_some hk
    exact .pure h1 fun ι base w a hs hr => by
      obtain ⟨v', g1, g2⟩ := h2 ι base w _ _ hr (opnd_VR hs hm) (opnd_VR hs hkey)
      exact ⟨v', by simp [execOp, ho, g1], g2⟩
  · cases hk

theorem setM_flat : ∀ {E : List (Value × Value)} {j : Nat} {v : Value}, (∀ p ∈ E, flatV p.2 = true) → flatV v = true → ∀ p ∈ setM E j v, flatV p.2 = true
  | [], _, _, _, _, p, hp => by cases hp
  | (k, u) :: r, 0, v, h, hv, p, hp => by
    rcases List.mem_cons.1 hp with rfl | hp
    · exact hv
    · exact h p (List.mem_cons_of_mem _ hp)
  | e :: r, j + 1, v, h, hv, p, hp => by
    rcases List.mem_cons.1 hp with rfl | hp
    · exact h _ (List.mem_cons_self ..)
    · exact setM_flat (fun q hq => h q (List.mem_cons_of_mem _ hq)) hv p hp
/-- A map's entry is written. -/
theorem updM_some {d : Option Bool} {t : TypeId} {m key v : Value} (hk : updM P d h t m key v k = some out) : ∃ h', k undef h' = some out ∧ h.length ≤ h'.length ∧ ∀ (ι : Map) (base : Nat) (w : World) (m' key' v' : Value), HR ι base h w → VR ι m m' → VR ι key key' → VR ι v v' →
    ∃ w', (Instr.mapUpdate t m' key' v').run P w = .ok () w' ∧ ∃ l, HR ι base h' w' ∧ Fr (mods ι h) w w' ∧ (∀ b, mods ι h' b → mods ι h b) ∧ l = w.heap.size := by
  unfold updM at hk
  split at hk
  · rename_i kt et id hu
    split at hk
    · rename_i es lf ents hb
      have hb := getB_some hb
      have hlt := (List.getElem?_eq_some_iff.1 hb).1
      split at hk
      · rename_i nn ht
        obtain ⟨hc, hk⟩ : (keyV P kt nn key && keysV P kt nn key ents && (!lf || flatV v)) = true ∧ _ := by
          cases hb : (keyV P kt nn key && keysV P kt nn key ents && (!lf || flatV v)) with
          | false => rw [hb] at hk; cases hk
          | true => rw [hb] at hk; exact ⟨rfl, hk⟩
        simp only [Bool.and_eq_true] at hc
        obtain ⟨hc, hfv⟩ := hc
        have hfv : lf = true → flatV v = true := fun e => by subst e; simpa using hfv
        have hD : ∃ D, P.underlying kt = some D := by
          cases hx : P.underlying kt with
          | some D => exact ⟨D, rfl⟩
          | none => simp only [keyT, hx] at ht; cases ht
        obtain ⟨D, hD⟩ := hD
        simp only [cond_true] at hk
        -- what any such write does
        have fin : ∀ (ι : Map) (base : Nat) (w : World) (l : Loc) (os os' : Array MapEntry) (clock clock' : Nat) (ents' : List (Value × Value)), HR ι base h w → ι id = some l → w.heap[l.b]? = some (.map os clock) → es = l.es → (lf = true → ∀ p ∈ ents', flatV p.2 = true) → (ents'.map (·.1)).Nodup → (∀ k ∈ ents'.map (·.1), ∀ κ : Map, VR κ k k) →
            (∃ rs : List MapEntry, rs.Perm os'.toList ∧ rs.map (·.key) = ents'.map (·.1) ∧ VRs ι (ents'.map (·.2)) (rs.map (·.val))) →
            HR ι base (h.set id (some ⟨true, es, [.mp lf ents']⟩)) { w with heap := w.heap.setIfInBounds l.b (.map os' clock') } ∧ Fr (mods ι h) w { w with heap := w.heap.setIfInBounds l.b (.map os' clock') } ∧
              (∀ b, mods ι (h.set id (some ⟨true, es, [.mp lf ents']⟩)) b → mods ι h b) := by
          intro ι base w l os os' clock clock' ents' hr hl hw he hfl hnd hself hrs
          have hbl := (Array.getElem?_eq_some_iff.1 hw).1
          refine ⟨HR_updB hr hb rfl hl rfl rfl (.inr ⟨os', clock', ents', by simp [hbl], ⟨lf, rfl, hfl⟩, he, hnd, hself, hrs⟩), ⟨by simp, fun b hb' hm => ?_, rfl, rfl, rfl⟩, fun b hb' => mods_set (fun _ _ => ⟨_, hb, rfl⟩) hb'⟩
          · simp only
            rw [Array.getElem?_setIfInBounds_ne (fun e => hm ⟨id, _, l, hb, rfl, hl, e⟩)]
        rcases findM_some (findD_some hk) with ⟨j, p, h1, h2, h3⟩ | ⟨h1, h2⟩
        · refine ⟨_, h3, by simp, fun ι base w m' key' v' hr hm hkey hv => ?_⟩
          obtain ⟨rfl, hself⟩ := keyV_VR hc.1 hkey
          obtain ⟨l, hl, rfl⟩ := hm.map_inv
          obtain ⟨os, clock, q1, q2, q3, q4, qf, rs, q5, q6, q7⟩ := map_mp hr hb hl
          obtain ⟨q, e, g1, g2, g3, g4⟩ := (find_real (w := w) hD ht hc.1 hself hc.2 q3 q4 q5 q6 q7).1 j p h1 h2
          have hq := (Array.getElem?_eq_some_iff.1 g1).1
          have hj := (List.getElem?_eq_some_iff.1 g2).1
          have hkeep : (Instr.keyThatStays (((os[q]?).map (·.key)).getD key') key').run P w = .ok key' w := by
            rw [g1]
            simp only [Option.map_some, Option.getD_some, g3, Instr.keyThatStays, sameBits_key hc.1 9999, if_true, Sem.run_pure]
          have hpk : p.1 = key' := (eqV_eq 8 20 ht (keyV_wf hc.1) (keyV_wf (keysV_spec hc.2 p (List.mem_of_getElem? h1)).1) h2).symm
          have hrun : (Instr.mapUpdate t (.map (some l.b)) key' v').run P w = .ok () { w with heap := w.heap.setIfInBounds l.b (.map (os.modify q fun e => { e with key := key', val := v' }) clock) } := by
            simp only [Instr.mapUpdate, Sem.run_bind, run_underlying hu, Result.andThen_ok, run_getMap q1, checkKey_run 8 10000 ht (keyV_wf hc.1) (by omega), g4, hkeep, run_setMap _ q1]
          have hms : (os.modify q fun e => { e with key := key', val := v' }).toList = os.toList.set q { e with key := key', val := v' } := by
            apply List.ext_getElem?
            intro i
            rw [List.getElem?_set, Array.getElem?_toList, Array.getElem?_modify]
            by_cases hqi : q = i
            · subst hqi
              rw [if_pos rfl, if_pos rfl, g1, if_pos (by simpa using hq)]; rfl
            · rw [if_neg hqi, if_neg hqi, Array.getElem?_toList]
          refine ⟨_, hrun, _, (fin ι base w l os _ clock clock (setM ents (0 + j) v) hr hl q1 q2 (fun e => setM_flat (qf e) (hfv e)) (by rw [setM_keys]; exact q3) (by rw [setM_keys]; exact q4) ⟨rs.set j { e with key := key', val := v' }, ?_, ?_, ?_⟩).1, ?_, ?_, rfl⟩
          · rw [hms]; exact perm_set q5 g2 (by rw [Array.getElem?_toList]; exact g1)
          · rw [setM_keys, ← q6, List.map_set]
            apply List.ext_getElem?
            intro i
            rw [List.getElem?_set]
            by_cases hji : j = i
            · subst hji; rw [if_pos rfl, if_pos (by simpa using hj), List.getElem?_map, g2]; simp [g3]
            · rw [if_neg hji]
          · rw [setM_vals, List.map_set, Nat.zero_add]
            refine ⟨by simpa using q7.1, fun i a b ha hb' => ?_⟩
            rw [List.getElem?_set] at ha hb'
            by_cases hji : j = i
            · rw [if_pos hji] at ha hb'
              split at ha
              · split at hb'
                · cases ha; cases hb'; exact hv
                · cases hb'
              · cases ha
            · rw [if_neg hji] at ha hb'
              exact q7.2 i a b ha hb'
          all_goals
            have hfin := fin ι base w l os (os.modify q fun e => { e with key := key', val := v' }) clock clock (setM ents (0 + j) v) hr hl q1 q2 (fun e => setM_flat (qf e) (hfv e)) (by rw [setM_keys]; exact q3) (by rw [setM_keys]; exact q4)
          · exact (hfin ⟨rs.set j { e with key := key', val := v' }, by rw [hms]; exact perm_set q5 g2 (by rw [Array.getElem?_toList]; exact g1), by
              rw [setM_keys, ← q6, List.map_set]
              apply List.ext_getElem?
              intro i
              rw [List.getElem?_set]
              by_cases hji : j = i
              · subst hji; rw [if_pos rfl, if_pos (by simpa using hj), List.getElem?_map, g2]; simp [g3]
              · rw [if_neg hji], by
              rw [setM_vals, List.map_set, Nat.zero_add]
              refine ⟨by simpa using q7.1, fun i a b ha hb' => ?_⟩
              rw [List.getElem?_set] at ha hb'
              by_cases hji : j = i
              · rw [if_pos hji] at ha hb'
                split at ha
                · split at hb'
                  · cases ha; cases hb'; exact hv
                  · cases hb'
                · cases ha
              · rw [if_neg hji] at ha hb'
                exact q7.2 i a b ha hb'⟩).2.1
          · exact fun b hb' => mods_set (fun _ _ => ⟨_, hb, rfl⟩) hb'
        · refine ⟨_, h1, by simp, fun ι base w m' key' v' hr hm hkey hv => ?_⟩
          obtain ⟨rfl, hself⟩ := keyV_VR hc.1 hkey
          obtain ⟨l, hl, rfl⟩ := hm.map_inv
          obtain ⟨os, clock, q1, q2, q3, q4, qf, rs, q5, q6, q7⟩ := map_mp hr hb hl
          obtain ⟨g4, hnot⟩ := (find_real (w := w) hD ht hc.1 hself hc.2 q3 q4 q5 q6 q7).2 h2
          have hrun : (Instr.mapUpdate t (.map (some l.b)) key' v').run P w = .ok () { w with heap := w.heap.setIfInBounds l.b (.map (os.push { key := key', val := v', born := clock }) (clock + 1)) } := by
            simp only [Instr.mapUpdate, Sem.run_bind, run_underlying hu, Result.andThen_ok, run_getMap q1, checkKey_run 8 10000 ht (keyV_wf hc.1) (by omega), g4, run_setMap _ q1]
          have hfin := fin ι base w l os (os.push { key := key', val := v', born := clock }) clock (clock + 1) (ents ++ [(key', v)]) hr hl q1 q2 (fun e p hp => by
            rcases List.mem_append.1 hp with hp | hp
            · exact qf e p hp
            · simp at hp; subst hp; exact hfv e) (by
            rw [List.map_append]
            refine List.nodup_append.2 ⟨q3, by simp, fun a ha b hb' => ?_⟩
            simp at hb'
            subst hb'
            exact fun e => hnot (e ▸ ha)) (by
            intro k hk2
            rw [List.map_append] at hk2
            rcases List.mem_append.1 hk2 with hk2 | hk2
            · exact q4 k hk2
            · simp at hk2; subst hk2; exact hself) ⟨rs ++ [{ key := key', val := v', born := clock }], by
              rw [Array.toList_push]; exact q5.append_right _, by rw [List.map_append, List.map_append, q6]; rfl, by
              rw [List.map_append, List.map_append]; exact q7.append (VRs.cons hv VRs.nil)⟩
          exact ⟨_, hrun, _, hfin.1, hfin.2.1, hfin.2.2, rfl⟩
      · cases hk
    · cases hk
  · cases hk

theorem op_upd {d : Option Bool} {t : TypeId} {x ix y : Operand} (hmod : modifies S s o.op = true) (he : ∀ (a : Act) (w : World), (execOp a.eval o).run P w = ((Instr.mapUpdate t (a.eval x) (a.eval ix) (a.eval y)).run P w).andThen fun _ w' => .ok .skip w')
    (hk : (match opnd s x, opnd s ix, opnd s y with | some m, some key, some v => updM P d h t m key v k | _, _, _ => none) = some out) : OpOut P S n s h o k out := by
  split at hk
  · rename_i m key v hm hkey hv
    obtain ⟨h', g1, g2, g3⟩ := updM_some hk
    refine ⟨_, _, g1, fun ι base w a hs hr next Q hn => ?_, g2, fun e => by rw [hmod] at e; cases e⟩
    obtain ⟨w', r1, _, r2, r3, r4, _⟩ := g3 ι base w _ _ _ hr (opnd_VR hs hm) (opnd_VR hs hkey) (opnd_VR hs hv)
    have hrun : (execOp a.eval o).run P w = .ok .skip w' := by rw [he, r1]; rfl
    simp only [Oper.wp, hrun, Oper.upon]
    rw [hmod] at hn
    exact hn undef w' ⟨ι, Map.le_refl _, fun id l hl => .inl hl, r2, VR.undef ι, r3, fun b hb _ => r4 b hb⟩
  · cases hk
theorem op_insert {t : TypeId} {x ix y : Operand} (ho : o.op = .insert t x ix y) (hk : opK P S s h (.insert t x ix y) k = some out) : OpOut P S n s h o k out :=
  op_upd (t := t) (x := x) (ix := ix) (y := y) (by rw [ho]; rfl) (fun a w => by simp only [execOp, ho, Sem.run_bind, Sem.run_pure]) hk
theorem op_mapUpdate {t : TypeId} {x ix y : Operand} (ho : o.op = .mapUpdate t x ix y) (hk : opK P S s h (.mapUpdate t x ix y) k = some out) : OpOut P S n s h o k out :=
  op_upd (t := t) (x := x) (ix := ix) (y := y) (by rw [ho]; rfl) (fun a w => by simp only [execOp, ho, Sem.run_bind, Sem.run_pure]) hk
end
end Go.Proofs.Ytcjjngdkkihgjaa.VC
