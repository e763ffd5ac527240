/- Slices. -/
import Derived.Test.YtcjjngdkkihgjaaVXM
import Derived.Laws.BytesString
import Derived.Laws.MakeOwn
import Derived.Laws.Append
namespace Go.Proofs.Ytcjjngdkkihgjaa.VC
open Go

section
variable {P : Program} {S : Spec} {n : Nat} {s : Slots} {h : Heap} {o : Oper} {k : Value → Heap → Out} {out : Res}

theorem op_buildSlice {t : TypeId} {len : Nat} {parts : Array (Nat × Operand)} (ho : o.op = .buildSlice t len parts) (hk : opK P S s h (.buildSlice t len parts) k = some out) : OpOut P S n s h o k out := by
  simp only [opK] at hk
  split at hk
  · rename_i elem ps hu hps
    split at hk
    · rename_i ie hie
      split at hk
      · rename_i z hz
        cases hc : z.cells.toList.all (fun v => plainV 6 v && isCell v) && decide (len * ie.size ≤ 2 ^ 24) && Nat.ble 1 ie.size && Nat.beq z.cells.size ie.size && ps.all (fun q => q.2.cells.toList.all isCell) with
        | false => rw [hc] at hk; cases hk
        | true =>
          rw [hc, cond_true] at hk
          simp only [Bool.and_eq_true, decide_eq_true_eq] at hc
          obtain ⟨⟨⟨⟨hp, hl⟩, h1⟩, hzs⟩, _⟩ := hc
          have h1 := ble_true h1
          have hzs := beq_true hzs
          split at hk
          · rename_i cs hcs
            refine ⟨_, _, hk, OpS_push fun ι base w a hs hr => ?_, by simp, fun _ => ⟨_, rfl⟩⟩
            have hz0 : VRs ι ((Array.range (len * ie.size)).map (z.cells[· % z.cells.size]!)).toList ((Array.range (len * ie.size)).map (z.cells[· % z.cells.size]!)).toList := by
              refine ⟨rfl, fun i v v' x1 x2 => ?_⟩
              rw [x1] at x2
              cases x2
              rw [Array.getElem?_toList, Array.getElem?_map] at x1
              obtain ⟨j, _, rfl⟩ := Option.map_eq_some_iff.1 x1
              have hj : j % z.cells.size < z.cells.size := Nat.mod_lt _ (by omega)
              have e : z.cells[j % z.cells.size]! = z.cells[j % z.cells.size] := by simp [hj]
              rw [e]
              have hm : z.cells[j % z.cells.size] ∈ z.cells.toList := by simp
              have := List.all_eq_true.1 hp _ hm
              rw [Bool.and_eq_true] at this
              exact plainV_VR ι 6 this.1
            obtain ⟨cs', f1, f2⟩ := fill_VR hcs (partsV_PRs hs hps) hz0
            obtain ⟨g1, g2⟩ := group_cells f2
            have f1' : Instr.fill (fun i => some (i * ie.size, ie.size)) ((Array.range (len * ie.size)).map (z.cells[· % z.cells.size]!)) ((parts.map fun (i, x) => (i, a.eval x)).toList) = some cs' := by
              rw [Array.toList_map]; exact f1
            refine ⟨.slice (some ⟨w.heap.size, 0, none⟩) len len, cs', elem, { w with heap := w.heap.push (.cells cs' elem) }, ?_, rfl, ⟨rfl, rfl, rfl⟩, g1, g2, fun ι' hl' => ?_⟩
            · have hA : ∀ (zero : Array Value), (len * ie.size = 0 ∨ zero = z.cells) → (Array.range (len * ie.size)).map (zero[· % zero.size]!) = (Array.range (len * ie.size)).map (z.cells[· % z.cells.size]!) := by
                rintro zero (e | rfl)
                · exact Array.ext (by simp) (fun i h => by simp [e] at h)
                · rfl
              simp only [execOp, ho, Instr.buildSlice, Sem.run_bind, run_underlying hu, Result.andThen_ok, run_sizeOf hie]
              rw [if_neg (by omega)]
              by_cases h0 : len * ie.size = 0
              · rw [if_pos h0]
                simp only [Sem.run_bind, Sem.run_pure, Result.andThen_ok]
                rw [hA #[] (.inl h0), f1']
                rfl
              · rw [if_neg h0]
                simp only [Sem.run_bind, Sem.run_pure, Result.andThen_ok, run_zeroValue hie hz]
                rw [f1']
                rfl
            · have hle : len ≤ len * ie.size := Nat.le_mul_of_pos_right _ (by omega)
              have h24 : (2 : Nat) ^ 24 = 16777216 := by decide
              exact .sl (l := ⟨w.heap.size, 0, cs'.size, ie.size⟩) hl' (by omega) (Nat.le_refl _) (fun _ => rfl) (fun h => by omega)
          · cases hk
      · cases hk
    · cases hk
  · cases hk

theorem run_sliceBound {w : World} {k : IntKind} {i : Int} {y : Nat} {code : BoundsCode} (hh : 0 ≤ i ∧ i ≤ y) : (Instr.sliceBound (.int k i) y code).run P w = .ok i.toNat w := by
  simp [Instr.sliceBound, asIntOf, hh.1, hh.2]

/-- An end of a range, abstract and real. -/
def BR (i : Option Int) (v : Option Value) : Prop := (i = none ∧ v = none) ∨ ∃ k x, i = some x ∧ v = some (.int k x)

theorem run_sliceBounds {w : World} {isSlice : Bool} {len cap : Nat} {lo hi mx : Option Int} {lo' hi' mx' : Option Value} (h1 : BR lo lo') (h2 : BR hi hi') (h3 : BR mx mx') (hm : mx ≠ none → hi ≠ none)
    (_hl : len ≤ cap) (a0 : 0 ≤ lo.getD 0) (a1 : lo.getD 0 ≤ hi.getD len) (a2 : hi.getD len ≤ mx.getD cap) (a3 : mx.getD cap ≤ cap) :
    (Instr.sliceBounds isSlice len cap lo' hi' mx').run P w = .ok ((lo.getD 0).toNat, (hi.getD len).toNat, (mx.getD cap).toNat) w := by
  unfold Instr.sliceBounds
  rcases h3 with ⟨rfl, rfl⟩ | ⟨k3, x3, rfl, rfl⟩ <;> rcases h2 with ⟨rfl, rfl⟩ | ⟨k2, x2, rfl, rfl⟩ <;> rcases h1 with ⟨rfl, rfl⟩ | ⟨k1, x1, rfl, rfl⟩ <;>
    simp only [Option.getD_none, Option.getD_some] at a0 a1 a2 a3 ⊢
  · simp
  · simp only [Sem.run_bind, Sem.run_pure, Result.andThen_ok, run_sliceBound (show 0 ≤ x1 ∧ x1 ≤ (len : Int) by omega)]
    simp
  · simp only [Sem.run_bind, Sem.run_pure, Result.andThen_ok, run_sliceBound (show 0 ≤ x2 ∧ x2 ≤ (cap : Int) by omega)]
    simp
  · simp only [Sem.run_bind, Sem.run_pure, Result.andThen_ok, run_sliceBound (show 0 ≤ x2 ∧ x2 ≤ (cap : Int) by omega), run_sliceBound (show 0 ≤ x1 ∧ x1 ≤ ((x2.toNat : Nat) : Int) by omega)]
    simp
  · exact (hm (by simp) rfl).elim
  · exact (hm (by simp) rfl).elim
  · simp only [Sem.run_bind, Sem.run_pure, Result.andThen_ok, run_sliceBound (show 0 ≤ x3 ∧ x3 ≤ (cap : Int) by omega), run_sliceBound (show 0 ≤ x2 ∧ x2 ≤ ((x3.toNat : Nat) : Int) by omega)]
    simp
  · simp only [Sem.run_bind, Sem.run_pure, Result.andThen_ok, run_sliceBound (show 0 ≤ x3 ∧ x3 ≤ (cap : Int) by omega), run_sliceBound (show 0 ≤ x2 ∧ x2 ≤ ((x3.toNat : Nat) : Int) by omega),
      run_sliceBound (show 0 ≤ x1 ∧ x1 ≤ ((x2.toNat : Nat) : Int) by omega)]

theorem boundI_BR {v : Option Value} {i : Option Int} (hv : boundI v = some i) {ι : Map} {x : Option Operand} {a : Act} (hx : (x = none ∧ v = none) ∨ ∃ o u, x = some o ∧ v = some u ∧ VR ι u (a.eval o)) :
    BR i (x.map a.eval) := by
  rcases hx with ⟨rfl, rfl⟩ | ⟨o, u, rfl, rfl, hu⟩
  · simp [boundI] at hv; exact .inl ⟨hv.symm, rfl⟩
  · cases u <;> simp [boundI] at hv
    subst hv
    exact .inr ⟨_, _, rfl, congrArg some hu.int_inv.1⟩

end
end Go.Proofs.Ytcjjngdkkihgjaa.VC

/- Slicing. -/
namespace Go.Proofs.Ytcjjngdkkihgjaa.VC
open Go

section
variable {P : Program} {S : Spec} {n : Nat} {s : Slots} {h : Heap} {o : Oper} {k : Value → Heap → Out} {out : Res}

/-- What is shown of slicing. -/
def SlS (P : Program) (h : Heap) (t : TypeId) (v : Value) (lo hi mx : Option Int) (v2 : Value) : Prop :=
  ∀ (ι : Map) (base : Nat) (w : World) (v' : Value) (lo' hi' mx' : Option Value), HR ι base h w → VR ι v v' → BR lo lo' → BR hi hi' → BR mx mx' →
    ∃ v2', (Instr.sliceAt t v' lo' hi' mx').run P w = .ok v2' w ∧ VR ι v2 v2'

theorem BR.none_inv {v : Option Value} (hb : BR none v) : v = none := by
  rcases hb with ⟨_, e⟩ | ⟨_, _, e, _⟩
  · exact e
  · cases e

theorem sl_string {t : TypeId} {str : ByteArray} {lo hi : Option Int} (hu : P.underlying t = some .string) (a0 : 0 ≤ lo.getD 0) (a1 : lo.getD 0 ≤ hi.getD str.size) (a2 : hi.getD str.size ≤ str.size) :
    SlS P h t (.string str) lo hi none (.string (str.extract (lo.getD 0).toNat (hi.getD str.size).toNat)) := by
  intro ι base w v' lo' hi' mx' hr hv h1 h2 h3
  obtain ⟨rfl, hs⟩ := hv.string_inv
  have := h3.none_inv
  subst this
  have hb := run_sliceBounds (P := P) (w := w) (isSlice := false) (len := str.size) (cap := str.size) h1 h2 (.inl ⟨rfl, rfl⟩ : BR none none) (fun x => (x rfl).elim) (Nat.le_refl _) a0 a1 a2 (Int.le_refl _)
  refine ⟨_, ?_, .string _ (by rw [ByteArray.size_extract]; omega)⟩
  simp only [Instr.sliceAt, Instr.slice, Sem.run_bind, run_underlying hu, Result.andThen_ok, Option.isSome_none, Bool.false_eq_true, if_false, Sem.run_pure, hb]

theorem sl_nil {t elem : TypeId} {inf : TypeInfo} {lo hi : Option Int} (hu : P.underlying t = some (.slice elem)) (hi' : P.info? elem = some inf) (a0 : lo.getD 0 = 0) (a1 : hi.getD 0 = 0) : SlS P h t (.slice none 0 0) lo hi none (.slice none 0 0) := by
  intro ι base w v' lo' hi2 mx' hr hv h1 h2 h3
  rw [hv.slNil_inv.1]
  have := h3.none_inv
  subst this
  have hb := run_sliceBounds (P := P) (w := w) (isSlice := true) (len := 0) (cap := 0) h1 h2 (.inl ⟨rfl, rfl⟩ : BR none none) (fun x => (x rfl).elim) (Nat.le_refl _) (by omega) (by simp; omega) (by simp; omega) (Int.le_refl _)
  refine ⟨.slice none 0 0, ?_, .slNil⟩
  simp only [Instr.sliceAt, Instr.slice, Sem.run_bind, run_underlying hu, Result.andThen_ok, hb, run_sizeOf hi', Sem.run_pure]
  have e : hi.getD ((0 : Nat) : Int) = 0 := a1
  rw [a0, e]
  simp

theorem sl_arr {t elem : TypeId} {inf : TypeInfo} {m id off : Nat} {lo hi : Option Int} (hu : P.underlying t = some (.array m elem)) (hi' : P.info? elem = some inf) (a0 : 0 ≤ lo.getD 0) (a1 : lo.getD 0 ≤ hi.getD m) (a2 : hi.getD m ≤ m)
    (a3 : m ≤ 4611686018427387904) : SlS P h t (.pointer (some ⟨id, off, none⟩)) lo hi none (.slice (some ⟨id, off + (lo.getD 0).toNat * inf.size, none⟩) (hi.getD m - lo.getD 0).toNat 2) := by
  intro ι base w v' lo' hi2 mx' hr hv h1 h2 h3
  obtain ⟨l, hl, rfl⟩ := hv.ptr_inv
  have := h3.none_inv
  subst this
  have hb := run_sliceBounds (P := P) (w := w) (isSlice := false) (len := m) (cap := m) h1 h2 (.inl ⟨rfl, rfl⟩ : BR none none) (fun x => (x rfl).elim) (Nat.le_refl _) a0 a1 a2 (Int.le_refl _)
  have hrun : (Instr.sliceAt t (.pointer (some ⟨l.b, l.o + off, none⟩)) lo' hi2 none).run P w = .ok (.slice (some (if m = (lo.getD 0).toNat then ⟨l.b, l.o + off, none⟩ else ⟨l.b, l.o + off + (lo.getD 0).toNat * inf.size, none⟩))
      ((hi.getD m).toNat - (lo.getD 0).toNat) (m - (lo.getD 0).toNat)) w := by
    simp only [Instr.sliceAt, Instr.sureAddr, Sem.run_bind, run_underlying hu, Result.andThen_ok, hb, run_sizeOf hi', Sem.run_pure, addr_add, Option.getD_none, Int.toNat_natCast]
  refine ⟨_, hrun, ?_⟩
  rw [show (hi.getD m - lo.getD 0).toNat = (hi.getD m).toNat - (lo.getD 0).toNat by omega]
  by_cases hz : m = (lo.getD 0).toNat
  · rw [if_pos hz, show (hi.getD m).toNat - (lo.getD 0).toNat = 0 by omega, show m - (lo.getD 0).toNat = 0 by omega]
    exact .slZero _
  · rw [if_neg hz, Nat.add_assoc]
    exact .sl hl (by omega) (by omega) (fun e => by cases e) (fun e => by cases e)

theorem sl_sl {t elem : TypeId} {inf : TypeInfo} {id off len c c2 : Nat} {lo hi mx : Option Int} (hu : P.underlying t = some (.slice elem)) (hi' : P.info? elem = some inf) (a0 : 0 ≤ lo.getD 0) (a1 : lo.getD 0 ≤ hi.getD len) (a2 : hi.getD len ≤ len)
    (hm1 : mx = none ∨ (mx = some (hi.getD len) ∧ hi ≠ none)) (hm2 : c2 = 0 → (mx = some (hi.getD len)) ∨ (mx = none ∧ hi = none ∧ c = 0)) (hm3 : c2 = 1 → mx = none ∧ c = 1 ∧ ∃ b, h[id]? = some (some b) ∧ b.es = inf.size) :
    SlS P h t (.slice (some ⟨id, off, none⟩) len c) lo hi mx (.slice (some ⟨id, off + (lo.getD 0).toNat * inf.size, none⟩) (hi.getD len - lo.getD 0).toNat c2) := by
  intro ι base w v' lo' hi2 mx' hr hv h1 h2 h3
  have hmh : mx ≠ none → hi ≠ none := by
    rcases hm1 with rfl | ⟨_, e⟩
    · intro x; exact (x rfl).elim
    · intro _; exact e
  rcases hv.sl_inv with ⟨ad, rfl, rfl⟩ | ⟨lc, c', hl, hlen, hcap, ht, ha, rfl⟩
  · have z2 : hi.getD ((0 : Nat) : Int) = 0 := by omega
    have z1 : lo.getD 0 = 0 := by omega
    have z3 : mx.getD ((0 : Nat) : Int) = 0 := by
      rcases hm1 with rfl | ⟨rfl, _⟩
      · rfl
      · exact z2
    have hb := run_sliceBounds (P := P) (w := w) (isSlice := true) (len := 0) (cap := 0) h1 h2 h3 hmh (Nat.le_refl _) (by omega) (by omega) (by omega) (by omega)
    refine ⟨.slice ad 0 0, ?_, ?_⟩
    · simp only [Instr.sliceAt, Instr.slice, Sem.run_bind, run_underlying hu, Result.andThen_ok, hb, run_sizeOf hi', Sem.run_pure]
      rw [z1, z2, z3]
      simp
    · rw [show (hi.getD ((0 : Nat) : Int) - lo.getD 0).toNat = 0 by omega]
      exact .slZero ad
  · have hmc : hi.getD len ≤ mx.getD c' ∧ mx.getD c' ≤ c' := by
      rcases hm1 with rfl | ⟨rfl, _⟩
      · simp only [Option.getD_none]; omega
      · simp only [Option.getD_some]; omega
    have hb := run_sliceBounds (P := P) (w := w) (isSlice := true) (len := len) (cap := c') h1 h2 h3 hmh hcap a0 a1 hmc.1 hmc.2
    have hrun : (Instr.sliceAt t (.slice (some ⟨lc.b, lc.o + off, none⟩) len c') lo' hi2 mx').run P w = .ok (.slice (if (mx.getD c').toNat = (lo.getD 0).toNat then some ⟨lc.b, lc.o + off, none⟩ else some ⟨lc.b, lc.o + off + (lo.getD 0).toNat * inf.size, none⟩)
        ((hi.getD len).toNat - (lo.getD 0).toNat) ((mx.getD c').toNat - (lo.getD 0).toNat)) w := by
      simp only [Instr.sliceAt, Instr.slice, Sem.run_bind, run_underlying hu, Result.andThen_ok, hb, run_sizeOf hi', Sem.run_pure, Option.map_some, addr_add]
    refine ⟨_, hrun, ?_⟩
    rw [show (hi.getD len - lo.getD 0).toNat = (hi.getD len).toNat - (lo.getD 0).toNat by omega]
    by_cases hz : (mx.getD c').toNat = (lo.getD 0).toNat
    · rw [if_pos hz, show (hi.getD len).toNat - (lo.getD 0).toNat = 0 by omega, show (mx.getD c').toNat - (lo.getD 0).toNat = 0 by omega]
      exact .slZero _
    · rw [if_neg hz, Nat.add_assoc]
      refine .sl hl (by omega) (by omega) (fun e => ?_) (fun e => ?_)
      · rcases hm2 e with rfl | ⟨rfl, rfl, rfl⟩
        · simp only [Option.getD_some]
        · have := ht rfl
          simp only [Option.getD_none]; omega
      · obtain ⟨rfl, rfl, b, hb, hes⟩ := hm3 e
        have hroom := ha rfl
        · rw [← hes, hr.es hb hl]
          simp only [Option.getD_none, Int.toNat_natCast] at hz hmc ⊢
          have h9 : (lo.getD 0).toNat ≤ c' := by omega
          have : (lo.getD 0).toNat * lc.es + (c' - (lo.getD 0).toNat) * lc.es = c' * lc.es := by rw [← Nat.add_mul]; congr 1; omega
          omega

theorem bif_some {x y : Out} {q : Bool} (hq : (bif q then x else y) = some out) : (q = true ∧ x = some out) ∨ (q = false ∧ y = some out) := by
  cases q
  · exact .inr ⟨rfl, hq⟩
  · exact .inl ⟨rfl, hq⟩

theorem bif_none {x : Out} {q : Bool} (hq : (bif q then x else none) = some out) : q = true ∧ x = some out := by
  cases q
  · cases hq
  · exact ⟨rfl, hq⟩

theorem sliceK_some {t : TypeId} {v : Value} {lo hi mx : Option Int} {kk : Value → Out} (hk : sliceK P h t v lo hi mx kk = some out) : ∃ v2, kk v2 = some out ∧ SlS P h t v lo hi mx v2 := by
  unfold sliceK at hk
  split at hk
  · rename_i str hu
    split at hk
    · cases hk
    · obtain ⟨hc, hk⟩ := bif_none hk
      simp only [Bool.and_eq_true, decide_eq_true_eq] at hc
      exact ⟨_, hk, sl_string hu hc.1.1 hc.1.2 hc.2⟩
  · rename_i elem id off len c hu
    split at hk
    · cases hk
    · rename_i inf hi'
      obtain ⟨hc, hk⟩ := bif_none hk
      simp only [Bool.and_eq_true, decide_eq_true_eq] at hc
      have app : (Nat.beq c 1 && (match getB h id with | some b => Nat.beq b.es inf.size | none => false)) = true → c = 1 ∧ ∃ b, h[id]? = some (some b) ∧ b.es = inf.size := by
        intro hq
        rw [Bool.and_eq_true] at hq
        refine ⟨beq_true hq.1, ?_⟩
        have := hq.2
        split at this
        · rename_i b hb; exact ⟨b, getB_some hb, beq_true this⟩
        · cases this
      split at hk
      · split at hk
        · obtain ⟨e, hk⟩ := bif_none hk
          simp only [decide_eq_true_eq] at e
          exact ⟨_, hk, sl_sl hu hi' hc.1.1 hc.1.2 hc.2 (.inr ⟨congrArg some e, by simp⟩) (fun _ => .inl (congrArg some e)) (fun x => by cases x)⟩
        · cases hk
      · split at hk
        · rcases bif_some hk with ⟨e, hk⟩ | ⟨_, hk⟩
          · exact ⟨_, hk, sl_sl hu hi' hc.1.1 hc.1.2 hc.2 (.inl rfl) (fun _ => .inr ⟨rfl, rfl, beq_true e⟩) (fun x => by cases x)⟩
          · rcases bif_some hk with ⟨e, hk⟩ | ⟨_, hk⟩
            · obtain ⟨q1, q2⟩ := app e
              exact ⟨_, hk, sl_sl hu hi' hc.1.1 hc.1.2 hc.2 (.inl rfl) (fun x => by cases x) (fun _ => ⟨rfl, q1, q2⟩)⟩
            · exact ⟨_, hk, sl_sl hu hi' hc.1.1 hc.1.2 hc.2 (.inl rfl) (fun x => by cases x) (fun x => by cases x)⟩
        · rcases bif_some hk with ⟨e, hk⟩ | ⟨_, hk⟩
          · obtain ⟨q1, q2⟩ := app e
            exact ⟨_, hk, sl_sl hu hi' hc.1.1 hc.1.2 hc.2 (.inl rfl) (fun x => by cases x) (fun _ => ⟨rfl, q1, q2⟩)⟩
          · exact ⟨_, hk, sl_sl hu hi' hc.1.1 hc.1.2 hc.2 (.inl rfl) (fun x => by cases x) (fun x => by cases x)⟩
  · rename_i elem hu
    split at hk
    · cases hk
    · rename_i inf hi'
      split at hk
      · cases hk
      · obtain ⟨hc, hk⟩ := bif_none hk
        simp only [Bool.and_eq_true, decide_eq_true_eq] at hc
        exact ⟨_, hk, sl_nil hu hi' hc.1 hc.2⟩
  · rename_i m2 elem id off hu
    split at hk
    · cases hk
    · rename_i inf hi'
      split at hk
      · cases hk
      · obtain ⟨hc, hk⟩ := bif_none hk
        simp only [Bool.and_eq_true, decide_eq_true_eq] at hc
        exact ⟨_, hk, sl_arr hu hi' hc.1.1.1 hc.1.1.2 hc.1.2 hc.2⟩
  · cases hk

theorem op_slice {t : TypeId} {x : Operand} {lo hi mx : Option Operand} (ho : o.op = .slice t x lo hi mx) (hk : opK P S s h (.slice t x lo hi mx) k = some out) : OpOut P S n s h o k out := by
  simp only [opK] at hk
  split at hk
  · rename_i v l hh m h1 h2 h3 h4
    split at hk
    · rename_i l hh m h5 h6 h7
      obtain ⟨v2, q1, q2⟩ := sliceK_some hk
      refine .pure q1 fun ι base w a hs hr => ?_
      obtain ⟨v2', p1, p2⟩ := q2 ι base w _ _ _ _ hr (opnd_VR hs h1) (boundI_BR h5 (opnd?_VR hs h2)) (boundI_BR h6 (opnd?_VR hs h3)) (boundI_BR h7 (opnd?_VR hs h4))
      exact ⟨v2', by simp only [execOp, ho, Sem.run_bind, p1, Result.andThen_ok, Sem.run_pure], p2⟩
    · cases hk
  · cases hk
end
end Go.Proofs.Ytcjjngdkkihgjaa.VC

/- Append, the other builtins, calls; all operations together. -/
namespace Go.Proofs.Ytcjjngdkkihgjaa.VC
open Go

section
variable {P : Program} {S : Spec} {n : Nat} {s : Slots} {h : Heap} {o : Oper} {k : Value → Heap → Out} {out : Res}

theorem takeK_ex : ∀ {sg : List Seg} {m : Nat} {kk : List Seg → Out}, takeK sg m kk = some out → ∃ sg', kk sg' = some out
  | [], m, kk, h => by simp only [takeK] at h; obtain ⟨_, h⟩ := bif_none h; exact ⟨_, h⟩
  | .vals vs :: r, m, kk, h => by
    rw [takeK_vals] at h
    rcases bif_some h with ⟨_, h⟩ | ⟨_, h⟩
    · exact ⟨_, h⟩
    rcases bif_some h with ⟨_, h⟩ | ⟨_, h⟩
    · exact ⟨_, h⟩
    · obtain ⟨_, h⟩ := takeK_ex (takeR_some h); exact ⟨_, h⟩
  | .ints ik n xs :: r, m, kk, h => by
    rw [takeK_ints] at h
    rcases bif_some h with ⟨_, h⟩ | ⟨_, h⟩
    · exact ⟨_, h⟩
    · obtain ⟨_, h⟩ := takeK_ex (takeR_some h); exact ⟨_, h⟩
  | .any n xs :: r, m, kk, h => by
    rw [takeK_any] at h
    rcases bif_some h with ⟨_, h⟩ | ⟨_, h⟩
    · exact ⟨_, h⟩
    · obtain ⟨_, h⟩ := takeK_ex (takeR_some h); exact ⟨_, h⟩

theorem dropK_ex : ∀ {sg : List Seg} {m : Nat} {kk : List Seg → Out}, dropK sg m kk = some out → ∃ sg', kk sg' = some out
  | [], m, kk, h => by simp only [dropK] at h; obtain ⟨_, h⟩ := bif_none h; exact ⟨_, h⟩
  | .vals vs :: r, m, kk, h => by
    rcases dropK_vals h with ⟨_, h⟩ | ⟨_, h⟩
    · exact ⟨_, h⟩
    · exact dropK_ex h
  | .ints ik n xs :: r, m, kk, h => by
    rcases dropK_ints h with ⟨_, h⟩ | ⟨_, h⟩
    · exact ⟨_, h⟩
    · exact dropK_ex h
  | .any n xs :: r, m, kk, h => by
    rcases dropK_any h with ⟨_, h⟩ | ⟨_, h⟩
    · exact ⟨_, h⟩
    · exact dropK_ex h

/-- What a slice or a string holds, abstract and real. -/
def CellsS (P : Program) (h : Heap) (es : Nat) (v : Value) (m : Nat) (sg : List Seg) : Prop :=
  ∀ (ι : Map) (base : Nat) (w : World) (v' : Value), HR ι base h w → VR ι v v' → (Builtin.lenOf v').run P w = .ok m w ∧ ∃ cs', (Builtin.firstCells es m v').run P w = .ok cs' w ∧
    cs'.size = m * es ∧ segsOK sg ∧ segsLen sg = m * es ∧ ∀ (i : Nat) (u : Value), cell? sg i = some u → ∃ u', cs'[i]? = some u' ∧ VR ι u u'

theorem strInts_get (str : ByteArray) (i : Nat) : (strInts str).getD i 0 = (((str.data.toList[i]?).map fun b => ((b.toNat : Nat) : Int)).getD 0) := by
  simp [strInts]

/-- The same of the first elements. -/
def CellsP (P : Program) (h : Heap) (es : Nat) (v : Value) (m : Nat) (sg : List Seg) : Prop :=
  ∀ (ι : Map) (base : Nat) (w : World) (v' : Value), HR ι base h w → VR ι v v' → ∀ m', m' ≤ m → ∃ cs', (Builtin.firstCells es m' v').run P w = .ok cs' w ∧
    cs'.size = m' * es ∧ ∀ (i : Nat) (u : Value), cell? sg i = some u → i < m' * es → ∃ u', cs'[i]? = some u' ∧ VR ι u u'

theorem cellsK_pre {es : Nat} {v : Value} {kk : Nat → List Seg → Out} (hk : cellsK h es v kk = some out) : ∃ m sg, kk m sg = some out ∧ CellsS P h es v m sg ∧ CellsP P h es v m sg := by
  unfold cellsK at hk
  split at hk
  · refine ⟨_, _, hk, fun ι base w v' hr hv => ?_, fun ι base w v' hr hv m' hm => ?_⟩
    rw [hv.slNil_inv.1]
    case refine_2 => rw [hv.slNil_inv.1]; exact ⟨#[], by simp [Builtin.firstCells], by simp at hm; simp [hm], fun i u hu => by simp [cell?] at hu⟩
    exact ⟨by simp [Builtin.lenOf], #[], by simp [Builtin.firstCells], by simp, segsOK_nil, by simp [segsLen], fun i u hu => by simp [cell?] at hu⟩
  · rename_i s0 n0 _
    obtain ⟨hb0, hk⟩ := bif_none hk
    simp only [Bool.and_eq_true] at hb0
    have e1 := beq_true hb0.1
    have e2 := beq_true hb0.2
    subst e1; subst e2
    refine ⟨_, _, hk, fun ι base w v' hr hv => ?_, fun ι base w v' hr hv m' hm => ?_⟩
    · cases hv
      exact ⟨by simp [Builtin.lenOf], #[], by simp [Builtin.firstCells, loadCells, loadCellsFrom], by simp, segsOK_nil, by simp [segsLen], fun i u hu => by simp [cell?] at hu⟩
    · cases hv
      obtain rfl : m' = 0 := by omega
      exact ⟨#[], by simp [Builtin.firstCells, loadCells, loadCellsFrom], by simp, fun i u hu => by simp [cell?] at hu⟩
  · rename_i id off m c
    split at hk
    · rename_i b hb
      have hb := getB_some hb
      by_cases hok : segsOK b.segs
      · obtain ⟨l1, d1, d2, d3, d4, d5⟩ := dropK_some hk hok
        obtain ⟨l2, t1, t2, t3, t4, t5⟩ := takeK_some d1 d4
        refine ⟨_, _, t1, fun ι base w v' hr hv => ?_, fun ι base w v' hr hv m' hm => ?_⟩
        case refine_2 =>
          rcases hv.sl_inv with ⟨ad, rfl, rfl⟩ | ⟨lc, c', hl, hlen, hcap, ht, ha, rfl⟩
          · have : m' = 0 := by omega
            subst this
            refine ⟨#[], ?_, by simp, fun i u hu hi => by omega⟩
            cases ad <;> simp [Builtin.firstCells, loadCells, loadCellsFrom]
          · rcases hr.live id b hb with ⟨p1, _⟩ | ⟨l', p1, ⟨cc, T, fr, q1, q2, q3, q4, q5, q6⟩ | ⟨_, _, _, _, q2, _⟩⟩
            · rw [hl] at p1; cases p1
            rotate_left
            · obtain ⟨_, q2, _⟩ := q2; rw [q2] at hok; exact (segsOK_mp hok).elim
            rw [hl] at p1
            simp only [Option.some.injEq] at p1
            subst p1
            have hmm : m' * es ≤ m * es := Nat.mul_le_mul_right _ hm
            by_cases hz : m' * es = 0
            · exact ⟨#[], by simp [Builtin.firstCells, loadCells, loadCellsFrom, hz], by simp [hz], fun i u hu hi => by omega⟩
            · have hlast : lc.o + off + m' * es ≤ cc.size := by
                obtain ⟨u, hu⟩ := cell?_some (sg := b.segs) (i := off + (m' * es - 1)) (by omega)
                obtain ⟨v', a, _⟩ := q5 _ _ hu
                have := (Array.getElem?_eq_some_iff.1 a).1
                omega
              refine ⟨cc.extract (lc.o + off) (lc.o + off + m' * es), by simp only [Builtin.firstCells]; exact run_loadCells_rel q1 hlast, by simp; omega, fun i u hu hi => ?_⟩
              rw [t5 i (by omega), d5] at hu
              obtain ⟨u', a1, a2⟩ := q5 _ _ hu
              refine ⟨u', ?_, a2⟩
              rw [Array.getElem?_extract_of_lt (by omega)]
              rw [show lc.o + (off + i) = lc.o + off + i by omega] at a1
              rw [← a1, Array.getElem?_eq_getElem (by omega)]
        rcases hv.sl_inv with ⟨ad, rfl, rfl⟩ | ⟨lc, c', hl, hlen, hcap, ht, ha, rfl⟩
        · refine ⟨by simp [Builtin.lenOf], #[], ?_, by simp, t4, t3, fun i u hu => ?_⟩
          · cases ad <;> simp [Builtin.firstCells, loadCells, loadCellsFrom]
          · have := cell?_lt hu
            omega
        · rcases hr.live id b hb with ⟨p1, _⟩ | ⟨l', p1, ⟨cc, T, fr, q1, q2, q3, q4, q5, q6⟩ | ⟨_, _, _, _, q2, _⟩⟩
          · rw [hl] at p1; cases p1
          rotate_left
          · obtain ⟨_, q2, _⟩ := q2; rw [q2] at hok; exact (segsOK_mp hok).elim
          rw [hl] at p1
          simp only [Option.some.injEq] at p1
          subst p1
          refine ⟨by simp [Builtin.lenOf], ?_⟩
          by_cases hz : m * es = 0
          · refine ⟨#[], by simp [Builtin.firstCells, loadCells, loadCellsFrom, hz], by simp [hz], t4, t3, fun i u hu => ?_⟩
            have := cell?_lt hu
            omega
          · have hlast : lc.o + off + m * es ≤ cc.size := by
              obtain ⟨u, hu⟩ := cell?_some (sg := b.segs) (i := off + (m * es - 1)) (by omega)
              obtain ⟨v', a, _⟩ := q5 _ _ hu
              have := (Array.getElem?_eq_some_iff.1 a).1
              omega
            refine ⟨cc.extract (lc.o + off) (lc.o + off + m * es), by simp only [Builtin.firstCells]; exact run_loadCells_rel q1 hlast, by simp; omega, t4, t3, fun i u hu => ?_⟩
            have hi := cell?_lt hu
            rw [t5 i (by omega), d5] at hu
            obtain ⟨u', a1, a2⟩ := q5 _ _ hu
            refine ⟨u', ?_, a2⟩
            rw [Array.getElem?_extract_of_lt (by omega)]
            rw [show lc.o + (off + i) = lc.o + off + i by omega] at a1
            rw [← a1, Array.getElem?_eq_getElem (by omega)]
      · obtain ⟨_, h1⟩ := dropK_ex hk
        obtain ⟨_, h2⟩ := takeK_ex h1
        have no : ∀ (ι : Map) (base : Nat) (w : World), HR ι base h w → False := fun ι base w hr => by
          rcases hr.live id b hb with ⟨p1, p2⟩ | ⟨l', p1, ⟨cc, T, fr, q1, q2, q3, q4, q5, q6⟩ | ⟨_, _, _, _, q2, _⟩⟩
          · exact hok p2.1
          · exact hok q4
          · obtain ⟨_, q2, _⟩ := q2; rw [q2] at hk; cases hk
        exact ⟨_, _, h2, fun ι base w v' hr hv => (no ι base w hr).elim, fun ι base w v' hr hv => (no ι base w hr).elim⟩
    · cases hk
  · rename_i str
    obtain ⟨he, hk⟩ := bif_none hk
    have he := beq_true he
    subst he
    have bytes : ∀ (ι : Map) (m' i : Nat) (u : Value), m' ≤ str.size → cell? [.ints .u8 str.size (strInts str)] i = some u → i < m' → ∃ u', ((str.extract 0 m').data.map fun b => Value.int .u8 b.toNat)[i]? = some u' ∧ VR ι u u' := by
      intro ι m' i u hm hu hi
      simp only [cell?] at hu
      rw [if_pos (by omega)] at hu
      simp only [Option.some.injEq] at hu
      subst hu
      have h1 : i < str.data.size := by show i < str.size; omega
      refine ⟨.int .u8 (str.data[i].toNat : Int), ?_, ?_⟩
      · rw [Array.getElem?_map, ByteArray.data_extract, Array.getElem?_extract_of_lt (by omega)]
        simp
      · rw [strInts_get, Array.getElem?_toList, Array.getElem?_eq_getElem h1]
        simp only [Option.map_some, Option.getD_some]
        have := UInt8.toNat_lt str.data[i]
        have e1 : IntKind.u8.min = 0 := by decide
        have e2 : IntKind.u8.max = 255 := by decide
        exact .int _ _ (by rw [e1, e2]; omega)
    refine ⟨_, _, hk, fun ι base w v' hr hv => ?_, fun ι base w v' hr hv m' hm => ?_⟩
    case refine_2 =>
      obtain ⟨rfl, hs⟩ := hv.string_inv
      refine ⟨(str.extract 0 m').data.map fun b => .int .u8 b.toNat, by simp only [Builtin.firstCells, Sem.run_pure], ?_, fun i u hu hi => bytes ι m' i u hm hu (by omega)⟩
      have : str.data.size = str.size := rfl
      simp only [Array.size_map, ByteArray.data_extract, Array.size_extract]
      omega
    obtain ⟨rfl, hs⟩ := hv.string_inv
    have hsz : (strInts str).length = str.size := by
      simp only [strInts, List.length_map, Array.length_toList]
      rfl
    refine ⟨by simp [Builtin.lenOf], (str.extract 0 str.size).data.map fun b => .int .u8 b.toNat, by simp only [Builtin.firstCells, Sem.run_pure], ?_, ?_, by simp [segsLen, segLen], fun i u hu => ?_⟩
    · simp [ByteArray.extract_zero_size]
    · refine segsOK_cons.2 ⟨⟨hsz, fun x hx => ?_⟩, segsOK_nil⟩
      simp only [strInts, List.mem_map] at hx
      obtain ⟨b, _, rfl⟩ := hx
      have := UInt8.toNat_lt b
      have e1 : IntKind.u8.min = 0 := by decide
      have e2 : IntKind.u8.max = 255 := by decide
      rw [e1, e2]
      omega
    · simp only [cell?] at hu
      by_cases hi : i < str.size
      · rw [if_pos hi] at hu
        simp only [Option.some.injEq] at hu
        subst hu
        have h1 : i < str.data.size := hi
        refine ⟨.int .u8 (str.data[i].toNat : Int), ?_, ?_⟩
        · rw [ByteArray.extract_zero_size, Array.getElem?_map, Array.getElem?_eq_getElem h1]
          rfl
        · rw [strInts_get, Array.getElem?_toList, Array.getElem?_eq_getElem h1]
          simp only [Option.map_some, Option.getD_some]
          have := UInt8.toNat_lt str.data[i]
          have e1 : IntKind.u8.min = 0 := by decide
          have e2 : IntKind.u8.max = 255 := by decide
          exact .int _ _ (by rw [e1, e2]; omega)
      · rw [if_neg hi] at hu; cases hu
  · cases hk

theorem cellsK_some {es : Nat} {v : Value} {kk : Nat → List Seg → Out} (hk : cellsK h es v kk = some out) : ∃ m sg, kk m sg = some out ∧ CellsS P h es v m sg := by
  obtain ⟨m, sg, a, b, _⟩ := cellsK_pre hk
  exact ⟨m, sg, a, b⟩

theorem HR_phantom {ι : Map} {base : Nat} {w : World} {sg : List Seg} {es : Nat} (hr : HR ι base h w) (hok : segsOK sg) (hl : segsLen sg = 0) : HR ι base (h ++ [some ⟨true, es, sg⟩]) w := by
  have hf := hr.fresh (Nat.le_refl _)
  have split : ∀ (id : Nat) (blk : Blk), (h ++ [some ⟨true, es, sg⟩])[id]? = some (some blk) → (id < h.length ∧ h[id]? = some (some blk)) ∨ (id = h.length ∧ blk = ⟨true, es, sg⟩) := by
    intro id blk hb
    by_cases hi : id < h.length
    · rw [List.getElem?_append_left hi] at hb; exact .inl ⟨hi, hb⟩
    · rw [List.getElem?_append_right (by omega)] at hb
      have := (List.getElem?_eq_some_iff.1 hb).1
      simp at this
      have : id - h.length = 0 := by omega
      rw [this] at hb
      simp at hb
      exact .inr ⟨by omega, hb.symm⟩
  refine ⟨fun id blk hb => ?_, fun id l hl => by have := hr.dom id l hl; simp; omega, fun id id' blk blk' l l' hb hb' ho hne hl hl' => ?_, fun id blk l hb ho hl => ?_, hr.base_le⟩
  · rcases split id blk hb with ⟨_, hb⟩ | ⟨rfl, rfl⟩
    · exact hr.live id blk hb
    · exact .inl ⟨hf, hok, fun i => cell?_none (by rw [hl]; exact Nat.zero_le _)⟩
  · rcases split id blk hb with ⟨_, hb⟩ | ⟨rfl, rfl⟩
    · rcases split id' blk' hb' with ⟨_, hb'⟩ | ⟨rfl, rfl⟩
      · exact hr.inj id id' blk blk' l l' hb hb' ho hne hl hl'
      · rw [hf] at hl'; cases hl'
    · rw [hf] at hl; cases hl
  · rcases split id blk hb with ⟨_, hb⟩ | ⟨rfl, rfl⟩
    · exact hr.own id blk l hb ho hl
    · rw [hf] at hl; cases hl

/-- Append's answer, where it takes new memory, or nothing is laid. -/
theorem append_new {ι : Map} {base : Nat} {w : World} (hr : HR ι base h w) {t u elem : TypeId} {inf : TypeInfo} {z : Value} {d : TypeDesc} (ht : P.underlying t = some (.slice elem)) (hi : P.info? elem = some inf) (hz : inf.zero = some z)
    (hu : P.underlying u = some d) (hd : ∀ k, d ≠ .int k) (hzs : z.cells.size = inf.size) {len m cap : Nat} {b : Option Addr} {x : Value} {old new : List Seg} {co cn : Array Value} (hlx : (Builtin.lenOf x).run P w = .ok m w)
    (hfx : (Builtin.firstCells inf.size m x).run P w.drew = .ok cn w.drew) (hfo : (Builtin.firstCells inf.size len (.slice b len cap)).run P w.drew = .ok co w.drew)
    (ho1 : co.size = len * inf.size) (hn1 : cn.size = m * inf.size) (ho2 : segsOK old) (hn2 : segsOK new) (ho3 : segsLen old = len * inf.size) (hn3 : segsLen new = m * inf.size)
    (ho4 : ∀ (i : Nat) (u : Value), cell? old i = some u → ∃ u', co[i]? = some u' ∧ VR ι u u') (hn4 : ∀ (i : Nat) (u : Value), cell? new i = some u → ∃ u', cn[i]? = some u' ∧ VR ι u u')
    (hcap : cap < len + m) (hb1 : (len + m) * inf.bytes ≤ 140737488355328) (hb2 : len + m ≤ 4611686018427387904) (ty : TypeId) :
    ∃ v' w', (Builtin.append_ #[t, u] ty #[.slice b len cap, x]).run P w = .ok v' w' ∧ After ι base h w (.slice (some ⟨h.length, 0, none⟩) (len + m) 1) (h ++ [some ⟨true, inf.size, joinS old new⟩]) v' w' (fun _ => False) := by
  have hcell := growslice_fits hcap hb1
  obtain ⟨j1, j2, j3⟩ := joinS_spec ho2 hn2
  have hun : ((P.underlying u).map fun d => (d matches .int _)) = some false := by
    rw [hu]; cases d <;> first | rfl | exact (hd _ rfl).elim
  let nc := (len + m) + w.tape w.drawn (.appendCap (len + m) cap elem) % (2 ^ 63 - (len + m))
  let cells := co ++ cn ++ Builtin.zeroCells z.cells (nc - (len + m))
  have hsz : cells.size = nc * inf.size := by
    simp only [cells, Array.size_append, Builtin.zeroCells, Array.size_map, Array.size_range, ho1, hn1, hzs]
    rw [← Nat.add_mul, ← Nat.add_mul]
    congr 1
    simp only [nc]
    exact Nat.add_sub_cancel' (Nat.le_add_right _ _)
  have hrun : (Builtin.append_ #[t, u] ty #[.slice b len cap, x]).run P w = .ok (.slice (some ⟨w.heap.size, 0, none⟩) (len + m) nc) { w with drawn := w.drawn + 1, heap := w.heap.push (.cells cells elem) } := by
    have hn' : ¬ (len + m ≤ cap) := by omega
    have h63' : ¬ (9223372036854775807 < ((len : Int) + (m : Int))) := by omega
    have h48' : ¬ (281474976710656 < Builtin.nextslicecap (len + m) cap * inf.bytes) := by omega
    simp [Builtin.append_, run_underlying ht, run_underlying hu, sizeOf, typeInfo, zeroValue, hi, hz, hlx, hn', h63', h48', Question.forced, hfx, hfo, newRow]
    refine ⟨rfl, ?_⟩
    simp only [cells, Array.append_assoc]
    rfl
  refine ⟨_, _, hrun, ?_⟩
  refine after_push hr (c := cells) (T := elem) (es := inf.size) rfl ⟨rfl, rfl, rfl⟩ j1 (fun i v hv => ?_) (fun ι' hl => ?_)
  · have hlt := cell?_lt hv
    rw [j3] at hv
    by_cases hi2 : i < segsLen old
    · rw [if_pos hi2] at hv
      obtain ⟨u', a1, a2⟩ := ho4 i v hv
      exact ⟨u', by simp only [cells]; rw [Array.getElem?_append_left (by simp; omega), Array.getElem?_append_left (by omega)]; exact a1, a2⟩
    · rw [if_neg hi2] at hv
      obtain ⟨u', a1, a2⟩ := hn4 _ v hv
      exact ⟨u', by simp only [cells]; rw [Array.getElem?_append_left (by simp; omega), Array.getElem?_append_right (by omega), ho1, ← ho3]; exact a1, a2⟩
  · refine .sl (l := ⟨w.heap.size, 0, cells.size, inf.size⟩) hl hb2 (by simp only [nc]; omega) (fun e => by cases e) (fun _ => ?_)
    simp only [hsz]
    omega

/-- Append where there is room, or nothing is laid. -/
theorem run_append_room {w : World} {t u elem : TypeId} {inf : TypeInfo} {d : TypeDesc} (ht : P.underlying t = some (.slice elem)) (hi : P.info? elem = some inf)
    (hu : P.underlying u = some d) (hd : ∀ k, d ≠ .int k) {len m cap : Nat} {b : Option Addr} {x : Value} {cn : Array Value} (hlx : (Builtin.lenOf x).run P w = .ok m w)
    (hfx : (Builtin.firstCells inf.size m x).run P w = .ok cn w) (hcap : len + m ≤ cap) (ty : TypeId) {w2 : World}
    (hst : (match b with | some a => storeCells (a.add (len * inf.size)) cn.toList | none => pure () : Sem Unit).run P w = .ok () w2) :
    (Builtin.append_ #[t, u] ty #[.slice b len cap, x]).run P w = .ok (.slice b (len + m) cap) w2 := by
  cases b with
  | none =>
    simp at hst
    subst hst
    simp [Builtin.append_, run_underlying ht, run_underlying hu, sizeOf, typeInfo, hi, hlx, hcap, hfx]
  | some a =>
    simp only at hst
    simp [Builtin.append_, run_underlying ht, run_underlying hu, sizeOf, typeInfo, hi, hlx, hcap, hfx, hst]

/-- New memory for zeros. -/
theorem append_newZ {ι : Map} {base : Nat} {w : World} (hr : HR ι base h w) {t u elem : TypeId} {inf : TypeInfo} {ik ik2 ik' : IntKind} (ht : P.underlying t = some (.slice elem)) (hi : P.info? elem = some inf) (hz : inf.zero = some (.int ik 0))
    (hu : P.underlying u = some (.int ik2)) (hes : inf.size = 1) {len m cap : Nat} {b : Option Addr} {old : List Seg} {co : Array Value}
    (hfo : (Builtin.firstCells 1 len (.slice b len cap)).run P w.drew = .ok co w.drew)
    (ho1 : co.size = len) (ho2 : segsOK old) (ho3 : segsLen old = len)
    (ho4 : ∀ (i : Nat) (u : Value), cell? old i = some u → ∃ u', co[i]? = some u' ∧ VR ι u u') (h0r : ik.min ≤ 0 ∧ 0 ≤ ik.max)
    (hcap : cap < len + m) (hb1 : (len + m) * inf.bytes ≤ 140737488355328) (hb2 : len + m ≤ 4611686018427387904) (ty : TypeId) :
    ∃ v' w', (Builtin.append_ #[t, u] ty #[.slice b len cap, .int ik' m]).run P w = .ok v' w' ∧ After ι base h w (.slice (some ⟨h.length, 0, none⟩) (len + m) 1) (h ++ [some ⟨true, 1, joinS old [.ints ik m (List.replicate m 0)]⟩]) v' w' (fun _ => False) := by
  have hcell := growslice_fits hcap hb1
  have hn2 : segsOK [Seg.ints ik m (List.replicate m 0)] := fun s hs => by
    rw [List.mem_singleton.1 hs]
    exact ⟨List.length_replicate .., fun x hx => by rw [List.eq_of_mem_replicate hx]; exact h0r⟩
  obtain ⟨j1, j2, j3⟩ := joinS_spec ho2 hn2
  let nc := (len + m) + w.tape w.drawn (.appendCap (len + m) cap elem) % (2 ^ 63 - (len + m))
  let cn := Builtin.zeroCells #[Value.int ik 0] m
  let cells := co ++ cn ++ Builtin.zeroCells #[Value.int ik 0] (nc - (len + m))
  have hcn : cn.size = m := by simp [cn, Builtin.zeroCells]
  have hcz : (Value.int ik 0).cells = #[Value.int ik 0] := rfl
  have hsz : cells.size = nc := by
    simp only [cells, Array.size_append, ho1, hcn]
    simp only [Builtin.zeroCells, Array.size_map, Array.size_range, List.size_toArray, List.length_cons, List.length_nil]
    simp only [nc]
    omega
  have hrun : (Builtin.append_ #[t, u] ty #[.slice b len cap, .int ik' m]).run P w = .ok (.slice (some ⟨w.heap.size, 0, none⟩) (len + m) nc) { w with drawn := w.drawn + 1, heap := w.heap.push (.cells cells elem) } := by
    have hn' : ¬ (len + m ≤ cap) := by omega
    have h63' : ¬ (9223372036854775807 < ((len : Int) + (m : Int))) := by omega
    have h48' : ¬ (281474976710656 < Builtin.nextslicecap (len + m) cap * inf.bytes) := by omega
    have hw : IntKind.i64.wrap (m : Int) = m := by
      simp only [IntKind.wrap, IntKind.signed, IntKind.bits]
      simp
      omega
    have hmb : ¬ (281474976710656 : Int) < (m : Int) * inf.bytes := by
      have : m * inf.bytes ≤ 140737488355328 := Nat.le_trans (Nat.mul_le_mul_right _ (by omega)) hb1
      have e : ((m * inf.bytes : Nat) : Int) = (m : Int) * inf.bytes := by simp
      omega
    have hai : (asIntOf (.int ik' (m : Int))).run P w = .ok (ik', (m : Int)) w := by simp [asIntOf]
    have hm0 : ¬ (m : Int) < 0 := by omega
    simp [Builtin.append_, run_underlying ht, run_underlying hu, sizeOf, typeInfo, zeroValue, hi, hz, hes, asInt, hai, hw, hmb, hm0, hn', h63', h48', Question.forced, hfo, newRow]
    by_cases hmz : m = 0
    · subst hmz
      have hc0 : cn = #[] := Array.eq_empty_of_size_eq_zero hcn
      rw [if_pos rfl]
      simp only [cells, hc0, Array.append_empty]
      rfl
    · rw [if_neg hmz]
      simp only [cells, Array.append_assoc]
      rfl
  refine ⟨_, _, hrun, ?_⟩
  refine after_push hr (c := cells) (T := elem) (es := 1) rfl ⟨rfl, rfl, rfl⟩ j1 (fun i v hv => ?_) (fun ι' hl => ?_)
  · have hlt := cell?_lt hv
    rw [j3] at hv
    by_cases hi2 : i < segsLen old
    · rw [if_pos hi2] at hv
      obtain ⟨u', a1, a2⟩ := ho4 i v hv
      exact ⟨u', by simp only [cells]; rw [Array.getElem?_append_left (by simp; omega), Array.getElem?_append_left (by omega)]; exact a1, a2⟩
    · rw [if_neg hi2] at hv
      simp only [cell?] at hv
      split at hv
      · rename_i hlt2
        rw [ho3] at hlt2
        cases hv
        refine ⟨.int ik 0, ?_, ?_⟩
        · simp only [cells]
          rw [Array.getElem?_append_left (by simp; omega), Array.getElem?_append_right (by omega), ho1]
          simp [cn, Builtin.zeroCells, hlt2, Nat.mod_one]
        · rw [List.getD_eq_getElem?_getD, List.getElem?_replicate, if_pos (by omega)]
          exact .int _ _ h0r
      · cases hv
  · refine .sl (l := ⟨w.heap.size, 0, cells.size, 1⟩) hl hb2 (by simp only [nc]; omega) (fun e => by cases e) (fun _ => ?_)
    simp only [hsz]
    omega

/-- Zeros laid where there is room. -/
theorem run_append_roomZ {w : World} {t u elem : TypeId} {inf : TypeInfo} {ik ik2 ik' : IntKind} (ht : P.underlying t = some (.slice elem)) (hi : P.info? elem = some inf) (hz : inf.zero = some (.int ik 0))
    (hu : P.underlying u = some (.int ik2)) (hes : inf.size = 1) {len m cap : Nat} {b : Option Addr} (hcap : len + m ≤ cap) (hb1 : m * inf.bytes ≤ 140737488355328) (hb2 : m ≤ 4611686018427387904) (ty : TypeId) {w2 : World}
    (hst : (match b with | some a => storeCells (a.add len) (Builtin.zeroCells #[Value.int ik 0] m).toList | none => pure () : Sem Unit).run P w = .ok () w2) :
    (Builtin.append_ #[t, u] ty #[.slice b len cap, .int ik' m]).run P w = .ok (.slice b (len + m) cap) w2 := by
  have hw : IntKind.i64.wrap (m : Int) = m := by
    simp only [IntKind.wrap, IntKind.signed, IntKind.bits]
    simp
    omega
  have hmb : ¬ (281474976710656 : Int) < (m : Int) * inf.bytes := by
    have e : ((m * inf.bytes : Nat) : Int) = (m : Int) * inf.bytes := by simp
    omega
  have hai : (asIntOf (.int ik' (m : Int))).run P w = .ok (ik', (m : Int)) w := by simp [asIntOf]
  have hm0 : ¬ (m : Int) < 0 := by omega
  have hcz : (Value.int ik 0).cells = #[Value.int ik 0] := rfl
  have hz0 : Builtin.zeroCells #[Value.int ik 0] 0 = #[] := by simp [Builtin.zeroCells]
  cases b with
  | none =>
    simp at hst
    subst hst
    simp [Builtin.append_, run_underlying ht, run_underlying hu, sizeOf, typeInfo, zeroValue, hi, hz, hes, asInt, hai, hw, hmb, hm0, hcap]
  | some a =>
    simp only at hst
    simp [Builtin.append_, run_underlying ht, run_underlying hu, sizeOf, typeInfo, zeroValue, hi, hz, hes, asInt, hai, hw, hmb, hm0, hcap]
    by_cases hmz : m = 0
    · subst hmz
      rw [hz0] at hst
      rw [if_pos rfl]
      simp [hst]
    · rw [if_neg hmz]
      simp [hcz, hst]
/-- Zeros behind a slice whose room is not known. -/
theorem appendZ_some {st u elem : TypeId} {inf : TypeInfo} {ik2 ik' : IntKind} (ht : P.underlying st = some (.slice elem)) (hi : P.info? elem = some inf) (hu : P.underlying u = some (.int ik2)) {id off len : Nat} {n : Int}
    (hk : appendZK inf h id off len n k = some out) : ∃ v h', k v h' = some out ∧ h.length ≤ h'.length ∧
    ∀ (ι : Map) (base : Nat) (w : World) (args' : Array Value) (ty : TypeId), HR ι base h w → VRs ι [.slice (some ⟨id, off, none⟩) len 1, .int ik' n] args'.toList → ∃ v' w', (Builtin.append_ #[st, u] ty args').run P w = .ok v' w' ∧ After ι base h w v h' v' w' (mods ι h) := by
  unfold appendZK at hk
  split at hk
  · rename_i ik hz
    obtain ⟨hc, hk⟩ := bif_none hk
    simp only [Bool.and_eq_true, decide_eq_true_eq] at hc
    obtain ⟨⟨⟨hes, hn0⟩, hb1⟩, hb2⟩ := hc
    have hes := beq_true hes
    have hb2 := ble_true hb2
    obtain ⟨len', old, hk, hold⟩ := cellsK_some (P := P) hk
    obtain ⟨m, rfl⟩ := Int.eq_ofNat_of_zero_le hn0
    rw [Int.toNat_natCast] at *
    split at hk
    · rename_i b hb
      have hb := getB_some hb
      obtain ⟨hmp, hk8⟩ : isMp b.segs = false ∧ (bif b.own && Nat.beq b.es 1 && Nat.beq (off + len) (segsLen b.segs) then
        k (.slice (some ⟨h.length, 0, none⟩) (len + m) 1) (h.set id none ++ [some ⟨true, 1, joinS old [.ints ik m (List.replicate m 0)]⟩]) else none) = some out := by
        cases hx : isMp b.segs with
        | true => rw [hx] at hk; cases hk
        | false => rw [hx] at hk; exact ⟨rfl, hk⟩
      obtain ⟨hq, hk9⟩ := bif_none hk8
      simp only [Bool.and_eq_true] at hq
      obtain ⟨⟨ho0, hes0⟩, hend0⟩ := hq
      obtain ⟨bo, bes, bsg⟩ := b
      have ho : bo = true := ho0
      have hbes : bes = 1 := beq_true hes0
      have hend : off + len = segsLen bsg := beq_true hend0
      clear ho0 hes0 hend0
      subst ho
      subst hbes
      have hik : ik.min ≤ 0 ∧ 0 ≤ ik.max := by cases ik <;> decide
      have hzc : (Builtin.zeroCells #[Value.int ik 0] m).size = m := by simp [Builtin.zeroCells]
      have hzg : ∀ j, j < m → (Builtin.zeroCells #[Value.int ik 0] m)[j]? = some (.int ik 0) := fun j hj => by simp [Builtin.zeroCells, hj, Nat.mod_one]
      have hn2 : segsOK [Seg.ints ik m (List.replicate m 0)] := fun s hs => by
        rw [List.mem_singleton.1 hs]
        exact ⟨List.length_replicate .., fun x hx => by rw [List.eq_of_mem_replicate hx]; exact hik⟩
      have hng : ∀ (i : Nat) (v : Value), cell? [Seg.ints ik m (List.replicate m 0)] i = some v → i < m ∧ v = .int ik 0 := fun i v hv => by
        simp only [cell?] at hv
        split at hv
        · rename_i hlt
          cases hv
          exact ⟨hlt, by rw [List.getD_eq_getElem?_getD, List.getElem?_replicate, if_pos hlt]; rfl⟩
        · cases hv
      refine ⟨_, _, hk9, by simp, fun ι base w args' ty hr ha => ?_⟩
      obtain ⟨s', rfl, hs'⟩ : ∃ s', args' = #[s', .int ik' m] ∧ VR ι (.slice (some ⟨id, off, none⟩) len 1) s' := by
        obtain ⟨l⟩ := args'
        match l, ha with
        | [a, b], ha => exact ⟨a, by rw [ha.tail.head.int_inv.1], ha.head⟩
        | [], ha => simp [VRs] at ha
        | [_], ha => simp [VRs] at ha
        | _ :: _ :: _ :: _, ha => simp [VRs] at ha
      have drewHR : HR ι base h w.drew := HR.sameHeap (w := w) (w' := w.drew) rfl hr
      have hlen' : len' = len := by
        obtain ⟨g1, _⟩ := hold ι base w s' hr hs'
        rcases hs'.sl_inv with ⟨ad, rfl, rfl⟩ | ⟨lc, c', hl, hlen, hcap, ht, ha, rfl⟩ <;> simp [Builtin.lenOf] at g1 <;> omega
      subst hlen'
      have hrk := HR_kill hr id
      have hkm : ∀ b, mods ι (h.set id none) b → mods ι h b := fun _ x => mods_set (fun _ e => by cases e) x
      have widen : ∀ {v' : Value} {w' : World} {h' : Heap} {v : Value}, After ι base (h.set id none) w v h' v' w' (fun _ => False) → After ι base h w v h' v' w' (mods ι h) := by
        rintro v' w' h' v ⟨ι', a1, a2, a3, a4, a5, a6⟩
        rw [List.length_set] at a2
        exact ⟨ι', a1, fun id l hl => by
          rcases a2 id l hl with q | ⟨q, y | y⟩
          · exact .inl q
          · exact .inr ⟨q, .inl y⟩
          · exact y.elim, a3, a4, a5.mono fun _ q => q.elim, fun b hb hlt => hkm b (a6 b hb hlt)⟩
      have grow : ∀ {cap : Nat} {b : Option Addr}, s' = .slice b len' cap → cap < len' + m →
          ∃ v' w', (Builtin.append_ #[st, u] ty #[s', .int ik' m]).run P w = .ok v' w' ∧ After ι base h w (.slice (some ⟨h.length, 0, none⟩) (len' + m) 1) (h.set id none ++ [some ⟨true, 1, joinS old [.ints ik m (List.replicate m 0)]⟩]) v' w' (mods ι h) := by
        intro cap b he hcap
        subst he
        obtain ⟨_, co, f2, f3, f4, f5, f6⟩ := hold ι base w.drew _ drewHR hs'
        obtain ⟨v', w', q1, q2⟩ := append_newZ hrk ht hi hz hu hes f2 (by omega) f4 (by omega) f6 hik hcap hb1 hb2 ty (ik' := ik')
        rw [List.length_set] at q2
        exact ⟨v', w', q1, widen q2⟩
      rcases hs'.sl_inv with ⟨ad, hz0, rfl⟩ | ⟨lc, c', hl, hlen, hcap, htt, haa, rfl⟩
      · by_cases hm : m = 0
        · subst hm
          subst hz0
          obtain ⟨_, co, f2, f3, f4, f5, f6⟩ := hold ι base w _ hr hs'
          refine ⟨.slice ad 0 0, w, by simpa using run_append_roomZ ht hi hz hu hes (len := 0) (m := 0) (cap := 0) (b := ad) (ik' := ik') (Nat.le_refl _) (by simp) (by simp) ty (by cases ad <;> simp [Builtin.zeroCells, storeCells]), widen ?_⟩
          exact ⟨ι, Map.le_refl _, fun id l hl => .inl hl, HR_phantom hrk (joinS_spec f4 hn2).1 (by rw [(joinS_spec f4 hn2).2.1, f5]; simp [segsLen, segLen]), .slZero ad, Fr.refl _ _, fun b hb _ => by
            obtain ⟨id2, blk, l, hb, ho, hl, rfl⟩ := hb
            have hlt := (hrk.dom id2 l hl).1
            rw [List.getElem?_append_left hlt] at hb
            exact ⟨id2, blk, l, hb, ho, hl, rfl⟩⟩
        · subst hz0
          exact grow rfl (by omega)
      · by_cases hroom : len' + m ≤ c'
        case neg => exact grow rfl (by omega)
        case pos =>
          obtain ⟨_, co, f2, f3, f4, f5, f6⟩ := hold ι base w _ hr hs'
          rcases hr.live id _ hb with ⟨p1, _⟩ | ⟨l', p1, ⟨cc, T, fr, q1, q2, q3, q4, q5, q6⟩ | ⟨_, _, _, _, q2, _⟩⟩
          · rw [hl] at p1; cases p1
          rotate_left
          · obtain ⟨_, q2, _⟩ := q2; simp only at q2; rw [q2] at hmp; cases hmp
          rw [hl] at p1
          simp only [Option.some.injEq] at p1
          subst p1
          simp only at q3
          have haa := haa rfl
          rw [← q3, Nat.mul_one] at haa
          have hco : co = cc.extract (lc.o + off) (lc.o + off + len') := by
            have := run_loadCells_rel (P := P) q1 (o := lc.o + off) (n := len' * 1) (by omega)
            have f2' : (loadCells ⟨lc.b, lc.o + off, none⟩ (len' * 1)).run P w = .ok co w := f2
            rw [this, Nat.mul_one] at f2'
            simpa using f2'.symm
          obtain ⟨w2, cc', r1, r2, r3, r4, r5⟩ := run_storeCells (P := P) (b := lc.b) (o := lc.o + off + len') (T := T) (q6 rfl) (Builtin.zeroCells #[Value.int ik 0] m).toList 0 w cc q1 (by rw [Array.length_toList]; omega) (fun v hv => by
            obtain ⟨j, hj⟩ := List.getElem?_of_mem hv
            have hjl := (List.getElem?_eq_some_iff.1 hj).1
            rw [Array.length_toList, hzc] at hjl
            rw [Array.getElem?_toList, hzg j hjl] at hj
            cases hj
            rfl)
          have hset : h.set id (some ⟨true, 1, bsg⟩) = h := by
            apply List.ext_getElem?
            intro j
            by_cases e : id = j
            · subst e; rw [hb]; simp [(List.getElem?_eq_some_iff.1 hb).1]
            · rw [List.getElem?_set_ne e]
          have hr2 : HR ι base h w2 := by
            have := HR_upd hr hb hl q1 r2 r4 q4 (fun i v hv => by
              obtain ⟨v', a1, a2⟩ := q5 i v hv
              have : i < segsLen bsg := cell?_lt hv
              exact ⟨v', by rw [r5, if_neg (by omega)]; exact a1, a2⟩)
            rwa [hset] at this
          have hbl := (Array.getElem?_eq_some_iff.1 q1).1
          obtain ⟨j1, j2, j3⟩ := joinS_spec f4 hn2
          have hmv := HR_move hr2 (off := off) hb hl (c := cc') (T := T) (fr := fr) (by rw [r2]; simp [hbl]) j1 (fun i v hv => by
            have hlt := cell?_lt hv
            rw [j3] at hv
            by_cases hi2 : i < segsLen old
            · rw [if_pos hi2] at hv
              obtain ⟨u', a1, a2⟩ := f6 i v hv
              rw [hco] at a1
              have a1 := extract_get a1
              exact ⟨u', by rw [r5, if_neg (by omega)]; exact a1, a2⟩
            · rw [if_neg hi2] at hv
              obtain ⟨hlt3, rfl⟩ := hng _ v hv
              refine ⟨.int ik 0, ?_, .int _ _ hik⟩
              rw [r5, if_pos (by rw [Array.length_toList]; omega), Array.getElem?_toList, ← hzg (i - segsLen old) hlt3]
              congr 1
              omega)
          refine ⟨_, w2, run_append_roomZ ht hi hz hu hes hroom (Nat.le_trans (Nat.mul_le_mul_right _ (by omega)) hb1) (by omega) ty (b := some ⟨lc.b, lc.o + off, none⟩) (by simpa [addr_add] using r1), ι.put h.length ⟨lc.b, lc.o + off, lc.sz, lc.es⟩, Map.le_put _ (hr.fresh (Nat.le_refl _)), fun id2 l2 hl2 => ?_, hmv,
            .sl (l := ⟨lc.b, lc.o + off, lc.sz, lc.es⟩) (off := 0) (Map.put_same _ _ _) hb2 hroom (fun e => by cases e) (fun _ => by simp only [← q3]; omega), ?_, fun b' hb' _ => ?_⟩
          · by_cases e : id2 = h.length
            · subst e
              rw [Map.put_same] at hl2
              simp only [Option.some.injEq] at hl2
              subst hl2
              exact .inr ⟨Nat.le_refl _, .inr ⟨id, _, lc, hb, rfl, hl, rfl⟩⟩
            · rw [Map.put_ne _ _ e] at hl2; exact .inl hl2
          · refine ⟨by rw [r2]; simp, fun b' hb' hm => ?_, r3.os, r3.out, r3.tape⟩
            rw [r2, Array.getElem?_setIfInBounds_ne (fun e => hm ⟨id, _, lc, hb, rfl, hl, e⟩)]
          · have e1 : h.length = (h.set id none).length := by simp
            rw [e1] at hb'
            rcases mods_push hb' with e | e
            · exact ⟨id, _, lc, hb, rfl, hl, e⟩
            · exact mods_set (fun _ e => by cases e) e
    · cases hk
  · cases hk
theorem appendK_some {st u : TypeId} {args : List Value} (hk : appendK P h st args u k = some out) : ∃ v h', k v h' = some out ∧ h.length ≤ h'.length ∧
    ∀ (ι : Map) (base : Nat) (w : World) (args' : Array Value) (ty : TypeId), HR ι base h w → VRs ι args args'.toList → ∃ v' w', (Builtin.append_ #[st, u] ty args').run P w = .ok v' w' ∧ After ι base h w v h' v' w' (mods ι h) := by
  unfold appendK at hk
  split at hk
  · rename_i elem s x ht
    split at hk
    · cases hk
    · rename_i inf hi
      split at hk
      · -- so many zeros: none
        rename_i ik hu
        have key : ∀ (n : Int) (ik' : IntKind), x = .int ik' n → n = 0 → k s h = some out → (∃ c, s = .slice none 0 0 ∧ c = 0) ∨ (∃ (id off len c : Nat), s = .slice (some ⟨id, off, none⟩) len c) → ∃ v h', k v h' = some out ∧ h.length ≤ h'.length ∧
            ∀ (ι : Map) (base : Nat) (w : World) (args' : Array Value) (ty : TypeId), HR ι base h w → VRs ι [s, x] args'.toList → ∃ v' w', (Builtin.append_ #[st, u] ty args').run P w = .ok v' w' ∧ After ι base h w v h' v' w' (mods ι h) := by
          rintro n ik' rfl rfl hk hs
          refine ⟨s, h, hk, Nat.le_refl _, fun ι base w args' ty hr ha => ?_⟩
          obtain ⟨l⟩ := args'
          match l, ha with
          | [a, b], ha =>
            have hb := ha.tail.head.int_inv.1
            subst hb
            have hrun : ∀ (ad : Option Addr) (len cap : Nat), len ≤ cap → (Builtin.append_ #[st, u] ty #[.slice ad len cap, .int ik' 0]).run P w = .ok (.slice ad len cap) w := by
              intro ad len cap hc
              have hw : IntKind.i64.wrap 0 = 0 := by decide
              have hai : (asIntOf (.int ik' 0)).run P w = .ok (ik', 0) w := by simp [asIntOf]
              cases ad <;> simp [Builtin.append_, run_underlying ht, run_underlying hu, sizeOf, typeInfo, hi, asInt, hai, hw, hc, storeCells]
            rcases hs with ⟨_, rfl, _⟩ | ⟨id, off, len, c, rfl⟩
            · rw [ha.head.slNil_inv.1]
              exact ⟨_, w, hrun none 0 0 (Nat.le_refl _), after_same hr rfl (Still.refl w) .slNil _⟩
            · rcases ha.head.sl_inv with ⟨ad, rfl, rfl⟩ | ⟨lc, c', hl, hlen, hcap, htt, haa, rfl⟩
              · exact ⟨_, w, hrun ad 0 0 (Nat.le_refl _), after_same hr rfl (Still.refl w) ha.head _⟩
              · exact ⟨_, w, hrun _ len c' hcap, after_same hr rfl (Still.refl w) ha.head _⟩
          | [], ha => simp [VRs] at ha
          | [_], ha => simp [VRs] at ha
          | _ :: _ :: _ :: _, ha => simp [VRs] at ha
        split at hk
        · obtain ⟨e, hk⟩ := bif_none hk
          exact key _ _ rfl (of_decide_eq_true e) hk (.inl ⟨0, rfl, rfl⟩)
        · rcases bif_some hk with ⟨ec, hk7⟩ | ⟨_, hk7⟩
          · have ec := beq_true ec
            subst ec
            exact appendZ_some ht hi hu hk7
          · obtain ⟨e, hk⟩ := bif_none hk7
            exact key _ _ rfl (of_decide_eq_true e) hk (.inr ⟨_, _, _, _, rfl⟩)
        · cases hk
      · cases hk
      · rename_i d hd hu
        have hd' : ∀ k, d ≠ .int k := fun k e => hd k (by rw [e])
        have nothing : ∀ {id off len c : Nat}, s = .slice (some ⟨id, off, none⟩) len c → (x = .slice none 0 0 ∨ ∃ a b q, x = .slice (some ⟨a, b, some 0⟩) 0 q) → k s h = some out → ∃ v h', k v h' = some out ∧ h.length ≤ h'.length ∧
            ∀ (ι : Map) (base : Nat) (w : World) (args' : Array Value) (ty : TypeId), HR ι base h w → VRs ι [s, x] args'.toList → ∃ v' w', (Builtin.append_ #[st, u] ty args').run P w = .ok v' w' ∧ After ι base h w v h' v' w' (mods ι h) := by
          rintro id off len c rfl hx hk
          refine ⟨_, h, hk, Nat.le_refl _, fun ι base w args' ty hr ha => ?_⟩
          obtain ⟨l⟩ := args'
          match l, ha with
          | [a, b], ha =>
            obtain ⟨h1, h2⟩ : (Builtin.lenOf b).run P w = .ok 0 w ∧ (Builtin.firstCells inf.size 0 b).run P w = .ok #[] w := by
              rcases hx with rfl | ⟨_, _, _, rfl⟩
              · rw [ha.tail.head.slNil_inv.1]; exact ⟨by simp [Builtin.lenOf], by simp [Builtin.firstCells]⟩
              · have hb := ha.tail.head
                cases hb
                exact ⟨by simp [Builtin.lenOf], by simp [Builtin.firstCells, loadCells, loadCellsFrom]⟩
            rcases ha.head.sl_inv with ⟨ad, rfl, rfl⟩ | ⟨lc, c', hl, hlen, hcap, htt, haa, rfl⟩
            · exact ⟨_, w, run_append_room ht hi hu hd' h1 h2 (len := 0) (cap := 0) (b := ad) (Nat.le_refl _) ty (by cases ad <;> simp [storeCells]), after_same hr rfl (Still.refl w) ha.head _⟩
            · exact ⟨_, w, run_append_room ht hi hu hd' h1 h2 (len := len) (cap := c') (b := some ⟨lc.b, lc.o + off, none⟩) hcap ty (by simp [storeCells]), after_same hr rfl (Still.refl w) ha.head _⟩
          | [], ha => simp [VRs] at ha
          | [_], ha => simp [VRs] at ha
          | _ :: _ :: _ :: _, ha => simp [VRs] at ha
        split at hk
        · exact nothing rfl (.inl rfl) hk
        · obtain ⟨hb0, hk⟩ := bif_none hk
          simp only [Bool.and_eq_true] at hb0
          exact nothing rfl (.inr ⟨_, _, _, by rw [beq_true hb0.1, beq_true hb0.2]⟩) hk
        rename_i hno1 hno2
        clear hno1 hno2
        cases hzz : zeroOK inf with
        | false => simp [hzz] at hk
        | true =>
          simp only [hzz, Bool.not_true, cond_false] at hk
          obtain ⟨z, hz, hzs⟩ : ∃ z, inf.zero = some z ∧ z.cells.size = inf.size := by
            unfold zeroOK at hzz
            split at hzz
            · rename_i z hz; exact ⟨z, hz, beq_true hzz⟩
            · cases hzz
          obtain ⟨m, new, hk, hx⟩ := cellsK_some hk
          have drewHR : ∀ {ι : Map} {base : Nat} {w : World}, HR ι base h w → HR ι base h w.drew := fun {_ _ w} hr => HR.sameHeap (w := w) (w' := w.drew) rfl hr
          have widen : ∀ {ι : Map} {base : Nat} {h h0 h' : Heap} {w w' : World} {v v' : Value}, h0.length = h.length → (∀ b, mods ι h0 b → mods ι h b) → After ι base h0 w v h' v' w' (fun _ => False) → After ι base h w v h' v' w' (mods ι h) := by
            rintro ι base h h0 h' w w' v v' hl hmo ⟨ι', a1, a2, a3, a4, a5, a6⟩
            rw [hl] at a2
            exact ⟨ι', a1, fun id l hl => by
              rcases a2 id l hl with q | ⟨q, y | y⟩
              · exact .inl q
              · exact .inr ⟨q, .inl y⟩
              · exact y.elim, a3, a4, a5.mono fun _ q => q.elim, fun b hb hlt => hmo b (a6 b hb hlt)⟩
          -- nothing is laid upon nothing
          have empty : ∀ {ι : Map} {base : Nat} {h : Heap} {w : World} {sg : List Seg} {es : Nat} (ad : Option Addr), HR ι base h w → segsOK sg → segsLen sg = 0 →
              After ι base h w (.slice (some ⟨h.length, 0, none⟩) 0 1) (h ++ [some ⟨true, es, sg⟩]) (.slice ad 0 0) w (fun _ => False) := by
            intro ι base h w sg es ad hr h1 h2
            exact ⟨ι, Map.le_refl _, fun id l hl => .inl hl, HR_phantom hr h1 h2, .slZero ad, Fr.refl _ _, fun b hb _ => by
              obtain ⟨id, blk, l, hb, ho, hl, rfl⟩ := hb
              have hlt := (hr.dom id l hl).1
              rw [List.getElem?_append_left hlt] at hb
              exact ⟨id, blk, l, hb, ho, hl, rfl⟩⟩
          have two : ∀ {ι : Map} {args' : Array Value}, VRs ι [s, x] args'.toList → ∃ s' x', args' = #[s', x'] ∧ VR ι s s' ∧ VR ι x x' := by
            intro ι args' ha
            obtain ⟨l⟩ := args'
            match l, ha with
            | [a, b], ha => exact ⟨a, b, rfl, ha.head, ha.tail.head⟩
            | [], ha => simp [VRs] at ha
            | [_], ha => simp [VRs] at ha
            | _ :: _ :: _ :: _, ha => simp [VRs] at ha
          -- new memory upon what is there
          have grow : ∀ {ι : Map} {base : Nat} {h0 : Heap} {w : World} {s' x' : Value} {len cap : Nat} {b : Option Addr} {old : List Seg} (ty : TypeId), HR ι base h w → HR ι base h0 w → h0.length = h.length → (∀ b, mods ι h0 b → mods ι h b) → VR ι s s' → VR ι x x' → s' = .slice b len cap →
              CellsS P h inf.size s len old → cap < len + m → (len + m) * inf.bytes ≤ 140737488355328 → len + m ≤ 4611686018427387904 →
              ∃ v' w', (Builtin.append_ #[st, u] ty #[s', x']).run P w = .ok v' w' ∧ After ι base h w (.slice (some ⟨h.length, 0, none⟩) (len + m) 1) (h0 ++ [some ⟨true, inf.size, joinS old new⟩]) v' w' (mods ι h) := by
            intro ι base h0 w s' x' len cap b old ty hr hr0 hl0 hmo0 hs' hx' he hold hcap hb1 hb2
            subst he
            obtain ⟨g1, _⟩ := hx ι base w x' hr hx'
            obtain ⟨_, cn, g2, g3, g4, g5, g6⟩ := hx ι base w.drew x' (drewHR hr) hx'
            obtain ⟨_, co, f2, f3, f4, f5, f6⟩ := hold ι base w.drew _ (drewHR hr) hs'
            obtain ⟨v', w', q1, q2⟩ := append_new hr0 ht hi hz hu hd' hzs (b := b) g1 g2 f2 f3 g3 f4 g4 f5 g5 f6 g6 hcap hb1 hb2 ty
            refine ⟨v', w', q1, widen hl0 hmo0 ?_⟩
            rw [← hl0]
            exact q2
          split at hk
          · -- nil
            obtain ⟨hc, hk⟩ := bif_none hk
            simp only [Bool.and_eq_true, decide_eq_true_eq] at hc
            have hc2 := ble_true hc.2
            refine ⟨_, _, hk, by simp, fun ι base w args' ty hr ha => ?_⟩
            obtain ⟨s', x', rfl, hs', hx'⟩ := two ha
            rw [hs'.slNil_inv.1]
            by_cases hm : m = 0
            · subst hm
              obtain ⟨g1, cn, g2, g3, g4, g5, g6⟩ := hx ι base w x' hr hx'
              refine ⟨.slice none 0 0, w, by simpa using run_append_room ht hi hu hd' g1 g2 (Nat.le_refl _) ty (b := none) (by simp), widen rfl (fun _ x => x) (empty none hr g4 (by rw [g5]; simp))⟩
            · have hold : CellsS P h inf.size (.slice none 0 0) 0 [] := by
                intro ι base w v' hr hv
                rw [hv.slNil_inv.1]
                exact ⟨by simp [Builtin.lenOf], #[], by simp [Builtin.firstCells], by simp, segsOK_nil, by simp [segsLen], fun i u hu => by simp [cell?] at hu⟩
              obtain ⟨v', w', q1, q2⟩ := grow (len := 0) (cap := 0) (b := none) (old := []) ty hr hr rfl (fun _ x => x) hs' hx' hs'.slNil_inv.1 hold (by omega) (by simpa using hc.1) (by simpa using hc2)
              rw [hs'.slNil_inv.1] at q1
              refine ⟨v', w', q1, ?_⟩
              simpa [joinS] using q2
          · -- a slice
            rename_i id off len c _
            obtain ⟨len', old, hk, hold⟩ := cellsK_some hk
            obtain ⟨hc, hk⟩ := bif_none hk
            simp only [Bool.and_eq_true, decide_eq_true_eq] at hc
            have hc2 := ble_true hc.2
            -- the length is the slice's own
            have lens : ∀ {ι : Map} {base : Nat} {w : World} {s' : Value}, HR ι base h w → VR ι (.slice (some ⟨id, off, none⟩) len c) s' → len' = len := by
              intro ι base w s' hr hs'
              obtain ⟨g1, _⟩ := hold ι base w s' hr hs'
              rcases hs'.sl_inv with ⟨ad, rfl, rfl⟩ | ⟨lc, c', hl, hlen, hcap, ht, ha, rfl⟩ <;> simp [Builtin.lenOf] at g1 <;> omega
            -- nothing is there, and nothing is laid
            have none0 : ∀ {ι : Map} {base : Nat} {w : World} {x' : Value} (ad : Option Addr) (h0 : Heap) (ty : TypeId), HR ι base h w → HR ι base h0 w → h0.length = h.length → (∀ b, mods ι h0 b → mods ι h b) → VR ι x x' → len = 0 → m = 0 → VR ι (.slice (some ⟨id, off, none⟩) len c) (.slice ad 0 0) →
                ∃ v' w', (Builtin.append_ #[st, u] ty #[.slice ad 0 0, x']).run P w = .ok v' w' ∧ After ι base h w (.slice (some ⟨h.length, 0, none⟩) (len + m) 1) (h0 ++ [some ⟨true, inf.size, joinS old new⟩]) v' w' (mods ι h) := by
              intro ι base w x' ad h0 ty hr hr0 hl0 hmo0 hx' e1 e2 hs'
              subst e2
              obtain ⟨g1, cn, g2, g3, g4, g5, g6⟩ := hx ι base w x' hr hx'
              obtain ⟨_, co, f2, f3, f4, f5, f6⟩ := hold ι base w _ hr hs'
              have hlen' := lens hr hs'
              rw [hlen', e1] at f5
              have hcn : cn = #[] := Array.size_eq_zero_iff.1 (by simpa using g3)
              refine ⟨.slice ad 0 0, w, by simpa using run_append_room ht hi hu hd' g1 g2 (Nat.le_refl _) ty (b := ad) (len := 0) (cap := 0) (by cases ad <;> simp [hcn, storeCells]), widen hl0 hmo0 ?_⟩
              rw [← hl0, e1]
              exact empty ad hr0 (joinS_spec f4 g4).1 (by rw [(joinS_spec f4 g4).2.1, f5, g5]; simp)
            rcases bif_some hk with ⟨ec, hk7⟩ | ⟨ec, hk7⟩
            · -- it has no room
              obtain ⟨hx0, hk8⟩ := bif_none hk7
              have ec := beq_true ec
              subst ec
              have hx0 : len = 0 ∨ 0 < m := by
                rw [Bool.or_eq_true] at hx0
                rcases hx0 with q | q
                · exact .inl (beq_true q)
                · exact .inr (blt_true q)
              refine ⟨_, _, hk8, by simp, fun ι base w args' ty hr ha => ?_⟩
              obtain ⟨s', x', rfl, hs', hx'⟩ := two ha
              have hlen' := lens hr hs'
              subst hlen'
              rcases hs'.sl_inv with ⟨ad, hz0, rfl⟩ | ⟨lc, c', hl, hlen, hcap, htt, _, rfl⟩
              · by_cases hm : m = 0
                · exact none0 ad h ty hr hr rfl (fun _ x => x) hx' hz0 hm hs'
                · subst hz0
                  exact grow ty hr hr rfl (fun _ x => x) hs' hx' rfl hold (by omega) hc.1 hc2
              · have := htt rfl
                subst this
                by_cases hm : m = 0
                · have hz0 : c' = 0 := by omega
                  subst hz0
                  exact none0 _ h ty hr hr rfl (fun _ x => x) hx' rfl hm hs'
                · exact grow ty hr hr rfl (fun _ x => x) hs' hx' rfl hold (by omega) hc.1 hc2
            · obtain ⟨ec1, hk8⟩ := bif_none hk7
              split at hk8
              · rename_i b hb
                have hb := getB_some hb
                obtain ⟨hmp, hk8⟩ : isMp b.segs = false ∧ (bif b.own && Nat.beq b.es inf.size && Nat.beq (off + len * inf.size) (segsLen b.segs) && segsCell new then
                  k (.slice (some ⟨h.length, 0, none⟩) (len + m) 1) (h.set id none ++ [some ⟨true, inf.size, joinS old new⟩]) else none) = some out := by
                  cases hx : isMp b.segs with
                  | true => rw [hx] at hk8; cases hk8
                  | false => rw [hx] at hk8; exact ⟨rfl, hk8⟩
                obtain ⟨hq, hk9⟩ := bif_none hk8
                have ec1 := beq_true ec1
                subst ec1
                simp only [Bool.and_eq_true] at hq
                obtain ⟨⟨⟨ho0, hes0⟩, hend0⟩, hcells⟩ := hq
                obtain ⟨bo, bes, bsg⟩ := b
                have ho : bo = true := ho0
                have hes : bes = inf.size := beq_true hes0
                have hend : off + len * inf.size = segsLen bsg := beq_true hend0
                clear ho0 hes0 hend0
                subst ho
                subst hes
                refine ⟨_, _, hk9, by simp, fun ι base w args' ty hr ha => ?_⟩
                obtain ⟨s', x', rfl, hs', hx'⟩ := two ha
                have hlen' := lens hr hs'
                subst hlen'
                have hrk := HR_kill hr id
                rcases hs'.sl_inv with ⟨ad, hz0, rfl⟩ | ⟨lc, c', hl, hlen, hcap, htt, haa, rfl⟩
                · by_cases hm : m = 0
                  · exact none0 ad _ ty hr hrk (by simp) (fun _ x => mods_set (fun _ e => by cases e) x) hx' hz0 hm hs'
                  · subst hz0
                    exact grow ty hr hrk (by simp) (fun _ x => mods_set (fun _ e => by cases e) x) hs' hx' rfl hold (by omega) hc.1 hc2
                · by_cases hroom : len' + m ≤ c'
                  case neg => exact grow ty hr hrk (by simp) (fun _ x => mods_set (fun _ e => by cases e) x) hs' hx' rfl hold (by omega) hc.1 hc2
                  case pos =>
                    obtain ⟨g1, cn, g2, g3, g4, g5, g6⟩ := hx ι base w x' hr hx'
                    obtain ⟨_, co, f2, f3, f4, f5, f6⟩ := hold ι base w _ hr hs'
                    rcases hr.live id _ hb with ⟨p1, _⟩ | ⟨l', p1, ⟨cc, T, fr, q1, q2, q3, q4, q5, q6⟩ | ⟨_, _, _, _, q2, _⟩⟩
                    · rw [hl] at p1; cases p1
                    rotate_left
                    · obtain ⟨_, q2, _⟩ := q2; simp only at q2; rw [q2] at hmp; cases hmp
                    rw [hl] at p1
                    simp only [Option.some.injEq] at p1
                    subst p1
                    simp only at q3
                    have haa := haa rfl
                    rw [← q3] at haa
                    have hmul : (len' + m) * inf.size ≤ c' * inf.size := Nat.mul_le_mul_right _ hroom
                    rw [Nat.add_mul] at hmul
                    have hco : co = cc.extract (lc.o + off) (lc.o + off + len' * inf.size) := by
                      have := run_loadCells_rel (P := P) q1 (o := lc.o + off) (n := len' * inf.size) (by omega)
                      have f2' : (loadCells ⟨lc.b, lc.o + off, none⟩ (len' * inf.size)).run P w = .ok co w := f2
                      rw [this] at f2'
                      simpa using f2'.symm
                    have hcn : ∀ v ∈ cn.toList, isCell v = true := by
                      intro v hv
                      obtain ⟨j, hj⟩ := List.getElem?_of_mem hv
                      have hjl := (List.getElem?_eq_some_iff.1 hj).1
                      rw [Array.length_toList] at hjl
                      obtain ⟨uu, hu⟩ := cell?_some (sg := new) (i := j) (by omega)
                      obtain ⟨u', a1, a2⟩ := g6 j uu hu
                      rw [Array.getElem?_toList, a1] at hj
                      cases hj
                      rw [a2.isCell]
                      have aux : ∀ (l : List Seg) (i : Nat) (y : Value), segsCell l = true → cell? l i = some y → isCell y = true := by
                        intro l
                        induction l with
                        | nil => intro i y _ hy; simp [cell?] at hy
                        | cons g r ih =>
                          intro i y hs hy
                          cases g with
                          | mp _ => cases hs
                          | vals vs =>
                            simp only [segsCell, Bool.and_eq_true] at hs
                            simp only [cell?] at hy
                            cases hvi : vs[i]? with
                            | some z => rw [hvi] at hy; cases hy; exact List.all_eq_true.1 hs.1 _ (List.mem_of_getElem? hvi)
                            | none => rw [hvi] at hy; exact ih _ _ hs.2 hy
                          | ints ik q xs =>
                            simp only [segsCell] at hs
                            simp only [cell?] at hy
                            by_cases hq : i < q
                            · rw [if_pos hq] at hy; cases hy; rfl
                            · rw [if_neg hq] at hy; exact ih _ _ hs hy
                          | any q xs =>
                            simp only [segsCell] at hs
                            simp only [cell?] at hy
                            by_cases hq : i < q
                            · rw [if_pos hq] at hy; cases hy; cases (xs.getD i (FV.b false)) <;> rfl
                            · rw [if_neg hq] at hy; exact ih _ _ hs hy
                      exact aux new j uu hcells hu
                    obtain ⟨w2, cc', r1, r2, r3, r4, r5⟩ := run_storeCells (P := P) (b := lc.b) (o := lc.o + off + len' * inf.size) (T := T) (q6 rfl) cn.toList 0 w cc q1 (by rw [Array.length_toList]; omega) hcn
                    have hset : h.set id (some ⟨true, inf.size, bsg⟩) = h := by
                      apply List.ext_getElem?
                      intro j
                      by_cases e : id = j
                      · subst e; rw [hb]; simp [(List.getElem?_eq_some_iff.1 hb).1]
                      · rw [List.getElem?_set_ne e]
                    have hr2 : HR ι base h w2 := by
                      have := HR_upd hr hb hl q1 r2 r4 q4 (fun i v hv => by
                        obtain ⟨v', a1, a2⟩ := q5 i v hv
                        have : i < segsLen bsg := cell?_lt hv
                        exact ⟨v', by rw [r5, if_neg (by omega)]; exact a1, a2⟩)
                      rwa [hset] at this
                    have hbl := (Array.getElem?_eq_some_iff.1 q1).1
                    obtain ⟨j1, j2, j3⟩ := joinS_spec f4 g4
                    have hmv := HR_move hr2 (off := off) hb hl (c := cc') (T := T) (fr := fr) (by rw [r2]; simp [hbl]) j1 (fun i v hv => by
                      have hlt := cell?_lt hv
                      rw [j3] at hv
                      by_cases hi2 : i < segsLen old
                      · rw [if_pos hi2] at hv
                        obtain ⟨u', a1, a2⟩ := f6 i v hv
                        rw [hco] at a1
                        have a1 := extract_get a1
                        exact ⟨u', by rw [r5, if_neg (by omega)]; exact a1, a2⟩
                      · rw [if_neg hi2] at hv
                        obtain ⟨u', a1, a2⟩ := g6 _ v hv
                        refine ⟨u', ?_, a2⟩
                        rw [r5, if_pos (by rw [Array.length_toList]; omega), Array.getElem?_toList, ← a1]
                        congr 1
                        omega)
                    refine ⟨_, w2, run_append_room ht hi hu hd' g1 g2 hroom ty (b := some ⟨lc.b, lc.o + off, none⟩) (by simpa [addr_add] using r1), ι.put h.length ⟨lc.b, lc.o + off, lc.sz, lc.es⟩, Map.le_put _ (hr.fresh (Nat.le_refl _)), fun id2 l2 hl2 => ?_, hmv,
                      .sl (l := ⟨lc.b, lc.o + off, lc.sz, lc.es⟩) (off := 0) (Map.put_same _ _ _) hc2 hroom (fun e => by cases e) (fun _ => by simp only [← q3]; omega), ?_, fun b' hb' _ => ?_⟩
                    · by_cases e : id2 = h.length
                      · subst e
                        rw [Map.put_same] at hl2
                        simp only [Option.some.injEq] at hl2
                        subst hl2
                        exact .inr ⟨Nat.le_refl _, .inr ⟨id, _, lc, hb, rfl, hl, rfl⟩⟩
                      · rw [Map.put_ne _ _ e] at hl2; exact .inl hl2
                    · refine ⟨by rw [r2]; simp, fun b' hb' hm => ?_, r3.os, r3.out, r3.tape⟩
                      rw [r2, Array.getElem?_setIfInBounds_ne (fun e => hm ⟨id, _, lc, hb, rfl, hl, e⟩)]
                    · have e1 : h.length = (h.set id none).length := by simp
                      rw [e1] at hb'
                      rcases mods_push hb' with e | e
                      · exact ⟨id, _, lc, hb, rfl, hl, e⟩
                      · exact mods_set (fun _ e => by cases e) e
              · cases hk8
          · cases hk
  · cases hk

/-- The same, of a slice that has no room: what was there stands. -/
theorem appendN_some {st u : TypeId} {id off len : Nat} {x : Value} (hk : appendK P h st [.slice (some ⟨id, off, none⟩) len 0, x] u k = some out) : ∃ v h', k v h' = some out ∧ h.length ≤ h'.length ∧ (∃ N, h' = h ++ N) ∧
    ∀ (ι : Map) (base : Nat) (w : World) (args' : Array Value) (ty : TypeId), HR ι base h w → VRs ι [.slice (some ⟨id, off, none⟩) len 0, x] args'.toList → ∃ v' w', (Builtin.append_ #[st, u] ty args').run P w = .ok v' w' ∧ After ι base h w v h' v' w' (fun _ => False) := by
  have two : ∀ {s : Value} {ι : Map} {args' : Array Value}, VRs ι [s, x] args'.toList → ∃ s' x', args' = #[s', x'] ∧ VR ι s s' ∧ VR ι x x' := by
    intro s ι args' ha
    obtain ⟨l⟩ := args'
    match l, ha with
    | [a, b], ha => exact ⟨a, b, rfl, ha.head, ha.tail.head⟩
    | [], ha => simp [VRs] at ha
    | [_], ha => simp [VRs] at ha
    | _ :: _ :: _ :: _, ha => simp [VRs] at ha
  unfold appendK at hk
  split at hk
  · rename_i elem s x1 ht hsx
    obtain ⟨rfl, rfl⟩ : s = .slice (some ⟨id, off, none⟩) len 0 ∧ x1 = x := by simpa [eq_comm] using hsx
    split at hk
    · cases hk
    · rename_i inf hi
      split at hk
      · rename_i ik hu
        split at hk
        · rename_i he; cases he
        · rename_i ik0 n0 hs0
          cases hs0
          have hk : (bif decide (n0 = 0) then k _ h else none) = some out := hk
          obtain ⟨e, hk⟩ := bif_none hk
          have e := of_decide_eq_true e
          subst e
          refine ⟨_, h, hk, Nat.le_refl _, ⟨[], by simp⟩, fun ι base w args' ty hr ha => ?_⟩
          obtain ⟨s', x', rfl, hs', hx'⟩ := two ha
          have hb := hx'.int_inv.1
          subst hb
          have hrun : ∀ (ad : Option Addr) (len cap : Nat), len ≤ cap → (Builtin.append_ #[st, u] ty #[.slice ad len cap, .int ik0 0]).run P w = .ok (.slice ad len cap) w := by
            intro ad len cap hc
            have hw : IntKind.i64.wrap 0 = 0 := by decide
            have hai : ∀ ik', (asIntOf (.int ik' 0)).run P w = .ok (ik', 0) w := fun ik' => by simp [asIntOf]
            cases ad <;> simp [Builtin.append_, run_underlying ht, run_underlying hu, sizeOf, typeInfo, hi, asInt, hai, hw, hc, storeCells]
          rcases hs'.sl_inv with ⟨ad, rfl, rfl⟩ | ⟨lc, c', hl, hlen, hcap, htt, haa, rfl⟩
          · exact ⟨_, w, hrun ad 0 0 (Nat.le_refl _), after_same hr rfl (Still.refl w) hs' _⟩
          · exact ⟨_, w, hrun _ len c' hcap, after_same hr rfl (Still.refl w) hs' _⟩
        · cases hk
      · cases hk
      · rename_i d hd hu
        have hd' : ∀ k, d ≠ .int k := fun k e => hd k (by rw [e])
        have nothing : (x1 = .slice none 0 0 ∨ ∃ a b q, x1 = .slice (some ⟨a, b, some 0⟩) 0 q) → k (.slice (some ⟨id, off, none⟩) len 0) h = some out → ∃ v h', k v h' = some out ∧ h.length ≤ h'.length ∧ (∃ N, h' = h ++ N) ∧
            ∀ (ι : Map) (base : Nat) (w : World) (args' : Array Value) (ty : TypeId), HR ι base h w → VRs ι [.slice (some ⟨id, off, none⟩) len 0, x1] args'.toList → ∃ v' w', (Builtin.append_ #[st, u] ty args').run P w = .ok v' w' ∧ After ι base h w v h' v' w' (fun _ => False) := by
          intro hx hk
          refine ⟨_, h, hk, Nat.le_refl _, ⟨[], by simp⟩, fun ι base w args' ty hr ha => ?_⟩
          obtain ⟨s', b, rfl, hs', hb⟩ := two ha
          obtain ⟨h1, h2⟩ : (Builtin.lenOf b).run P w = .ok 0 w ∧ (Builtin.firstCells inf.size 0 b).run P w = .ok #[] w := by
            rcases hx with rfl | ⟨_, _, _, rfl⟩
            · rw [hb.slNil_inv.1]; exact ⟨by simp [Builtin.lenOf], by simp [Builtin.firstCells]⟩
            · cases hb
              exact ⟨by simp [Builtin.lenOf], by simp [Builtin.firstCells, loadCells, loadCellsFrom]⟩
          rcases hs'.sl_inv with ⟨ad, rfl, rfl⟩ | ⟨lc, c', hl, hlen, hcap, htt, haa, rfl⟩
          · exact ⟨_, w, run_append_room ht hi hu hd' h1 h2 (len := 0) (cap := 0) (b := ad) (Nat.le_refl _) ty (by cases ad <;> simp [storeCells]), after_same hr rfl (Still.refl w) hs' _⟩
          · exact ⟨_, w, run_append_room ht hi hu hd' h1 h2 (len := len) (cap := c') (b := some ⟨lc.b, lc.o + off, none⟩) hcap ty (by simp [storeCells]), after_same hr rfl (Still.refl w) hs' _⟩
        split at hk
        · exact nothing (.inl rfl) hk
        · obtain ⟨hb0, hk⟩ := bif_none hk
          simp only [Bool.and_eq_true] at hb0
          exact nothing (.inr ⟨_, _, _, by rw [beq_true hb0.1, beq_true hb0.2]⟩) hk
        rename_i hno1 hno2
        clear hno1 hno2
        cases hzz : zeroOK inf with
        | false => simp [hzz] at hk
        | true =>
          simp only [hzz, Bool.not_true, cond_false] at hk
          obtain ⟨z, hz, hzs⟩ : ∃ z, inf.zero = some z ∧ z.cells.size = inf.size := by
            unfold zeroOK at hzz
            split at hzz
            · rename_i z hz; exact ⟨z, hz, beq_true hzz⟩
            · cases hzz
          obtain ⟨m, new, hk, hx⟩ := cellsK_some hk
          have drewHR : ∀ {ι : Map} {base : Nat} {w : World}, HR ι base h w → HR ι base h w.drew := fun {_ _ w} hr => HR.sameHeap (w := w) (w' := w.drew) rfl hr
          obtain ⟨len', old, hk, hold⟩ := cellsK_some hk
          obtain ⟨hc, hk⟩ := bif_none hk
          simp only [Bool.and_eq_true, decide_eq_true_eq] at hc
          have hc2 := ble_true hc.2
          rcases bif_some hk with ⟨ec, hk7⟩ | ⟨ec, hk7⟩
          · obtain ⟨hx0, hk8⟩ := bif_none hk7
            have hx0 : len = 0 ∨ 0 < m := by
              rw [Bool.or_eq_true] at hx0
              rcases hx0 with q | q
              · exact .inl (beq_true q)
              · exact .inr (blt_true q)
            refine ⟨_, _, hk8, by simp, ⟨_, rfl⟩, fun ι base w args' ty hr ha => ?_⟩
            obtain ⟨s', x', rfl, hs', hx'⟩ := two ha
            have hlen' : len' = len := by
              obtain ⟨g1, _⟩ := hold ι base w s' hr hs'
              rcases hs'.sl_inv with ⟨ad, rfl, rfl⟩ | ⟨lc, c', hl, hlen, hcap, ht, ha, rfl⟩ <;> simp [Builtin.lenOf] at g1 <;> omega
            subst hlen'
            have grow : ∀ {cap : Nat} {b : Option Addr}, s' = .slice b len' cap → cap < len' + m →
                ∃ v' w', (Builtin.append_ #[st, u] ty #[s', x']).run P w = .ok v' w' ∧ After ι base h w (.slice (some ⟨h.length, 0, none⟩) (len' + m) 1) (h ++ [some ⟨true, inf.size, joinS old new⟩]) v' w' (fun _ => False) := by
              intro cap b he hcap
              subst he
              obtain ⟨g1, _⟩ := hx ι base w x' hr hx'
              obtain ⟨_, cn, g2, g3, g4, g5, g6⟩ := hx ι base w.drew x' (drewHR hr) hx'
              obtain ⟨_, co, f2, f3, f4, f5, f6⟩ := hold ι base w.drew _ (drewHR hr) hs'
              exact append_new hr ht hi hz hu hd' hzs (b := b) g1 g2 f2 f3 g3 f4 g4 f5 g5 f6 g6 hcap hc.1 hc2 ty
            have none0 : ∀ (ad : Option Addr), s' = .slice ad 0 0 → len' = 0 → m = 0 →
                ∃ v' w', (Builtin.append_ #[st, u] ty #[s', x']).run P w = .ok v' w' ∧ After ι base h w (.slice (some ⟨h.length, 0, none⟩) (len' + m) 1) (h ++ [some ⟨true, inf.size, joinS old new⟩]) v' w' (fun _ => False) := by
              intro ad he e1 e2
              subst he
              subst e2
              obtain ⟨g1, cn, g2, g3, g4, g5, g6⟩ := hx ι base w x' hr hx'
              obtain ⟨_, co, f2, f3, f4, f5, f6⟩ := hold ι base w _ hr hs'
              have hcn : cn = #[] := Array.size_eq_zero_iff.1 (by simpa using g3)
              refine ⟨.slice ad 0 0, w, by simpa using run_append_room ht hi hu hd' g1 g2 (Nat.le_refl _) ty (b := ad) (len := 0) (cap := 0) (by cases ad <;> simp [hcn, storeCells]), ?_⟩
              exact ⟨ι, Map.le_refl _, fun id l hl => .inl hl, HR_phantom hr (joinS_spec f4 g4).1 (by rw [(joinS_spec f4 g4).2.1, f5, g5]; simp [e1]), by rw [e1]; exact .slZero ad, Fr.refl _ _, fun b hb _ => by
                obtain ⟨id, blk, l, hb, ho, hl, rfl⟩ := hb
                have hlt := (hr.dom id l hl).1
                rw [List.getElem?_append_left hlt] at hb
                exact ⟨id, blk, l, hb, ho, hl, rfl⟩⟩
            rcases hs'.sl_inv with ⟨ad, hz0, he⟩ | ⟨lc, c', hl, hlen, hcap, htt, _, he⟩
            · by_cases hm : m = 0
              · exact none0 ad he hz0 hm
              · exact grow (cap := 0) (b := ad) (by rw [he, hz0]) (by omega)
            · have := htt rfl
              subst this
              by_cases hm : m = 0
              · have hz0 : c' = 0 := by omega
                subst hz0
                exact none0 _ he rfl hm
              · exact grow he (by omega)
          · cases ec
  · cases hk

end
end Go.Proofs.Ytcjjngdkkihgjaa.VC

/- The other builtins, calls; all operations together; regions in the text's order. -/
namespace Go.Proofs.Ytcjjngdkkihgjaa.VC
open Go

section
variable {P : Program} {S : Spec} {n : Nat} {s : Slots} {h : Heap} {o : Oper} {k : Value → Heap → Out} {out : Res}

theorem i64_nat {m : Nat} (hm : m ≤ 4611686018427387904) : IntKind.i64.min ≤ (m : Int) ∧ (m : Int) ≤ IntKind.i64.max := by
  have e1 : IntKind.i64.min = -9223372036854775808 := by decide
  have e2 : IntKind.i64.max = 9223372036854775807 := by decide
  rw [e1, e2]; omega

theorem mmK_some (isMax : Bool) (ik : IntKind) : ∀ {l : List Value} {x : Int} {kk : Value → Out}, mmK isMax ik x l kk = some out → ∃ m, kk (.int ik m) = some out ∧
    ∀ (ι : Map) (l' : List Value) (w : World), VRs ι l l' → ik.min ≤ x ∧ x ≤ ik.max → (ik.min ≤ m ∧ m ≤ ik.max) ∧
      (l'.foldlM (if isMax then Builtin.max2 else Builtin.min2) (.int ik x)).run P w = .ok (.int ik m) w
  | [], x, kk, hk => by
    simp only [mmK] at hk
    refine ⟨x, hk, fun ι l' w hl hx => ⟨hx, ?_⟩⟩
    have : l' = [] := List.length_eq_zero_iff.1 hl.1.symm
    subst this
    simp
  | v :: r, x, kk, hk => by
    cases v with
    | int k' y =>
      simp only [mmK] at hk
      obtain ⟨hkk, hk3⟩ := bif_none hk
      have := kind_eq hkk
      subst this
      have step : ∀ (x2 : Int), mmK isMax ik x2 r kk = some out → (∀ w, ((if isMax then Builtin.max2 else Builtin.min2) (.int ik x) (.int ik y)).run P w = .ok (.int ik x2) w) → (x2 = x ∨ x2 = y) → ∃ m, kk (.int ik m) = some out ∧
          ∀ (ι : Map) (l' : List Value) (w : World), VRs ι (.int ik y :: r) l' → ik.min ≤ x ∧ x ≤ ik.max → (ik.min ≤ m ∧ m ≤ ik.max) ∧
            (l'.foldlM (if isMax then Builtin.max2 else Builtin.min2) (.int ik x)).run P w = .ok (.int ik m) w := by
        intro x2 h1 h2 h3
        obtain ⟨m, q1, q2⟩ := mmK_some isMax ik h1
        refine ⟨m, q1, fun ι l' w hl hx => ?_⟩
        cases l' with
        | nil => simp [VRs] at hl
        | cons y' r' =>
          obtain ⟨rfl, hy⟩ := hl.head.int_inv
          obtain ⟨a1, a2⟩ := q2 ι r' w hl.tail (by rcases h3 with rfl | rfl <;> assumption)
          refine ⟨a1, ?_⟩
          rw [List.foldlM_cons, Sem.run_bind, h2, Result.andThen_ok]
          exact a2
      cases isMax with
      | true =>
        refine step _ hk3 (fun w => ?_) ?_
        · simp [Builtin.max2]
        · by_cases e : y > x
          · exact .inr (if_pos e)
          · exact .inl (if_neg e)
      | false =>
        refine step _ hk3 (fun w => ?_) ?_
        · simp [Builtin.min2]
        · by_cases e : y < x
          · exact .inr (if_pos e)
          · exact .inl (if_neg e)
    | _ => simp [mmK] at hk

theorem modifies_value {c : Call} {f : Operand} (hf : c.callee = .value f) : modifies S s (.call c) = (match opnd s f with | some (.func (.func g) _ _) => S.rw g | _ => true) := by
  obtain ⟨cal, ca, ct⟩ := c
  simp only at hf
  subst hf
  rfl

theorem modifies_append {c : Call} {l : List Value} (hf : c.callee = .builtin .append) (ha : opnds s c.args.toList = some l) : modifies S s (.call c) = !noR l := by
  obtain ⟨cal, ca, ct⟩ := c
  simp only at hf ha
  subst hf
  show (match opnds s ca.toList with | some l => !noR l | none => true) = _
  rw [ha]

theorem spliceK_some {sg new : List Seg} {off m : Nat} {kk : List Seg → Out} (hk : spliceK sg off m new kk = some out) (h1 : segsOK sg) (h2 : segsOK new) (h3 : segsLen new = m) :
    ∃ sg', kk sg' = some out ∧ off + m ≤ segsLen sg ∧ segsOK sg' ∧ ∀ i, cell? sg' i = if off ≤ i ∧ i < off + m then cell? new (i - off) else cell? sg i := by
  unfold spliceK at hk
  obtain ⟨a, q1, q2, q3, q4, q5⟩ := takeK_some hk h1
  obtain ⟨c, r1, r2, r3, r4, r5⟩ := dropK_some q1 h1
  obtain ⟨j1, j2, j3⟩ := joinS_spec h2 r4
  obtain ⟨l1, l2, l3⟩ := joinS_spec q4 j1
  refine ⟨_, r1, r2, l1, fun i => ?_⟩
  rw [l3, q3]
  by_cases e1 : i < off
  · rw [if_pos e1, if_neg (by omega), q5 i e1]
  · rw [if_neg e1, j3, h3]
    by_cases e2 : i < off + m
    · rw [if_pos (by omega), if_pos (by omega)]
    · rw [if_neg (by omega), if_neg (by omega), r5]
      congr 1
      omega

theorem spliceK_ex {sg new : List Seg} {off m : Nat} {kk : List Seg → Out} (hk : spliceK sg off m new kk = some out) : ∃ sg', kk sg' = some out := by
  unfold spliceK at hk
  obtain ⟨_, hk⟩ := takeK_ex hk
  obtain ⟨_, hk⟩ := dropK_ex hk
  exact ⟨_, hk⟩

theorem segsCell_get : ∀ {l : List Seg} {i : Nat} {y : Value}, segsCell l = true → cell? l i = some y → isCell y = true
  | [], i, y, _, hy => by simp [cell?] at hy
  | .vals vs :: r, i, y, hs, hy => by
    simp only [segsCell, Bool.and_eq_true] at hs
    simp only [cell?] at hy
    cases hvi : vs[i]? with
    | some z => rw [hvi] at hy; cases hy; exact List.all_eq_true.1 hs.1 _ (List.mem_of_getElem? hvi)
    | none => rw [hvi] at hy; exact segsCell_get hs.2 hy
  | .ints ik q xs :: r, i, y, hs, hy => by
    simp only [segsCell] at hs
    simp only [cell?] at hy
    by_cases hq : i < q
    · rw [if_pos hq] at hy; cases hy; rfl
    · rw [if_neg hq] at hy; exact segsCell_get hs hy
  | .any q xs :: r, i, y, hs, hy => by
    simp only [segsCell] at hs
    simp only [cell?] at hy
    by_cases hq : i < q
    · rw [if_pos hq] at hy; cases hy; cases (xs.getD i (FV.b false)) <;> rfl
    · rw [if_neg hq] at hy; exact segsCell_get hs hy

theorem copyK_some {dt : TypeId} {args : List Value} (hk : copyK P h dt args k = some out) : ∃ v h', k v h' = some out ∧ h.length ≤ h'.length ∧
    ∀ (ι : Map) (base : Nat) (w : World) (args' : Array Value) (st ty : TypeId), HR ι base h w → VRs ι args args'.toList → ∃ v' w', (Builtin.copy_ #[dt, st] ty args').run P w = .ok v' w' ∧ After ι base h w v h' v' w' (mods ι h) := by
  unfold copyK at hk
  split at hk
  · rename_i elem dst src hu
    split at hk
    · cases hk
    · rename_i inf hi
      obtain ⟨n, sg, hk, hc, hp⟩ := cellsK_pre (P := P) hk
      have two : ∀ {ι : Map} {args' : Array Value}, VRs ι [dst, src] args'.toList → ∃ d' s', args' = #[d', s'] ∧ VR ι dst d' ∧ VR ι src s' := by
        intro ι args' ha
        obtain ⟨l⟩ := args'
        match l, ha with
        | [d', s'], ha => exact ⟨d', s', rfl, ha.head, ha.tail.head⟩
        | [], ha => simp [VRs] at ha
        | [_], ha => simp [VRs] at ha
        | _ :: _ :: _ :: _, ha => simp [VRs] at ha
      -- what it does: nothing goes over
      have nothing : ∀ {ι : Map} {base : Nat} {w : World} {s' : Value} (ad : Option Addr) (cap : Nat) (st ty : TypeId), HR ι base h w → VR ι src s' → ∃ v' w', (Builtin.copy_ #[dt, st] ty #[.slice ad 0 cap, s']).run P w = .ok v' w' ∧ After ι base h w (.int .i64 (0 : Nat)) h v' w' (mods ι h) := by
        intro ι base w s' ad cap st ty hr hs
        obtain ⟨g1, _⟩ := hc ι base w s' hr hs
        obtain ⟨cs, g2, g3, _⟩ := hp ι base w s' hr hs 0 (Nat.zero_le _)
        have : cs = #[] := Array.size_eq_zero_iff.1 (by simpa using g3)
        subst this
        refine ⟨.int .i64 (0 : Nat), w, ?_, ι, Map.le_refl _, fun id l hl => .inl hl, hr, .int _ _ (by decide), Fr.refl _ _, fun b hb _ => hb⟩
        cases ad <;> simp [Builtin.copy_, run_underlying hu, g1, sizeOf, typeInfo, hi, g2, storeCells, goInt]
      split at hk
      · refine ⟨_, _, hk, Nat.le_refl _, fun ι base w args' st ty hr ha => ?_⟩
        obtain ⟨d', s', rfl, hd, hs⟩ := two ha
        rw [hd.slNil_inv.1]
        exact nothing none 0 st ty hr hs
      · rename_i id off len c _
        rcases bif_some hk with ⟨hz, hk⟩ | ⟨hz, hk⟩
        · have hz := beq_true hz
          subst hz
          refine ⟨_, _, hk, Nat.le_refl _, fun ι base w args' st ty hr ha => ?_⟩
          obtain ⟨d', s', rfl, hd, hs⟩ := two ha
          rcases hd.sl_inv with ⟨ad, _, rfl⟩ | ⟨lc, c', hl, hlen, hcap, ht, haa, rfl⟩
          · exact nothing ad 0 st ty hr hs
          · exact nothing _ c' st ty hr hs
        · have hz0 : len ≠ 0 := fun e => by rw [e] at hz; exact Bool.noConfusion (show true = false from hz)
          split at hk
          · rename_i b hb
            have hb := getB_some hb
            obtain ⟨hq, hk⟩ := bif_none hk
            simp only [Bool.and_eq_true] at hq
            obtain ⟨⟨⟨ho, hcl⟩, hn6⟩, hl6⟩ := hq
            obtain ⟨bo, bes, bsg⟩ := b
            have ho : bo = true := ho
            subst ho
            have hn6 := ble_true hn6
            have hl6 := ble_true hl6
            -- m elements go over, told by s1
            have main : ∀ (m : Nat) (s1 : List Seg), m = Nat.min n len → (segsOK sg → segsOK s1 ∧ segsLen s1 = m * inf.size ∧ ∀ j, j < m * inf.size → cell? s1 j = cell? sg j) → ∀ {kk : List Seg → Out}, spliceK bsg off (m * inf.size) s1 kk = some out →
                ∃ sg', kk sg' = some out ∧ ∀ (ι : Map) (base : Nat) (w : World) (args' : Array Value) (st ty : TypeId), HR ι base h w → VRs ι [.slice (some ⟨id, off, none⟩) len c, src] args'.toList →
                  ∃ v' w', (Builtin.copy_ #[dt, st] ty args').run P w = .ok v' w' ∧ After ι base h w (.int .i64 m) (h.set id (some ⟨true, bes, sg'⟩)) v' w' (mods ι h) := by
              intro m s1 hm hs1 kk hk
              by_cases hok : segsOK bsg ∧ segsOK sg
              case neg =>
                obtain ⟨sg', hk1⟩ := spliceK_ex hk
                refine ⟨sg', hk1, fun ι base w args' st ty hr ha => ?_⟩
                exfalso
                apply hok
                obtain ⟨d', s', rfl, hd, hs⟩ := two ha
                obtain ⟨_, cs, _, _, g4, _⟩ := hc ι base w s' hr hs
                rcases hr.live id _ hb with ⟨_, p2, _⟩ | ⟨l', p1, ⟨cc, T, fr, q1, q2, q3, q4, q5, q6⟩ | ⟨_, _, _, _, q2, _⟩⟩
                · exact ⟨p2, g4⟩
                · exact ⟨q4, g4⟩
                · obtain ⟨_, q2, _⟩ := q2; simp only at q2; rw [q2] at hk; cases hk
              case pos =>
                obtain ⟨hs2, hs3, hs4⟩ := hs1 hok.2
                obtain ⟨sg', hk, hle, hok', hcell⟩ := spliceK_some hk hok.1 hs2 hs3
                refine ⟨sg', hk, fun ι base w args' st ty hr ha => ?_⟩
                obtain ⟨d', s', rfl, hd, hs⟩ := two ha
                obtain ⟨g1, _, _, _, _, g5, _⟩ := hc ι base w s' hr hs
                have hmn : m ≤ n := by rw [hm]; exact Nat.min_le_left _ _
                obtain ⟨cn, g2, g3, g6⟩ := hp ι base w s' hr hs m hmn
                rcases hd.sl_inv with ⟨ad, hl0, _⟩ | ⟨lc, c', hl, hlen, hcap, ht, haa, rfl⟩
                · exact (hz0 hl0).elim
                rcases hr.live id _ hb with ⟨p1, _⟩ | ⟨l', p1, ⟨cc, T, fr, q1, q2, q3, q4, q5, q6⟩ | ⟨_, _, _, _, q2, _⟩⟩
                · rw [hl] at p1; cases p1
                rotate_left
                · obtain ⟨_, q2, _⟩ := q2; simp only at q2; rw [q2] at hok; exact (segsOK_mp hok.1).elim
                rw [hl] at p1
                simp only [Option.some.injEq] at p1
                subst p1
                have hbl := (Array.getElem?_eq_some_iff.1 q1).1
                have hcn : ∀ v ∈ cn.toList, isCell v = true := by
                  intro v hv
                  obtain ⟨j, hj⟩ := List.getElem?_of_mem hv
                  have hjl := (List.getElem?_eq_some_iff.1 hj).1
                  rw [Array.length_toList] at hjl
                  have hmul : m * inf.size ≤ n * inf.size := Nat.mul_le_mul_right _ hmn
                  obtain ⟨uu, hu⟩ := cell?_some (sg := sg) (i := j) (by omega)
                  obtain ⟨u', a1, a2⟩ := g6 j uu hu (by omega)
                  rw [Array.getElem?_toList, a1] at hj
                  cases hj
                  rw [a2.isCell]
                  exact segsCell_get hcl hu
                -- the world behind it
                obtain ⟨w2, cc', r1, r2, r3, r4, r5⟩ : ∃ w2 cc', (storeCells ⟨lc.b, lc.o + off, none⟩ cn.toList).run P w = .ok () w2 ∧ w2.heap = w.heap.setIfInBounds lc.b (.cells cc' T fr) ∧ Still w w2 ∧ cc'.size = cc.size ∧
                    ∀ j, cc'[j]? = if lc.o + off ≤ j ∧ j < lc.o + off + cn.toList.length then cn.toList[j - (lc.o + off)]? else cc[j]? := by
                  by_cases h0 : m * inf.size = 0
                  · have : cn = #[] := Array.size_eq_zero_iff.1 (by omega)
                    subst this
                    refine ⟨w, cc, by simp [storeCells], ?_, Still.refl _, rfl, fun j => ?_⟩
                    · apply Array.ext_getElem?
                      intro j
                      by_cases e : lc.b = j
                      · subst e; rw [Array.getElem?_setIfInBounds_self_of_lt hbl, q1]
                      · rw [Array.getElem?_setIfInBounds_ne e]
                    · rw [if_neg (by simp)]
                  · have hroom : lc.o + off + cn.size ≤ cc.size := by
                      rw [g3]
                      obtain ⟨u, hu⟩ := cell?_some (sg := bsg) (i := off + (m * inf.size - 1)) (by omega)
                      obtain ⟨v', a, _⟩ := q5 _ _ hu
                      have := (Array.getElem?_eq_some_iff.1 a).1
                      omega
                    obtain ⟨w2, cc', r1, r2, r3, r4, r5⟩ := run_storeCells (P := P) (b := lc.b) (o := lc.o + off) (T := T) (q6 rfl) cn.toList 0 w cc q1 (by rw [Array.length_toList]; omega) hcn
                    exact ⟨w2, cc', r1, r2, r3, r4, fun j => by simpa using r5 j⟩
                have hr2 : HR ι base (h.set id (some ⟨true, bes, sg'⟩)) w2 := by
                  refine HR_upd hr hb hl q1 r2 r4 hok' fun i v hv => ?_
                  rw [hcell] at hv
                  by_cases hin : off ≤ i ∧ i < off + m * inf.size
                  · rw [if_pos hin] at hv
                    rw [hs4 (i - off) (by omega)] at hv
                    obtain ⟨u', a1, a2⟩ := g6 _ v hv (by omega)
                    refine ⟨u', ?_, a2⟩
                    rw [r5, if_pos (by rw [Array.length_toList]; omega), Array.getElem?_toList, ← a1]
                    congr 1
                    omega
                  · rw [if_neg hin] at hv
                    obtain ⟨v', a1, a2⟩ := q5 i v hv
                    exact ⟨v', by rw [r5, if_neg (by rw [Array.length_toList]; omega)]; exact a1, a2⟩
                refine ⟨.int .i64 m, w2, ?_, ι, Map.le_refl _, fun id l hl => .inl hl, hr2, .int _ _ (i64_nat (Nat.le_trans hmn hn6)), ⟨by rw [r2]; simp, fun b' _ hm' => ?_, r3.os, r3.out, r3.tape⟩, fun b' hb' _ => ?_⟩
                · simp [Builtin.copy_, run_underlying hu, g1, sizeOf, typeInfo, hi, ← hm, g2, r1, goInt]
                · rw [r2, Array.getElem?_setIfInBounds_ne (fun e => hm' ⟨id, _, lc, hb, rfl, hl, e⟩)]
                · exact mods_set (fun blk e => ⟨_, hb, rfl⟩) hb'
            rcases bif_some hk with ⟨hle, hk⟩ | ⟨hle, hk⟩
            · have hle := ble_true hle
              have hm : n = Nat.min n len := (Nat.min_eq_left hle).symm
              by_cases hlen : segsLen sg = n * inf.size
              · obtain ⟨sg', q1, q2⟩ := main n sg hm (fun hs => ⟨hs, hlen, fun _ _ => rfl⟩) hk
                exact ⟨_, _, q1, by simp, fun ι base w args' st ty hr ha => q2 ι base w args' st ty hr ha⟩
              · obtain ⟨sg', q1⟩ := spliceK_ex hk
                refine ⟨_, _, q1, by simp, fun ι base w args' st ty hr ha => ?_⟩
                obtain ⟨d', s', rfl, hd, hs⟩ := two ha
                obtain ⟨_, _, _, _, _, g5, _⟩ := hc ι base w s' hr hs
                exact (hlen g5).elim
            · have hle := ble_false hle
              have hm : len = Nat.min n len := (Nat.min_eq_right (by omega)).symm
              by_cases hok : segsOK sg
              · obtain ⟨s1, t1, t2, t3, t4, t5⟩ := takeK_some hk hok
                obtain ⟨sg', q1, q2⟩ := main len s1 hm (fun _ => ⟨t4, t3, t5⟩) t1
                exact ⟨_, _, q1, by simp, fun ι base w args' st ty hr ha => q2 ι base w args' st ty hr ha⟩
              · obtain ⟨_, hk⟩ := takeK_ex hk
                obtain ⟨sg', q1⟩ := spliceK_ex hk
                refine ⟨_, _, q1, by simp, fun ι base w args' st ty hr ha => ?_⟩
                obtain ⟨d', s', rfl, hd, hs⟩ := two ha
                obtain ⟨_, _, _, _, g4, _⟩ := hc ι base w s' hr hs
                exact (hok g4).elim
          · cases hk
      · cases hk
  · cases hk

theorem modifies_copy {c : Call} (hf : c.callee = .builtin .copy) : modifies S s (.call c) = true := by
  obtain ⟨cal, ca, ct⟩ := c
  simp only at hf
  subst hf
  rfl

theorem op_call (hS : SpecOK P S) {c : Call} (ho : o.op = .call c) (hk : opK P S s h (.call c) k = some out) : OpOut P S n s h o k out := by
  simp only [opK] at hk
  split at hk
  · rename_i args hargs
    split at hk
    · -- a function
      rename_i f hf
      split at hk
      · rename_i g first captured hfv
        obtain ⟨v, h', q1, q2, q4, q3⟩ := callK_sound hS hk
        have hmod : modifies S s o.op = S.rw g := by rw [ho, modifies_value hf, hfv]
        refine ⟨v, h', q1, fun ι base w a hs hr next Q hn => ?_, q4, fun hm => q3 (hmod ▸ hm)⟩
        obtain ⟨xs', ys', he, hx, hy⟩ := (opnd_VR hs hfv).func_inv
        have hall : VRs ι (first.toList ++ args ++ captured.toList) (xs' ++ c.args.map a.eval ++ ys').toList := by
          rw [Array.toList_append, Array.toList_append, Array.toList_map]
          exact (hx.append (opnds_VRs hs hargs)).append hy
        have hcr := q2 ι base w (xs' ++ c.args.map a.eval ++ ys') hr hall
        have hrun : (execOp a.eval o).run P w = (callFunc g (xs' ++ c.args.map a.eval ++ ys')).run P w := by
          simp [execOp, ho, resolve, hf, he, Deferred.ofValue, invoke]
        rw [hmod] at hn
        simp only [Oper.wp, hrun]
        rcases hcr with ⟨c1, c2⟩ | ⟨v', w', c1, c2⟩
        · rw [c1]
          simp only [Oper.upon]
          exact c2.mono fun e w' ⟨v', he, ha⟩ => by subst he; exact hn v' w' ha
        · rw [c1]
          simp only [Oper.upon]
          exact hn v' w' c2
      · cases hk
    · -- a builtin
      rename_i b hb
      obtain ⟨cs, hrun⟩ : ∃ cs, ∀ (a : Act) (w : World), (execOp a.eval o).run P w = (builtin b c.argTypes o.type cs (c.args.map a.eval)).run P w := by
        refine ⟨c.args.map fun x => match x with | .const _ => true | _ => false, fun a w => ?_⟩
        simp only [execOp, ho, resolve, hb, Sem.run_bind, Sem.run_pure, Result.andThen_ok, invoke]
        rfl
      unfold builtinK at hk
      split at hk
      · -- len
        split at hk
        · rename_i t ts x xs hts
          have hvr : ∀ {ι : Map} {a : Act}, SR ι n s a → ∃ x', (c.args.map a.eval)[0]? = some x' ∧ VR ι x x' := fun hs => by
            obtain ⟨x', a1, a2⟩ := (opnds_VRs hs hargs).get (i := 0) (v := x) rfl
            exact ⟨x', by rw [← Array.getElem?_toList, Array.toList_map]; exact a1, a2⟩
          have ht0 : c.argTypes[0]? = some t := by rw [← Array.getElem?_toList, hts]; rfl
          split at hk
          · rename_i str hu
            refine .pure hk fun ι base w a hs hr => ?_
            obtain ⟨x', hx0, hx⟩ := hvr hs
            obtain ⟨rfl, hsz⟩ := hx.string_inv
            exact ⟨_, by rw [hrun]; simp only [builtin, Builtin.len_, ht0, hx0, Sem.run_bind, run_underlying hu, Result.andThen_ok, Sem.run_pure, goInt], .int _ _ (i64_nat hsz)⟩
          · rename_i m e v hu
            obtain ⟨hm, hk⟩ := bif_none hk
            refine .pure hk fun ι base w a hs hr => ?_
            obtain ⟨x', hx0, hx⟩ := hvr hs
            exact ⟨_, by rw [hrun]; simp only [builtin, Builtin.len_, ht0, hx0, Sem.run_bind, run_underlying hu, Result.andThen_ok, Sem.run_pure, goInt], .int _ _ (i64_nat (ble_true hm))⟩
          · rename_i e ad m cc hu
            refine .pure hk fun ι base w a hs hr => ?_
            obtain ⟨x', hx0, hx⟩ := hvr hs
            obtain ⟨ad', cc', rfl, hm⟩ : ∃ ad' cc', x' = .slice ad' m cc' ∧ m ≤ 9223372036854775807 := by
              cases hx with
              | slNil => exact ⟨_, _, rfl, by omega⟩
              | slZero a => exact ⟨_, _, rfl, by omega⟩
              | sl h1 h2 h3 h4 h5 => exact ⟨_, _, rfl, by omega⟩
              | slNN a c' => exact ⟨_, _, rfl, by omega⟩
              | slAny a h0 h1 => exact ⟨_, _, rfl, h0⟩
            exact ⟨_, by rw [hrun]; simp only [builtin, Builtin.len_, ht0, hx0, Sem.run_bind, run_underlying hu, Result.andThen_ok, Sem.run_pure, goInt], .int _ _ ⟨by simp [IntKind.min, IntKind.signed, IntKind.bits] <;> omega, by simp [IntKind.max, IntKind.signed, IntKind.bits] <;> omega⟩⟩
          · rename_i kt et hu
            refine .pure hk fun ι base w a hs hr => ?_
            obtain ⟨x', hx0, hx⟩ := hvr hs
            rw [hx.mapNil_inv] at hx0
            exact ⟨.int .i64 ((0 : Nat) : Int), by rw [hrun]; simp only [builtin, Builtin.len_, ht0, hx0, Sem.run_bind, run_underlying hu, Result.andThen_ok, Sem.run_pure, goInt]; rfl, .int _ _ (i64_nat (by omega))⟩
          · rename_i kt et id hu
            split at hk
            · rename_i own es ents hb
              have hb := getB_some hb
              obtain ⟨hm, hk⟩ := bif_none hk
              refine .pure hk fun ι base w a hs hr => ?_
              obtain ⟨x', hx0, hx⟩ := hvr hs
              obtain ⟨l, hl, rfl⟩ := hx.map_inv
              obtain ⟨os, clock, q1, q2, q3, q4, _, rs, q5, q6, q7⟩ := map_mp hr hb hl
              have hsz : os.size = ents.length := by
                have h1 := q5.length_eq
                have h2 := congrArg List.length q6
                simp only [List.length_map, Array.length_toList] at h1 h2
                omega
              exact ⟨_, by rw [hrun]; simp only [builtin, Builtin.len_, ht0, hx0, Sem.run_bind, run_underlying hu, Result.andThen_ok, Sem.run_pure, goInt, run_getMap q1, hsz], .int _ _ (i64_nat (ble_true hm))⟩
            · cases hk
          · cases hk
        · cases hk
      · -- append
        split at hk
        · rename_i st u hts
          have hat : c.argTypes = #[st, u] := by rw [← Array.toArray_toList (xs := c.argTypes), hts]
          have hmod := modifies_append (S := S) hb hargs
          cases hn : noR args with
          | true =>
            rw [hn] at hmod
            unfold noR at hn
            split at hn
            · have e := beq_true hn
              subst e
              obtain ⟨v, h', q1, q4, q5, q2⟩ := appendN_some hk
              refine ⟨v, h', q1, OpS_run fun ι base w a hs hr => ?_, q4, fun _ => q5⟩
              obtain ⟨v', w', a1, a2⟩ := q2 ι base w (c.args.map a.eval) o.type hr (by rw [Array.toList_map]; exact opnds_VRs hs hargs)
              refine ⟨v', w', by rw [hrun, hat]; simp only [builtin, Sem.run_bind, a1, Result.andThen_ok, Sem.run_pure], ?_⟩
              rw [if_neg (by rw [ho, hmod]; simp)]
              exact a2
            · cases hn
          | false =>
            rw [hn] at hmod
            obtain ⟨v, h', q1, q4, q2⟩ := appendK_some hk
            refine ⟨v, h', q1, OpS_run fun ι base w a hs hr => ?_, q4, by rw [ho, hmod]; simp⟩
            obtain ⟨v', w', a1, a2⟩ := q2 ι base w (c.args.map a.eval) o.type hr (by rw [Array.toList_map]; exact opnds_VRs hs hargs)
            refine ⟨v', w', by rw [hrun, hat]; simp only [builtin, Sem.run_bind, a1, Result.andThen_ok, Sem.run_pure], ?_⟩
            rw [if_pos (by rw [ho, hmod]; rfl)]
            exact a2
        · cases hk
      · -- copy
        split at hk
        · rename_i dt st hts
          obtain ⟨v, h', q1, q4, q2⟩ := copyK_some hk
          have hat : c.argTypes = #[dt, st] := by rw [← Array.toArray_toList (xs := c.argTypes), hts]
          refine ⟨v, h', q1, OpS_run fun ι base w a hs hr => ?_, q4, by rw [ho, modifies_copy hb]; simp⟩
          obtain ⟨v', w', a1, a2⟩ := q2 ι base w (c.args.map a.eval) st o.type hr (by rw [Array.toList_map]; exact opnds_VRs hs hargs)
          refine ⟨v', w', by rw [hrun, hat]; simp only [builtin, Sem.run_bind, a1, Result.andThen_ok, Sem.run_pure], ?_⟩
          rw [if_pos (by rw [ho, modifies_copy hb])]
          exact a2
        · cases hk
      · -- max
        split at hk
        · rename_i ik x r
          obtain ⟨m, q1, q2⟩ := mmK_some (P := P) true ik hk
          refine .pure q1 fun ι base w a hs hr => ?_
          have hvr := opnds_VRs hs hargs
          cases hl : c.args.toList.map a.eval with
          | nil => rw [hl] at hvr; simp [VRs] at hvr
          | cons y l' =>
            rw [hl] at hvr
            obtain ⟨rfl, hx⟩ := hvr.head.int_inv
            obtain ⟨p1, p2⟩ := q2 ι l' w hvr.tail hx
            refine ⟨_, ?_, .int _ _ p1⟩
            rw [hrun]
            simp only [builtin, Builtin.max_, Array.toList_map, hl]
            simp only [if_true] at p2
            simp [p2]
        · cases hk
      · -- min
        split at hk
        · rename_i ik x r
          obtain ⟨m, q1, q2⟩ := mmK_some (P := P) false ik hk
          refine .pure q1 fun ι base w a hs hr => ?_
          have hvr := opnds_VRs hs hargs
          cases hl : c.args.toList.map a.eval with
          | nil => rw [hl] at hvr; simp [VRs] at hvr
          | cons y l' =>
            rw [hl] at hvr
            obtain ⟨rfl, hx⟩ := hvr.head.int_inv
            obtain ⟨p1, p2⟩ := q2 ι l' w hvr.tail hx
            refine ⟨_, ?_, .int _ _ p1⟩
            rw [hrun]
            simp only [builtin, Builtin.min_, Array.toList_map, hl]
            simp only [Bool.false_eq_true, if_false] at p2
            simp [p2]
        · cases hk
      · cases hk
    · cases hk
  · cases hk

theorem segBytes_one {sg : List Seg} {l : List Int} (h : segBytes1 sg = some l) : segBytes sg = some l := by
  unfold segBytes1 at h
  split at h
  · cases h; simp [segBytes]
  · exact h
theorem segBytes_get : ∀ {sg : List Seg} {l : List Int}, segBytes sg = some l → segsOK sg → segsLen sg = l.length ∧ ∀ i, i < l.length → cell? sg i = some (.int .u8 (l.getD i 0))
  | [], l, hb, _ => by simp [segBytes] at hb; subst hb; exact ⟨rfl, fun i hi => by simp at hi⟩
  | .vals _ :: _, l, hb, _ => by simp [segBytes] at hb
  | .ints ik m xs :: r, l, hb, ho => by
    cases ik <;> simp only [segBytes] at hb <;> try cases hb
    split at hb
    · rename_i l' hl'
      cases hb
      obtain ⟨o1, o2⟩ := segsOK_cons.1 ho
      obtain ⟨i1, i2⟩ := segBytes_get hl' o2
      have hm : xs.length = m := o1.1
      refine ⟨by simp [segsLen, segLen, i1, hm], fun i hi => ?_⟩
      simp only [cell?]
      by_cases h1 : i < m
      · rw [if_pos h1]
        congr 2
        rw [List.getD_eq_getElem?_getD, List.getD_eq_getElem?_getD, List.getElem?_append_left (by omega)]
      · rw [if_neg h1]
        rw [List.length_append] at hi
        rw [i2 (i - m) (by omega)]
        congr 2
        rw [List.getD_eq_getElem?_getD, List.getD_eq_getElem?_getD, List.getElem?_append_right (by omega), hm]
    · cases hb

theorem push_all : ∀ (l : List Int) (s : ByteArray), l.foldl (fun r n => r.push (UInt8.ofNat n.toNat)) s = ⟨s.data ++ (l.map fun x => UInt8.ofNat x.toNat).toArray⟩
  | [], s => by simp
  | x :: l, s => by
    simp only [List.foldl_cons, List.map_cons]
    rw [push_all l]
    simp [ByteArray.push]

theorem op_frz {src dst : TypeId} {x : Operand} (ho : o.op = .convert src dst x) {a : Value} (h1 : opnd s x = some a) (hc : (Nat.beq src dst && isByteSlice P src) = true) (hk : frzK h a k = some out) : OpOut P S n s h o k out := by
  rw [Bool.and_eq_true] at hc
  obtain ⟨hc0, hc1⟩ := hc
  have hsd : src = dst := beq_true hc0
  subst hsd
  obtain ⟨e, hs0, he⟩ : ∃ e, P.underlying src = some (.slice e) ∧ P.underlying e = some (.int .u8) := by
    unfold isByteSlice at hc1
    split at hc1
    · rename_i e hu
      refine ⟨e, hu, ?_⟩
      split at hc1
      · rename_i h2; exact h2
      · cases hc1
    · cases hc1
  unfold frzK at hk
  split at hk
  · rename_i id off m c
    split at hk
    · rename_i es sg hb
      have hb := getB_some hb
      split at hk
      · rename_i hmp
        obtain ⟨hm, hk⟩ := bif_none hk
        have hm := blt_true hm
        have hmod : modifies S s o.op = true := by rw [ho]; exact hc0
        refine ⟨_, _, hk, OpS_run fun ι base w ac hs hr => ?_, by simp, fun e => by rw [hmod] at e; cases e⟩
        have hv := opnd_VR hs h1
        rcases hv.sl_inv with ⟨_, hz, _⟩ | ⟨l, c', hl, _, _, _, _, hx⟩
        · omega
        rcases hr.live id _ hb with ⟨p1, _⟩ | ⟨l', p1, ⟨cs, T, fr, q1, q2, q3, q4, q5, q6⟩ | ⟨_, _, _, _, ⟨_, q2, _⟩, _⟩⟩
        · rw [hl] at p1; cases p1
        rotate_left
        · simp only at q2; rw [q2] at hmp; cases hmp
        rw [hl] at p1
        simp only [Option.some.injEq] at p1
        subst p1
        have hlt := (Array.getElem?_eq_some_iff.1 q1).1
        let fr' : Nat × Nat := if fr.1 == fr.2 then (cs.size, cs.size + 1) else (min fr.1 cs.size, max fr.2 (cs.size + 1))
        let w' : World := { w with heap := w.heap.setIfInBounds l.b (.cells cs T fr') }
        have hrun : (execOp ac.eval o).run P w = .ok (.value (ac.eval x)) w' := by
          have hfz : w.freeze ⟨l.b, cs.size, none⟩ 1 = w' := by
            simp only [World.freeze, w', fr']
            rw [if_neg (by decide)]
            congr 1
            apply Array.ext_getElem?
            intro i
            rw [Array.getElem?_modify, Array.getElem?_setIfInBounds]
            by_cases hi : l.b = i
            · subst hi
              rw [if_pos rfl, if_pos rfl, q1, if_pos hlt]
              obtain ⟨lo, hi⟩ := fr
              rfl
            · rw [if_neg hi, if_neg hi]
          have hsh : w.shape? l.b = some (T, cs.size) := by simp only [World.shape?, q1]
          simp [execOp, ho, hx, convert, run_underlying hs0, run_underlying he, markStringish, shape, freeze, Sem.run, hsh, hfz]
        refine ⟨_, w', hrun, ι, Map.le_refl _, fun id l hl => .inl hl, ?_, hv, ?_, fun b hb' _ => ?_⟩
        · exact HR_updB0 hr hb rfl hl rfl (.inl ⟨cs, T, fr', by simp [w', hlt], q2, q3, q4, q5, fun ho => by cases ho⟩)
        · rw [hmod, if_pos rfl]
          refine ⟨by simp [w'], fun b hb' hm => ?_, rfl, rfl, rfl⟩
          simp only [w']
          rw [Array.getElem?_setIfInBounds_ne (fun e => hm ⟨id, _, l, hb, rfl, hl, e⟩)]
        · rcases hb' with ⟨id', blk', l', g1, g2, g3, g4⟩
          by_cases e : id = id'
          · subst e
            rw [List.getElem?_set_self (List.getElem?_eq_some_iff.1 hb).1] at g1
            cases g1
            cases g2
          · rw [List.getElem?_set_ne e] at g1
            exact ⟨id', blk', l', g1, g2, g3, g4⟩
      · cases hk
    · cases hk
  · cases hk
theorem strOf_size (l : List Int) : (strOf l).size = l.length := by
  show (strOf l).data.size = _
  simp [strOf]

theorem op_bytes {src dst : TypeId} {x : Operand} (ho : o.op = .convert src dst x) {a : Value} (h1 : opnd s x = some a) (hc : (isByteSlice P src && isStrT P dst) = true) (hk : bytesK h a (fun v => k v h) = some out) : OpOut P S n s h o k out := by
  rw [Bool.and_eq_true] at hc
  obtain ⟨hc1, hc2⟩ := hc
  obtain ⟨e, hs0, he⟩ : ∃ e, P.underlying src = some (.slice e) ∧ P.underlying e = some (.int .u8) := by
    unfold isByteSlice at hc1
    split at hc1
    · rename_i e hu
      refine ⟨e, hu, ?_⟩
      split at hc1
      · rename_i h2; exact h2
      · cases hc1
    · cases hc1
  have hd : P.underlying dst = some .string := by
    unfold isStrT at hc2
    split at hc2
    · rename_i h2; exact h2
    · cases hc2
  unfold bytesK at hk
  split at hk
  · rename_i ad l c
    obtain ⟨m, sg, hk, hcs⟩ := cellsK_some hk
    split at hk
    · rename_i bs hbs
      obtain ⟨hn, hk⟩ := bif_none hk
      have hn := ble_true hn
      refine .pure hk fun ι base w ac hs hr => ?_
      have hv := opnd_VR hs h1
      obtain ⟨g1, cs, g2, g3, g4, g5, g6⟩ := hcs ι base w _ hr hv
      obtain ⟨b1, b2⟩ := segBytes_get (segBytes_one hbs) g4
      obtain ⟨ad', l', c', hv'⟩ : ∃ ad' l' c', ac.eval x = .slice ad' l' c' := by
        generalize ac.eval x = v' at hv
        cases hv <;> exact ⟨_, _, _, rfl⟩
      rw [hv'] at g1 g2 hv
      have hm : l' = m := by simp [Builtin.lenOf] at g1; omega
      refine ⟨.string (strOf bs), ?_, .string _ (by rw [strOf_size]; omega)⟩
      have hrun : (execOp ac.eval o).run P w = (do return .value (← convert src dst (ac.eval x)) : Sem _).run P w := by
        simp [execOp, ho]
      rw [hrun, hv', Sem.run_bind, run_convert_bytes_string w src dst e ad' l' c' hs0 he hd]
      cases ad' with
      | none =>
        have hm0 : m * 1 = 0 := by
          simp [Builtin.firstCells] at g2
          subst g2
          simpa using g3.symm
        have : bs = [] := List.length_eq_zero_iff.1 (by omega)
        subst this
        simp [Conv.bytesToString, strOf]
        rfl
      | some a =>
        have hload : (loadCells a l').run P w = .ok (bs.map (Value.int .u8)).toArray w := by
          have g2' : (loadCells a (m * 1)).run P w = .ok cs w := g2
          rw [hm, show m = m * 1 by omega, g2']
          congr 1
          apply Array.ext
          · simp; omega
          · intro i h2 h3
            have hi : i < bs.length := by simpa using h3
            obtain ⟨u', a1, a2⟩ := g6 i _ (b2 i hi)
            rw [Array.getElem?_eq_getElem h2] at a1
            cases a1
            rw [a2.int_inv.1]
            simp [List.getD_eq_getElem?_getD, List.getElem?_eq_getElem hi]
        rw [run_bytesToString w a l' c' bs hload, push_all]
        simp [strOf]
    · cases hk
  · cases hk

theorem op_makeSlice {t : TypeId} {x y : Operand} (ho : o.op = .makeSlice t x y) (hk : opK P S s h (.makeSlice t x y) k = some out) : OpOut P S n s h o k out := by
  simp only [opK] at hk
  split at hk
  · rename_i l0 c0 hl0 hc0
    unfold makeK at hk
    split at hk
    · rename_i elem kl l kc c hu
      split at hk
      · rename_i inf hi
        split at hk
        · rename_i ik z hz
          obtain ⟨hq, hk⟩ := bif_none hk
          simp only [Bool.and_eq_true, decide_eq_true_eq] at hq
          obtain ⟨⟨⟨⟨⟨⟨hs1, hz1⟩, hz2⟩, hp⟩, hlc⟩, hby⟩, h62⟩ := hq
          have hs1 := beq_true hs1
          refine ⟨_, _, hk, OpS_push fun ι base w a hs hr => ?_, by simp, fun _ => ⟨_, rfl⟩⟩
          have el := (opnd_VR hs hl0).int_inv.1
          have ec := (opnd_VR hs hc0).int_inv.1
          have hcell : ∀ i, i < c.toNat → (madeCells (Value.int ik z).cells (c.toNat * inf.size))[i]? = some (.int ik z) := by
            intro i hi2
            simp only [madeCells, Array.getElem?_map, hs1, Nat.mul_one]
            rw [Array.getElem?_range, if_pos hi2]
            simp [Value.cells, Nat.mod_one]
          refine ⟨.slice (some ⟨w.heap.size, 0, none⟩) l.toNat c.toNat, madeCells (Value.int ik z).cells (c.toNat * inf.size), elem, w.alloc (.cells (madeCells (Value.int ik z).cells (c.toNat * inf.size)) elem), ?_, rfl, ⟨rfl, rfl, rfl⟩, ?_, fun i v hv => ?_, fun ι' hl' => ?_⟩
          · have := run_make (P := P) w t elem inf (.int ik z) hu hi hz kl kc l c hp hlc hby (by omega)
            simp only [execOp, ho, el, ec, Sem.run_bind, this, Result.andThen_ok, Sem.run_pure]
          · intro sg hsg
            simp only [List.mem_singleton] at hsg
            subst hsg
            refine ⟨by simp, fun x hx => ?_⟩
            obtain ⟨_, rfl⟩ := List.mem_replicate.1 hx
            exact ⟨hz1, hz2⟩
          · simp only [cell?] at hv
            by_cases h1 : i < l.toNat
            · rw [if_pos h1] at hv
              cases hv
              refine ⟨_, hcell i (by omega), ?_⟩
              rw [List.getD_eq_getElem?_getD, List.getElem?_replicate, if_pos h1]
              exact .int _ _ ⟨hz1, hz2⟩
            · rw [if_neg h1] at hv; cases hv
          · have hsz : (madeCells (Value.int ik z).cells (c.toNat * inf.size)).size = c.toNat := by simp [madeCells, hs1]
            refine .sl (l := ⟨w.heap.size, 0, _, 1⟩) hl' (by omega) (by omega) (fun e => ?_) (fun _ => by simp only [hsz]; omega)
            by_cases h1 : l = c
            · rw [h1]
            · rw [decide_eq_false h1] at e; cases e
        · cases hk
      · cases hk
    · cases hk
  · cases hk

theorem op_arrayAt {t : TypeId} {x : Operand} (ho : o.op = .sliceToArrayPointer t x) (hk : opK P S s h (.sliceToArrayPointer t x) k = some out) : OpOut P S n s h o k out := by
  simp only [opK] at hk
  split at hk
  · rename_i m el id off len c ht hx
    obtain ⟨hb, hk⟩ := bif_none hk
    simp only [Bool.and_eq_true] at hb
    have h0 := blt_true hb.1
    have h1 := ble_true hb.2
    refine .pure hk fun ι base w a hs hr => ?_
    have hv := opnd_VR hs hx
    rcases hv.sl_inv with ⟨ad, e, _⟩ | ⟨l, c', hl, _, _, _, _, he⟩
    · omega
    · refine ⟨.pointer (some ⟨l.b, l.o + off, none⟩), ?_, .ptr hl⟩
      simp [execOp, ho, he, Instr.arrayAt, run_underlying ht, show ¬ len < m by omega]
  · cases hk

theorem opK_sound (hS : SpecOK P S) (hk : opK P S s h o.op k = some out) : OpOut P S n s h o k out := by
  cases ho : o.op <;> rw [ho] at hk
  case move => exact op_move ho hk
  case assign => exact op_assign ho hk
  case pick => exact op_pick ho hk
  case alloc => exact op_alloc ho hk
  case box => exact op_box ho hk
  case build => exact op_build ho hk
  case buildSlice => exact op_buildSlice ho hk
  case load => exact op_load ho hk
  case store => exact op_store ho hk
  case nilCheck => exact op_nilCheck ho hk
  case sliceToArrayPointer => exact op_arrayAt ho hk
  case binOp => exact op_binOp ho hk
  case unOp => exact op_unOp ho hk
  case convert =>
    simp only [opK] at hk
    split at hk
    · rename_i a h1
      rcases bif_some hk with ⟨hc, hk⟩ | ⟨_, hk⟩
      · exact op_frz ho h1 hc hk
      rcases bif_some hk with ⟨hc, hk⟩ | ⟨_, hk⟩
      · exact op_bytes ho h1 hc hk
      · exact op_convert ho h1 hk
    · cases hk
  case makeSlice => exact op_makeSlice ho hk
  case makeFunc => exact op_makeFunc ho hk
  case slice => exact op_slice ho hk
  case fieldAddr => exact op_fieldAddr ho hk
  case field => exact op_field ho hk
  case indexAddr => exact op_indexAddr ho hk
  case index => exact op_index ho hk
  case extract => exact op_extract ho hk
  case call => exact op_call hS ho hk
  case makeMap => exact op_makeMap ho hk
  case insert => exact op_insert ho hk
  case mapUpdate => exact op_mapUpdate ho hk
  case lookup => exact op_lookup ho hk
  all_goals simp [opK] at hk
end
end Go.Proofs.Ytcjjngdkkihgjaa.VC

/- Regions in the text's order. -/
namespace Go.Proofs.Ytcjjngdkkihgjaa.VC
open Go

/-- From a state to a later one. -/
structure StepR (ι ι' : Map) (n base : Nat) (h : Heap) (w : World) (s' : Slots) (h' : Heap) (a' : Act) (w' : World) : Prop where
  le : Map.le ι ι'
  new : ∀ (id : Nat) (l : Loc), ι' id = some l → ι id = some l ∨ (h.length ≤ id ∧ (w.heap.size ≤ l.b ∨ mods ι h l.b))
  hr : HR ι' base h' w'
  sr : SR ι' n s' a'
  fr : Fr (mods ι h) w w'
  mo : ∀ b, mods ι' h' b → b < w.heap.size → mods ι h b
  len : h.length ≤ h'.length

def StepS (ι : Map) (n base : Nat) (h : Heap) (w : World) (s' : Slots) (h' : Heap) (a' : Act) (w' : World) : Prop := ∃ ι', StepR ι ι' n base h w s' h' a' w'

theorem StepS.refl {ι : Map} {n base : Nat} {h : Heap} {w : World} {s : Slots} {a : Act} (hr : HR ι base h w) (hs : SR ι n s a) : StepS ι n base h w s h a w :=
  ⟨ι, Map.le_refl _, fun _ _ h => .inl h, hr, hs, Fr.refl _ _, fun _ h _ => h, Nat.le_refl _⟩

theorem StepR.trans {ι ι1 ι2 : Map} {n base : Nat} {h h1 h2 : Heap} {w w1 w2 : World} {s1 s2 : Slots} {a1 a2 : Act} (x : StepR ι ι1 n base h w s1 h1 a1 w1) (y : StepR ι1 ι2 n base h1 w1 s2 h2 a2 w2) :
    StepR ι ι2 n base h w s2 h2 a2 w2 := by
  refine ⟨Map.le_trans x.le y.le, fun id l hl => ?_, y.hr, y.sr, x.fr.trans y.fr (fun b hb hm => x.mo b hm hb), fun b hm hb => x.mo b (y.mo b hm (Nat.lt_of_lt_of_le hb x.fr.size)) hb, Nat.le_trans x.len y.len⟩
  rcases y.new id l hl with h3 | ⟨h3, h4⟩
  · exact x.new id l h3
  · refine .inr ⟨Nat.le_trans x.len h3, ?_⟩
    by_cases hb : w.heap.size ≤ l.b
    · exact .inl hb
    · rcases h4 with h4 | h4
      · have := x.fr.size; omega
      · exact .inr (x.mo _ h4 (by omega))

theorem StepS.trans {ι ι1 : Map} {n base : Nat} {h h1 h2 : Heap} {w w1 w2 : World} {s1 s2 : Slots} {a1 a2 : Act} (x : StepR ι ι1 n base h w s1 h1 a1 w1) (y : StepS ι1 n base h1 w1 s2 h2 a2 w2) :
    StepS ι n base h w s2 h2 a2 w2 := let ⟨ι2, y⟩ := y; ⟨ι2, x.trans y⟩

/-- A slot is laid, if there is one. -/
def Laid (n : Nat) (s : Slots) (dst : Option Tmp) (v : Option Value) (s' : Slots) : Prop := match dst with
  | some t => t < n ∧ s' = (t, v) :: s
  | none => s' = s

/-- An operation's step. -/
theorem After.step {ι : Map} {n base : Nat} {h h' : Heap} {w w' : World} {v v' : Value} {m : Nat → Prop} {s : Slots} {a : Act} {dst : Option Tmp} {s' : Slots} (ha : After ι base h w v h' v' w' m) (hm : ∀ b, m b → mods ι h b)
    (hlen : h.length ≤ h'.length) (hs : SR ι n s a) (hp : Laid n s dst (some v) s') : StepS ι n base h w s' h' (a.put dst v') w' := by
  obtain ⟨ι', q⟩ := ha
  refine ⟨ι', q.le, fun id l hl => ?_, q.hr, ?_, q.fr.mono hm, q.mo, hlen⟩
  · rcases q.new id l hl with h1 | ⟨h1, h2 | h2⟩
    · exact .inl h1
    · exact .inr ⟨h1, .inl h2⟩
    · exact .inr ⟨h1, .inr (hm _ h2)⟩
  · have hs' := hs.mono q.le
    cases dst with
    | none => simp only [Laid] at hp; subst hp; exact hs'
    | some t =>
      simp only [Laid] at hp
      obtain ⟨ht, rfl⟩ := hp
      exact hs'.put ht (fun u hu => by cases hu; exact q.vr)

section
variable {P : Program} {S : Spec} {n : Nat} {out : Res}

theorem putS_some {s : Slots} {dst : Option Tmp} {v : Option Value} {k : Slots → Out} (hk : putS n s dst v k = some out) :
    ∃ s', k s' = some out ∧ Laid n s dst v s' := by
  cases dst with
  | none => exact ⟨s, hk, rfl⟩
  | some t => simp only [putS] at hk; obtain ⟨h1, hk⟩ := bif_none hk; exact ⟨_, hk, blt_true h1, rfl⟩

/-- A slot's own value, laid once more. -/
theorem SR.again {ι : Map} {s : Slots} {a : Act} (hs : SR ι n s a) {t : Nat} {v : Value} (h : getS s t = some v) : SR ι n ((t, some v) :: s) a := by
  refine ⟨hs.1, hs.2.1, fun u x hx => ?_⟩
  rw [getS_cons] at hx
  by_cases e : u = t
  · subst e
    rw [if_pos rfl] at hx
    rw [← h] at hx
    exact hs.2.2 u x hx
  · rw [if_neg e] at hx
    exact hs.2.2 u x hx

/-- The slot that a guard looks at is as told. -/
def GR (ι : Map) (n : Nat) (ops : Array Oper) (o : Oper) (s : Slots) (a : Act) : Prop := a.tmps.size = n ∧ a.defers = [] ∧ ∀ (t : Nat) (v : Value), (∃ j w, o.guard = some (j, w) ∧ (ops[j]?).bind (·.dst) = some t) → getS s t = some v → VR ι v (a.tmps.getD t undef)

/-- A guard: what the evaluator does is what the region does. -/
theorem guardK_some' {D : Nat → Option Bool} {ops : Array Oper} {o : Oper} {s : Slots} {run skip : Slots → Out} (hk : guardK D ops o s run skip = some out) :
    ∃ s', (∀ (t : Nat), getS s' t = getS s t) ∧ ((run s' = some out ∧ ∀ (ι : Map) (a : Act), GR ι n ops o s a → Region.wanted o (yielded ops a.tmps) = true) ∨
      (skip s' = some out ∧ ∀ (ι : Map) (a : Act), GR ι n ops o s a → Region.wanted o (yielded ops a.tmps) = false)) := by
  unfold guardK at hk
  split at hk
  · rename_i hg
    exact ⟨s, fun _ => rfl, .inl ⟨hk, fun ι a _ => by simp [Region.wanted, hg]⟩⟩
  · rename_i j want hg
    split at hk
    · rename_i t ht
      have hy : ∀ {ι : Map} {a : Act} {v : Value}, GR ι n ops o s a → getS s t = some v → ∃ v', VR ι v v' ∧ (t < n → yielded ops a.tmps j = (match v' with | .bool b => some b | _ => none)) ∧ (¬ t < n → yielded ops a.tmps j = none ∧ v' = undef) := by
        intro ι a v hs hv
        refine ⟨_, hs.2.2 t v ⟨j, want, hg, ht⟩ hv, fun hlt => ?_, fun hge => ?_⟩
        · have : a.tmps[t]? = some (a.tmps.getD t undef) := by
            rw [Array.getD_eq_getD_getElem?, Array.getElem?_eq_getElem (by rw [hs.1]; exact hlt)]
            rfl
          unfold yielded
          rw [ht]
          simp only [Option.bind_some, this]
          cases a.tmps.getD t undef <;> rfl
        · have : a.tmps[t]? = none := Array.getElem?_eq_none (by rw [hs.1]; exact Nat.not_lt.1 hge)
          unfold yielded
          rw [ht]
          simp only [Option.bind_some, this]
          refine ⟨trivial, ?_⟩
          rw [Array.getD_eq_getD_getElem?, this]
          rfl
      have same : ∀ (v : Value), getS s t = some v → ∀ u, getS ((t, some v) :: s) u = getS s u := by
        intro v hv u
        rw [getS_cons]
        by_cases e : u = t
        · subst e; rw [if_pos rfl, hv]
        · rw [if_neg e]
      split at hk
      · rename_i b hb
        have hyb : ∀ {ι : Map} {a : Act}, GR ι n ops o s a → yielded ops a.tmps j = some b := by
          intro ι a hs
          obtain ⟨v', hv, h1, h2⟩ := hy hs hb
          rw [hv.bool_inv] at h1 h2
          by_cases hlt : t < n
          · exact h1 hlt
          · have := (h2 hlt).2; cases this
        have hk := forkK_some hk
        cases b with
        | true =>
          simp only [cond_true] at hk
          cases want with
          | true => exact ⟨_, same _ hb, .inl ⟨hk, fun ι a hs => by simp [Region.wanted, hg, hyb hs]⟩⟩
          | false => exact ⟨_, same _ hb, .inr ⟨hk, fun ι a hs => by simp [Region.wanted, hg, hyb hs]⟩⟩
        | false =>
          simp only [cond_false] at hk
          cases want with
          | true => exact ⟨_, same _ hb, .inr ⟨hk, fun ι a hs => by simp [Region.wanted, hg, hyb hs]⟩⟩
          | false => exact ⟨_, same _ hb, .inl ⟨hk, fun ι a hs => by simp [Region.wanted, hg, hyb hs]⟩⟩
      · rename_i vs hb
        obtain ⟨he, hk⟩ := bif_none hk
        refine ⟨s, fun _ => rfl, .inr ⟨hk, fun ι a hs => ?_⟩⟩
        obtain ⟨v', hv, h1, h2⟩ := hy hs hb
        obtain ⟨cs', rfl, _⟩ := hv.tuple_inv
        have : yielded ops a.tmps j = none := by
          by_cases hlt : t < n
          · exact h1 hlt
          · exact (h2 hlt).1
        simp [Region.wanted, hg, this]
      · cases hk
    · cases hk

theorem guardK_some {D : Nat → Option Bool} {ops : Array Oper} {o : Oper} {s : Slots} {run skip : Slots → Out} (hk : guardK D ops o s run skip = some out) :
    ∃ s', (∀ (t : Nat), getS s' t = getS s t) ∧ ((run s' = some out ∧ ∀ (ι : Map) (a : Act), SR ι n s a → Region.wanted o (yielded ops a.tmps) = true) ∨
      (skip s' = some out ∧ ∀ (ι : Map) (a : Act), SR ι n s a → Region.wanted o (yielded ops a.tmps) = false)) := by
  obtain ⟨s', h1, ⟨h2, h3⟩ | ⟨h2, h3⟩⟩ := guardK_some' (n := n) hk
  · exact ⟨s', h1, .inl ⟨h2, fun ι a hs => h3 ι a ⟨hs.1, hs.2.1, fun t v _ hv => hs.2.2 t v hv⟩⟩⟩
  · exact ⟨s', h1, .inr ⟨h2, fun ι a hs => h3 ι a ⟨hs.1, hs.2.1, fun t v _ hv => hs.2.2 t v hv⟩⟩⟩

theorem SR.congr {ι : Map} {s s' : Slots} {a : Act} (h : ∀ t, getS s' t = getS s t) (hs : SR ι n s a) : SR ι n s' a := ⟨hs.1, hs.2.1, fun t v hv => hs.2.2 t v (by rw [← h]; exact hv)⟩

/-- A region in the text's order. -/
theorem seqK_sound (hS : SpecOK P S) {ops : Array Oper} : ∀ {l : List Oper} {i : Nat} {s : Slots} {h : Heap} {k : Slots → Heap → Out}, seqK P S n ops l s h k = some out → (∀ j, l[j]? = ops[i + j]?) →
    ∃ s' h', k s' h' = some out ∧ ∀ (ι : Map) (base : Nat) (w : World) (a : Act) (Q : Exit → Act → World → Prop), SR ι n s a → HR ι base h w → (∀ a' w', StepS ι n base h w s' h' a' w' → Q .normal a' w') →
      wpOps P ops Q (List.range' i l.length) a w
  | [], i, s, h, k, hk, _ => ⟨s, h, hk, fun ι base w a Q hs hr hq => by simp only [List.length_nil, List.range'_zero, wpOps]; exact hq a w (StepS.refl hr hs)⟩
  | o :: r, i, s, h, k, hk, hl => by
    have hoi : ops[i]? = some o := by have := hl 0; simpa using this.symm
    have hr' : ∀ j, r[j]? = ops[i + 1 + j]? := fun j => by
      have := hl (j + 1)
      rw [List.getElem?_cons_succ] at this
      rw [this]
      congr 1
      omega
    simp only [seqK] at hk
    obtain ⟨s0, hs0, hrun | hskip⟩ := guardK_some (n := n) hk
    · obtain ⟨hk, hw⟩ := hrun
      obtain ⟨v, h1, q1, q2, q3, _⟩ := opK_sound (n := n) hS hk
      obtain ⟨s1, p1, p2⟩ := putS_some q1
      obtain ⟨s', h', r1, r2⟩ := seqK_sound hS p1 hr'
      refine ⟨s', h', r1, fun ι base w a Q hs hr hq => ?_⟩
      rw [List.length_cons, List.range'_succ, wpOps_cons]
      simp only [wpOp, hoi]
      rw [if_pos (hw ι a hs)]
      refine .inl (q2 ι base w a (hs.congr hs0) hr _ _ fun v' w' ha => ?_)
      obtain ⟨ι1, st⟩ := ha.step (fun b hb => by
        split at hb
        · exact hb
        · exact hb.elim) q3 (hs.congr hs0) p2
      exact r2 ι1 base w' _ Q st.sr st.hr fun a' w2 st2 => hq a' w2 (StepS.trans st st2)
    · obtain ⟨hk, hw⟩ := hskip
      obtain ⟨s1, p1, p2⟩ := putS_some hk
      obtain ⟨s', h', r1, r2⟩ := seqK_sound hS p1 hr'
      refine ⟨s', h', r1, fun ι base w a Q hs hr hq => ?_⟩
      rw [List.length_cons, List.range'_succ, wpOps_cons]
      simp only [wpOp, hoi]
      rw [if_neg (by rw [hw ι a hs]; simp)]
      have hs1 := hs.congr hs0
      have hs2 : SR ι n s1 (a.put o.dst undef) := by
        cases hd : o.dst with
        | none => rw [hd] at p2; simp only [Laid] at p2; subst p2; exact hs1
        | some t => rw [hd] at p2; simp only [Laid] at p2; obtain ⟨ht, rfl⟩ := p2; exact hs1.put ht (fun u hu => by cases hu; exact VR.undef ι)
      exact r2 ι base w _ Q hs2 hr hq

theorem seqK_region (hS : SpecOK P S) {ops : Array Oper} {id : Nat} {s : Slots} {h : Heap} {k : Slots → Heap → Out} (hk : seqK P S n ops ops.toList s h k = some out) :
    ∃ s' h', k s' h' = some out ∧ ∀ (ι : Map) (base : Nat) (w : World) (a : Act) (Q : Exit → Act → World → Prop), SR ι n s a → HR ι base h w → (∀ a' w', StepS ι n base h w s' h' a' w' → Q .normal a' w') →
      (Code.region id ops false).wp P Q a w := by
  obtain ⟨s', h', h1, h2⟩ := seqK_sound hS (i := 0) hk (fun j => by simp)
  refine ⟨s', h', h1, fun ι base w a Q hs hr hq => wp_region ?_⟩
  have := h2 ι base w a Q hs hr hq
  rw [Array.length_toList] at this
  rw [List.range_eq_range']
  exact this
end
end Go.Proofs.Ytcjjngdkkihgjaa.VC

/- Regions whose order is open. -/
namespace Go.Proofs.Ytcjjngdkkihgjaa.VC
open Go

/-! ### a map cut off at a number -/
def Map.below (ι : Map) (L : Nat) : Map := fun id => if id < L then ι id else none
theorem Map.below_le (ι : Map) (L : Nat) : Map.le (ι.below L) ι := fun id l h => by
  simp only [Map.below] at h
  split at h
  · exact h
  · cases h

theorem bdV_VR {ι : Map} {L : Nat} : ∀ (d : Nat) {v v' : Value}, bdV L d v = true → VR ι v v' → VR (ι.below L) v v'
  | 0, v, v', h, _ => by simp [bdV] at h
  | d + 1, v, v', h, hv => by
    have arr : ∀ {cs cs' : Array Value}, cs.toList.all (bdV L d) = true → (∀ (i : Nat) (v v' : Value), cs[i]? = some v → cs'[i]? = some v' → VR ι v v') → ∀ (i : Nat) (v v' : Value), cs[i]? = some v → cs'[i]? = some v' → VR (ι.below L) v v' := by
      intro cs cs' h1 h2 i v v' a b
      exact bdV_VR d (List.all_eq_true.1 h1 v (List.mem_of_getElem? (l := cs.toList) (i := i) (by simpa using a))) (h2 i v v' a b)
    cases hv with
    | bool b => exact .bool b
    | int k n hn => exact .int k n hn
    | string s hs => exact .string s hs
    | ptrNil => exact .ptrNil
    | @ptr id off l hl => simp only [bdV] at h; exact .ptr (by simp only [Map.below]; rw [if_pos (blt_true h)]; exact hl)
    | slNil => exact .slNil
    | slZero a => exact .slZero a
    | slNN a c' => exact .slNN a c'
    | slAny a h0 h1 => exact .slAny a h0 h1
    | @sl id off len c c' l hl h0 h1 ht ha => simp only [bdV] at h; exact .sl (by simp only [Map.below]; rw [if_pos (blt_true h)]; exact hl) h0 h1 ht ha
    | nilFunc => exact .nilFunc
    | nilIface => exact .nilIface
    | func fn h1 h2 h3 h4 => simp only [bdV, Bool.and_eq_true] at h; exact .func fn h1 (arr h.1 h2) h3 (arr h.2 h4)
    | iface t hv => simp only [bdV] at h; exact .iface t (bdV_VR d h hv)
    | agg h1 h2 => simp only [bdV] at h; exact .agg h1 (arr h h2)
    | tuple h1 h2 => simp only [bdV] at h; exact .tuple h1 (arr h h2)
    | mapNil => exact .mapNil
    | @map id l hl hes => simp only [bdV] at h; exact .map (by simp only [Map.below]; rw [if_pos (blt_true h)]; exact hl) hes

theorem bd_cell {L : Nat} : ∀ {sg : List Seg} {i : Nat} {v : Value}, (sg.all fun s => match s with | .vals vs => vs.all (bdV L 8) | .ints _ _ _ => true | .any _ _ => true | .mp false es => bdM L es | .mp true _ => true) = true → cell? sg i = some v → bdV L 8 v = true
  | [], i, v, _, h => by simp [cell?] at h
  | .mp _ es :: r, i, v, hb, h => by
    simp only [List.all_cons, Bool.and_eq_true] at hb
    exact bd_cell (sg := r) hb.2 h
  | .vals vs :: r, i, v, hb, h => by
    simp only [List.all_cons, Bool.and_eq_true] at hb
    simp only [cell?] at h
    cases hc : vs[i]? with
    | some x => rw [hc] at h; cases h; exact List.all_eq_true.1 hb.1 _ (List.mem_of_getElem? hc)
    | none => rw [hc] at h; exact bd_cell hb.2 h
  | .ints k n xs :: r, i, v, hb, h => by
    simp only [List.all_cons, Bool.and_eq_true] at hb
    simp only [cell?] at h
    by_cases hi : i < n
    · rw [if_pos hi] at h; cases h; rfl
    · rw [if_neg hi] at h; exact bd_cell hb.2 h
  | .any n xs :: r, i, v, hb, h => by
    simp only [List.all_cons, Bool.and_eq_true] at hb
    simp only [cell?] at h
    by_cases hi : i < n
    · rw [if_pos hi] at h; cases h; cases (xs.getD i (FV.b false)) <;> rfl
    · rw [if_neg hi] at h; exact bd_cell hb.2 h

theorem bdH_get {L : Nat} {h : Heap} (hb : bdH L h = true) {id : Nat} {blk : Blk} (hi : h[id]? = some (some blk)) {i : Nat} {v : Value} (hc : cell? blk.segs i = some v) : bdV L 8 v = true := by
  have := List.all_eq_true.1 hb _ (List.mem_of_getElem? hi)
  obtain ⟨o, es, sg⟩ := blk
  exact bd_cell this hc

theorem BlkRel.bd {ι : Map} {L : Nat} {h1 : Heap} {id : Nat} {blk : Blk} {l : Loc} {w : World} (hb : bdH L h1 = true) (hi : h1[id]? = some (some blk)) (hr : BlkRel ι l blk w) : BlkRel (ι.below L) l blk w := by
  rcases hr with ⟨c, T, fr, q1, q2, q3, q4, q5, q6⟩ | ⟨es, k, ents, h1, h2, h0, h3, h7, rs, h4, h5, h6⟩
  · refine .inl ⟨c, T, fr, q1, q2, q3, q4, fun i v hv => ?_, q6⟩
    obtain ⟨v', a, b⟩ := q5 i v hv
    exact ⟨v', a, bdV_VR 8 (bdH_get hb hi hv) b⟩
  · obtain ⟨lf, h2, hfl⟩ := h2
    cases lf with
    | true => exact .inr ⟨es, k, ents, h1, ⟨true, h2, hfl⟩, h0, h3, h7, rs, h4, h5, flat_VRs (hfl rfl) h6⟩
    | false =>
      refine .inr ⟨es, k, ents, h1, ⟨false, h2, hfl⟩, h0, h3, h7, rs, h4, h5, h6.1, fun i v v' ha hb' => bdV_VR 8 ?_ (h6.2 i v v' ha hb')⟩
      have := List.all_eq_true.1 hb _ (List.mem_of_getElem? hi)
      obtain ⟨o, e, sg⟩ := blk
      simp only at h2
      subst h2
      simp only [List.all_cons, List.all_nil, Bool.and_true] at this
      rw [List.getElem?_map] at ha
      cases hp : ents[i]? with
      | none => rw [hp] at ha; cases ha
      | some p => rw [hp] at ha; cases ha; exact List.all_eq_true.1 this p (List.mem_of_getElem? hp)
/-- Part of a heap, on a map cut off. -/
theorem HR_sub {ι : Map} {base : Nat} {h h1 : Heap} {w : World} (hr : HR ι base h w) (hs : ∀ (id : Nat) (blk : Blk), h1[id]? = some (some blk) → h[id]? = some (some blk)) (hb : bdH h1.length h1 = true) :
    HR (ι.below h1.length) base h1 w := by
  have lt : ∀ (id : Nat) (blk : Blk), h1[id]? = some (some blk) → id < h1.length := fun id blk h => (List.getElem?_eq_some_iff.1 h).1
  refine ⟨fun id blk hi => ?_, fun id l hl => ?_, fun id id' blk blk' l l' hi hi' ho hne hl hl' => ?_, fun id blk l hi ho hl => ?_, hr.base_le⟩
  · rcases hr.live id blk (hs id blk hi) with ⟨p1, p2⟩ | ⟨l, p1, p2⟩
    · exact .inl ⟨by simp only [Map.below]; rw [if_pos (lt id blk hi)]; exact p1, p2⟩
    · exact .inr ⟨l, by simp only [Map.below]; rw [if_pos (lt id blk hi)]; exact p1, p2.bd hb hi⟩
  · simp only [Map.below] at hl
    split at hl
    · rename_i hlt; exact ⟨hlt, (hr.dom id l hl).2⟩
    · cases hl
  · exact hr.inj id id' blk blk' l l' (hs _ _ hi) (hs _ _ hi') ho hne (Map.below_le _ _ _ _ hl) (Map.below_le _ _ _ _ hl')
  · exact hr.own id blk l (hs _ _ hi) ho (Map.below_le _ _ _ _ hl)

/-- What turns nothing that was there. -/
theorem HR_fr {ι : Map} {base : Nat} {h : Heap} {w w' : World} (hr : HR ι base h w) (hf : Fr (fun _ => False) w w') : HR ι base h w' := by
  refine ⟨fun id blk hi => ?_, fun id l hl => ?_, hr.inj, hr.own, Nat.le_trans hr.base_le hf.size⟩
  · rcases hr.live id blk hi with p | ⟨l, p1, p2⟩
    · exact .inl p
    · exact .inr ⟨l, p1, p2.same (hf.same _ (hr.dom id l p1).2 (fun x => x))⟩
  · have := hr.dom id l hl
    exact ⟨this.1, Nat.lt_of_lt_of_le this.2 hf.size⟩

/-- A heap with no more blocks, and more room. -/
theorem HR_ext {ι : Map} {base : Nat} {h h1 : Heap} {w : World} (hr : HR ι base h w) (hs : ∀ (id : Nat) (blk : Blk), h1[id]? = some (some blk) → h[id]? = some (some blk)) (hl : h.length ≤ h1.length) : HR ι base h1 w :=
  ⟨fun id blk hi => hr.live id blk (hs id blk hi), fun id l h => by have := hr.dom id l h; omega, fun id id' blk blk' l l' hi hi' => hr.inj id id' blk blk' l l' (hs _ _ hi) (hs _ _ hi'), fun id blk l hi => hr.own id blk l (hs _ _ hi), hr.base_le⟩

/-! ### masks -/
def inRange (r : Nat × Nat × Nat) (id : Nat) : Prop := r.2.1 ≤ id ∧ id < r.2.1 + r.2.2

theorem killR_get : ∀ (n a : Nat) (h : Heap) (id : Nat), (killR a n h).length = h.length ∧ ((a ≤ id ∧ id < a + n → ∀ blk, (killR a n h)[id]? ≠ some (some blk)) ∧ (¬ (a ≤ id ∧ id < a + n) → (killR a n h)[id]? = h[id]?))
  | 0, a, h, id => ⟨rfl, fun hh => by omega, fun _ => rfl⟩
  | n + 1, a, h, id => by
    simp only [killR]
    obtain ⟨i1, i2, i3⟩ := killR_get n (a + 1) (h.set a none) id
    refine ⟨by rw [i1]; simp, fun hh blk => ?_, fun hh => ?_⟩
    · by_cases e : id = a
      · subst e
        rw [i3 (by omega)]
        by_cases hl : id < h.length
        · rw [List.getElem?_set_self hl]; simp
        · rw [List.getElem?_eq_none (by simp; omega)]; simp
      · exact i2 (by omega) blk
    · rw [i3 (by omega), List.getElem?_set_ne (by omega)]

theorem maskH_eq (deps : Nat) : ∀ (rs : List (Nat × Nat × Nat)) (h : Heap), maskH deps rs h = maskF (fun i => deps.testBit i) rs h
  | [], h => rfl
  | (i, a, n) :: r, h => by simp only [maskH, maskF]; cases deps.testBit i <;> simp [maskH_eq]

theorem maskF_get {keep : Nat → Bool} : ∀ (rs : List (Nat × Nat × Nat)) (h : Heap) (id : Nat), (maskF keep rs h).length = h.length ∧
    ((∃ r ∈ rs, inRange r id ∧ keep r.1 = false) → ∀ blk, (maskF keep rs h)[id]? ≠ some (some blk)) ∧ ((∀ r ∈ rs, inRange r id → keep r.1 = true) → (maskF keep rs h)[id]? = h[id]?)
  | [], h, id => ⟨rfl, (by rintro ⟨r, hr, _⟩; cases hr), fun _ => rfl⟩
  | (i, a, n) :: rs, h, id => by
    simp only [maskF]
    cases hk : keep i with
    | true =>
      simp only [cond_true]
      obtain ⟨i1, i2, i3⟩ := maskF_get (keep := keep) rs h id
      refine ⟨i1, ?_, fun hh => i3 fun r hr => hh r (List.mem_cons_of_mem _ hr)⟩
      rintro ⟨r, hr, h1, h2⟩
      rcases List.mem_cons.1 hr with rfl | hr
      · simp [hk] at h2
      · exact i2 ⟨r, hr, h1, h2⟩
    | false =>
      simp only [cond_false]
      obtain ⟨i1, i2, i3⟩ := maskF_get (keep := keep) rs (killR a n h) id
      obtain ⟨k1, k2, k3⟩ := killR_get n a h id
      by_cases hin : a ≤ id ∧ id < a + n
      · refine ⟨by rw [i1, k1], fun _ => ?_, fun hh => by have := hh (i, a, n) (List.mem_cons_self ..) hin; simp [hk] at this⟩
        by_cases hx : ∃ r ∈ rs, inRange r id ∧ keep r.1 = false
        · exact i2 hx
        · rw [i3 (fun r hr h1 => by
            cases hkr : keep r.1 with
            | true => rfl
            | false => exact (hx ⟨r, hr, h1, hkr⟩).elim)]
          exact k2 hin
      · refine ⟨by rw [i1, k1], ?_, fun hh => by rw [i3 (fun r hr => hh r (List.mem_cons_of_mem _ hr)), k3 hin]⟩
        rintro ⟨r, hr, h1, h2⟩
        rcases List.mem_cons.1 hr with rfl | hr
        · exact (hin h1).elim
        · exact i2 ⟨r, hr, h1, h2⟩

theorem restrS_get {l : List Nat} : ∀ {s : Slots} {t : Nat}, getS (restrS l s) t = if t ∈ l then getS s t else none
  | [], t => by simp [restrS, getS]
  | (u, v) :: r, t => by
    simp only [restrS]
    cases hm : memN u l with
    | true =>
      have hu : u ∈ l := by
        by_cases hx : u ∈ l
        · exact hx
        · exfalso
          have aux : ∀ (l : List Nat), u ∉ l → memN u l = false := by
            intro l
            induction l with
            | nil => intro _; rfl
            | cons y r ih =>
              intro hn
              simp only [List.mem_cons, not_or] at hn
              simp only [memN, Bool.or_eq_false_iff]
              refine ⟨?_, ih hn.2⟩
              cases hb : Nat.beq y u with
              | false => rfl
              | true => exact (hn.1 (beq_true hb).symm).elim
          rw [aux l hx] at hm; cases hm
      simp only [cond_true]
      rw [getS_cons, getS_cons, restrS_get]
      by_cases e : t = u
      · subst e; simp [hu]
      · simp [e]
    | false =>
      have hu := memN_false hm
      simp only [cond_false]
      rw [getS_cons, restrS_get]
      by_cases e : t = u
      · subst e; simp [hu]
      · simp [e]

/-! ### the order -/
/-- What stands before: by an edge, or behind one. -/
theorem before_spec (ops : Array Oper) (j i : Nat) (o : Oper) (ho : ops[j]? = some o) (h : ((Region.before ops).getD j 0).testBit i = true) :
    ∃ e ∈ o.after, Region.binds .any e = true ∧ (e.on = i ∨ (e.on < j ∧ ((Region.before ops).getD e.on 0).testBit i = true)) := by
  -- the list of numbers, built from the left
  have step : ∀ (es : List Edge) (s : Nat) (acc : Array Nat), (es.foldl (fun s e => if Region.binds .any e then s ||| 2 ^ e.on ||| acc.getD e.on 0 else s) s).testBit i = true →
      s.testBit i = true ∨ ∃ e ∈ es, Region.binds .any e = true ∧ (e.on = i ∨ (acc.getD e.on 0).testBit i = true) := by
    intro es
    induction es with
    | nil => intro s acc h; exact .inl h
    | cons e es ih =>
      intro s acc h
      simp only [List.foldl_cons] at h
      rcases ih _ _ h with h1 | ⟨e', he, h1⟩
      · by_cases hb : Region.binds .any e = true
        · rw [if_pos hb] at h1
          simp only [Nat.testBit_or, Bool.or_eq_true] at h1
          rcases h1 with (h1 | h1) | h1
          · exact .inl h1
          · refine .inr ⟨e, List.mem_cons_self .., hb, .inl ?_⟩
            rw [Nat.testBit_two_pow] at h1
            simpa using h1
          · exact .inr ⟨e, List.mem_cons_self .., hb, .inr h1⟩
        · rw [if_neg hb] at h1; exact .inl h1
      · exact .inr ⟨e', List.mem_cons_of_mem _ he, h1⟩
  have all : ∀ (l : List Oper) (acc : Array Nat), (∀ k, k < acc.size → (l.foldl (fun acc o => acc.push (o.after.foldl (fun s e => if Region.binds .any e then s ||| 2 ^ e.on ||| acc.getD e.on 0 else s) 0)) acc).getD k 0 = acc.getD k 0) ∧
      ∀ (k : Nat) (o : Oper), l[k]? = some o → ((l.foldl (fun acc o => acc.push (o.after.foldl (fun s e => if Region.binds .any e then s ||| 2 ^ e.on ||| acc.getD e.on 0 else s) 0)) acc).getD (acc.size + k) 0).testBit i = true →
        ∃ e ∈ o.after, Region.binds .any e = true ∧ (e.on = i ∨ (e.on < acc.size + k ∧ ((l.foldl (fun acc o => acc.push (o.after.foldl (fun s e => if Region.binds .any e then s ||| 2 ^ e.on ||| acc.getD e.on 0 else s) 0)) acc).getD e.on 0).testBit i = true)) := by
    intro l
    induction l with
    | nil => intro acc; exact ⟨fun k _ => rfl, fun k o hk => by simp at hk⟩
    | cons o l ih =>
      intro acc
      simp only [List.foldl_cons]
      obtain ⟨i1, i2⟩ := ih (acc.push (o.after.foldl (fun s e => if Region.binds .any e then s ||| 2 ^ e.on ||| acc.getD e.on 0 else s) 0))
      have keep : ∀ k, k < acc.size → (l.foldl (fun acc o => acc.push (o.after.foldl (fun s e => if Region.binds .any e then s ||| 2 ^ e.on ||| acc.getD e.on 0 else s) 0)) (acc.push (o.after.foldl (fun s e => if Region.binds .any e then s ||| 2 ^ e.on ||| acc.getD e.on 0 else s) 0))).getD k 0 = acc.getD k 0 := by
        intro k hk
        rw [i1 k (by simp; omega)]
        simp [Array.getElem?_push_lt hk, hk]
      refine ⟨keep, fun k o' hk hb => ?_⟩
      cases k with
      | zero =>
        simp only [List.getElem?_cons_zero, Option.some.injEq] at hk
        subst hk
        rw [Nat.add_zero, i1 acc.size (by simp)] at hb
        simp only [Array.getD_eq_getD_getElem?, Array.getElem?_push_size, Option.getD_some] at hb
        rw [← Array.foldl_toList] at hb
        simp only [← Array.getD_eq_getD_getElem?] at hb
        rcases step _ _ _ hb with h1 | ⟨e, he, h1, h2⟩
        · simp at h1
        · refine ⟨e, by simpa using he, h1, ?_⟩
          rcases h2 with h2 | h2
          · exact .inl h2
          · have hlt : e.on < acc.size := by
              rcases Nat.lt_or_ge e.on acc.size with h3 | h3
              · exact h3
              · rw [Array.getD_eq_getD_getElem?, Array.getElem?_eq_none h3] at h2; simp at h2
            exact .inr ⟨by omega, by rw [keep _ hlt]; exact h2⟩
      | succ k =>
        simp only [List.getElem?_cons_succ] at hk
        have := i2 k o' hk (by rw [Array.size_push, show acc.size + 1 + k = acc.size + (k + 1) by omega]; exact hb)
        rw [Array.size_push, show acc.size + 1 + k = acc.size + (k + 1) by omega] at this
        exact this
  have hb : Region.before ops = ops.toList.foldl (fun acc o => acc.push (o.after.foldl (fun s e => if Region.binds .any e then s ||| 2 ^ e.on ||| acc.getD e.on 0 else s) 0)) #[] := by
    unfold Region.before
    rw [← Array.foldl_toList]
  rw [hb] at h ⊢
  have := (all ops.toList #[]).2 j o (by simpa using ho) (by simpa using h)
  simpa using this
/-- Blocks that are only read, at a region's begin; they lie apart from what may be written. -/
def StillAt (ι0 : Map) (w0 : World) (stl : Heap) (h0 : Heap) : Prop := stl.length ≤ h0.length ∧ ∀ (id : Nat) (blk : Blk), stl[id]? = some (some blk) → blk.own = false ∧
  ((ι0 id = none ∧ segsOK blk.segs ∧ ∀ i, cell? blk.segs i = none) ∨ ∃ l, ι0 id = some l ∧ BlkRel ι0 l blk w0 ∧ ¬ mods ι0 h0 l.b)
theorem StillAt.nil (ι0 : Map) (w0 : World) (h0 : Heap) : StillAt ι0 w0 [] h0 := ⟨Nat.zero_le _, fun id blk h => by simp at h⟩
theorem padH_get {stl : Heap} {L id : Nat} {blk : Blk} (h : (padH stl L)[id]? = some (some blk)) : stl[id]? = some (some blk) := by
  unfold padH at h
  by_cases hi : id < stl.length
  · rw [List.getElem?_append_left hi] at h; exact h
  · rw [List.getElem?_append_right (by omega), List.getElem?_replicate] at h
    split at h <;> cases h
theorem HR_pad {ι0 ι : Map} {base : Nat} {w0 w : World} {stl h0 : Heap} {L : Nat} (hst : StillAt ι0 w0 stl h0) (hfr : Fr (mods ι0 h0) w0 w) (hle : Map.le ι0 ι)
    (hnew : ∀ (id : Nat) (l : Loc), ι id = some l → ι0 id = some l ∨ (h0.length ≤ id ∧ (w0.heap.size ≤ l.b ∨ mods ι0 h0 l.b))) (hdom : ∀ (id : Nat) (l : Loc), ι id = some l → l.b < w.heap.size) (hbase : base ≤ w.heap.size) (hL : stl.length ≤ L) (hbd : bdH L (padH stl L) = true) : HR (ι.below L) base (padH stl L) w := by
  have hlen : (padH stl L).length = L := by simp [padH]; omega
  refine ⟨fun id blk hi => ?_, fun id l hl => ?_, fun id id' blk blk' l l' hi _ ho => ?_, fun id blk l hi ho => ?_, hbase⟩
  · have hs := padH_get hi
    have hid : id < stl.length := (List.getElem?_eq_some_iff.1 hs).1
    obtain ⟨_, hx⟩ := hst.2 id blk hs
    rcases hx with ⟨p1, p2⟩ | ⟨l, p1, hrel, p3⟩
    · refine .inl ⟨?_, p2⟩
      simp only [Map.below]
      split
      · cases hx : ι id with
        | none => rfl
        | some l =>
          rcases hnew id l hx with h | ⟨h, _⟩
          · rw [p1] at h; cases h
          · have := hst.1; omega
      · rfl
    · have hlt : l.b < w0.heap.size := hrel.lt
      exact .inr ⟨l, by simp only [Map.below]; rw [if_pos (by omega)]; exact hle _ _ p1, ((hrel.same (hfr.same _ hlt p3)).mono hle).bd hbd hi⟩
  · simp only [Map.below] at hl
    split at hl
    · rename_i hlt; exact ⟨by omega, hdom id l hl⟩
    · cases hl
  · have := (hst.2 id blk (padH_get hi)).1; rw [ho] at this; cases this
  · have := (hst.2 id blk (padH_get hi)).1; rw [ho] at this; cases this

/-- A set of operations that holds what its members stand behind. -/
def Clo (b : Array Nat) (D : Nat → Prop) : Prop := ∀ j i, D j → (b.getD j 0).testBit i = true → D i

section
variable {P : Program} {S : Spec} {n : Nat} {out : Res}

/-- What an operation does to the state of the text's order. -/
inductive StepTr (P : Program) (n : Nat) (ops : Array Oper) (b : Array Nat) (T : Nat → Bool) (stl : Heap) (j : Nat) (o : Oper) (s : Slots) (h : Heap) (rs : List (Nat × Nat × Nat)) : Slots → Heap → List (Nat × Nat × Nat) → Prop
  | skip {s0 s' : Slots} (h0 : ∀ t, getS s0 t = getS s t) (hw : ∀ (ι : Map) (a : Act), SR ι n (restrS (namesOf ops o) s) a → Region.wanted o (yielded ops a.tmps) = false) (hl : Laid n s0 o.dst (some undef) s') : StepTr P n ops b T stl j o s h rs s' h rs
  | non {s0 s' : Slots} {v : Value} {N : Heap} (hp : calmAt T ops j = false) (h0 : ∀ t, getS s0 t = getS s t) (hw : ∀ (ι : Map) (a : Act), SR ι n (restrS (namesOf ops o) s) a → Region.wanted o (yielded ops a.tmps) = true)
      (hs : bdS h.length (restrS (namesOf ops o) s0) = true) (hb : bdH h.length (maskF (fun i => (b.getD j 0).testBit i) rs h) = true)
      (ho : OpS P n (restrS (namesOf ops o) s0) (maskF (fun i => (b.getD j 0).testBit i) rs h) o v (maskF (fun i => (b.getD j 0).testBit i) rs h ++ N) false) (hl : Laid n s0 o.dst (some v) s') :
      StepTr P n ops b T stl j o s h rs s' (h ++ N) ((j, h.length, N.length) :: rs)
  | pure {s0 s' : Slots} {v : Value} (h0 : ∀ t, getS s0 t = getS s t) (hw : ∀ (ι : Map) (a : Act), SR ι n (restrS (namesOf ops o) s) a → Region.wanted o (yielded ops a.tmps) = true)
      (hp : calmAt T ops j = true) (hs : bdS h.length (restrS (namesOf ops o) s0) = true) (hbd : bdH h.length (padH stl h.length) = true) (hle : stl.length ≤ h.length) (ho : OpS P n (restrS (namesOf ops o) s0) (padH stl h.length) o v (padH stl h.length) false) (hl : Laid n s0 o.dst (some v) s') : StepTr P n ops b T stl j o s h rs s' h rs
  | mod {s0 s' : Slots} {v : Value} {h' : Heap} (hp : calmAt T ops j = false) (h0 : ∀ t, getS s0 t = getS s t) (hw : ∀ (ι : Map) (a : Act), SR ι n (restrS (namesOf ops o) s) a → Region.wanted o (yielded ops a.tmps) = true)
      (hbar : barrier T ops b ops.size j = true) (ho : OpS P n (restrS (namesOf ops o) s0) h o v h' true) (hlen : h.length ≤ h'.length) (hl : Laid n s0 o.dst (some v) s') : StepTr P n ops b T stl j o s h rs s' h' []

theorem bif_none' {x : Out} {q : Bool} (hq : (bif q then none else x) = some out) : q = false ∧ x = some out := by
  cases q
  · exact ⟨rfl, hq⟩
  · cases hq

/-- The guard's word hangs on the slots that the operation names. -/
theorem guard_restr {ops : Array Oper} {o : Oper} {s : Slots} {b : Bool} (h : ∀ (ι : Map) (a : Act), GR ι n ops o s a → Region.wanted o (yielded ops a.tmps) = b) :
    ∀ (ι : Map) (a : Act), SR ι n (restrS (namesOf ops o) s) a → Region.wanted o (yielded ops a.tmps) = b := by
  intro ι a hs
  refine h ι a ⟨hs.1, hs.2.1, fun t v hg hv => hs.2.2 t v ?_⟩
  rw [restrS_get, if_pos]
  · exact hv
  · obtain ⟨j, w, h1, h2⟩ := hg
    simp [namesOf, h1, h2]

theorem pure_modifies {T : Nat → Bool} {j : Nat} {s : Slots} {op : Op} (h : calmOp T j op = true) : modifies S s op = false := by
  cases op <;> first | rfl | (simp [calmOp, pureOp, isLoad] at h; done) | skip
  case convert src dst x =>
    show Nat.beq src dst = false
    cases hb : Nat.beq src dst with
    | false => rfl
    | true => simp [calmOp, pureOp, isLoad, hb] at h

theorem drawK_trace (hS : SpecOK P S) {ops : Array Oper} {b : Array Nat} {T : Nat → Bool} {stl : Heap} : ∀ {l : List Oper} {j : Nat} {s : Slots} {h : Heap} {rs : List (Nat × Nat × Nat)} {k : Slots → Heap → Out}, drawK P S n ops b T stl l j s h rs k = some out → (∀ i, l[i]? = ops[j + i]?) →
    ∃ (ss : Nat → Slots) (hh : Nat → Heap) (rr : Nat → List (Nat × Nat × Nat)), ss j = s ∧ hh j = h ∧ rr j = rs ∧ k (ss (j + l.length)) (hh (j + l.length)) = some out ∧
      ∀ i o, j ≤ i → i < j + l.length → ops[i]? = some o → StepTr P n ops b T stl i o (ss i) (hh i) (rr i) (ss (i + 1)) (hh (i + 1)) (rr (i + 1))
  | [], j, s, h, rs, k, hk, _ => ⟨fun _ => s, fun _ => h, fun _ => rs, rfl, rfl, rfl, hk, fun i o h1 h2 => by simp at h2; omega⟩
  | o :: r, j, s, h, rs, k, hk, hl => by
    have hoj : ops[j]? = some o := by have := hl 0; simpa using this.symm
    have hr' : ∀ i, r[i]? = ops[j + 1 + i]? := fun i => by
      have := hl (i + 1)
      rw [List.getElem?_cons_succ] at this
      rw [this]; congr 1; omega
    -- the rest, put behind a first step
    have glue : ∀ (s1 : Slots) (h1 : Heap) (rs1 : List (Nat × Nat × Nat)), StepTr P n ops b T stl j o s h rs s1 h1 rs1 → drawK P S n ops b T stl r (j + 1) s1 h1 rs1 k = some out →
        ∃ (ss : Nat → Slots) (hh : Nat → Heap) (rr : Nat → List (Nat × Nat × Nat)), ss j = s ∧ hh j = h ∧ rr j = rs ∧ k (ss (j + (o :: r).length)) (hh (j + (o :: r).length)) = some out ∧
          ∀ i o', j ≤ i → i < j + (o :: r).length → ops[i]? = some o' → StepTr P n ops b T stl i o' (ss i) (hh i) (rr i) (ss (i + 1)) (hh (i + 1)) (rr (i + 1)) := by
      intro s1 h1 rs1 hst hd
      obtain ⟨ss, hh, rr, e1, e2, e3, e4, e5⟩ := drawK_trace hS hd hr'
      refine ⟨fun i => if i = j then s else ss i, fun i => if i = j then h else hh i, fun i => if i = j then rs else rr i, by simp, by simp, by simp, ?_, fun i o' h1 h2 h3 => ?_⟩
      · have : j + (o :: r).length = j + 1 + r.length := by simp; omega
        rw [this]
        simp only [show ¬ (j + 1 + r.length = j) by omega, if_false]
        exact e4
      · by_cases e : i = j
        · subst e
          rw [hoj] at h3
          cases h3
          simp only [if_true, show ¬ (i + 1 = i) by omega, if_false, e1, e2, e3]
          exact hst
        · simp only [e, if_false, show ¬ (i + 1 = j) by omega]
          exact e5 i o' (by omega) (by simp at h2; omega) h3
    simp only [drawK] at hk
    obtain ⟨s0, hs0, hrun | hskip⟩ := guardK_some' (n := n) hk
    · obtain ⟨hk, hw⟩ := hrun
      have hw := guard_restr hw
      have hpj : calmAt T ops j = calmOp T j o.op := by simp [calmAt, hoj]
      rcases bif_some hk with ⟨hpu, hk⟩ | ⟨hpu, hk⟩
      · obtain ⟨hbd, hk⟩ := bif_none hk
        simp only [Bool.and_eq_true] at hbd
        obtain ⟨hbd, hbd2, hbd3⟩ := hbd
        have hbd3 := ble_true hbd3
        obtain ⟨v, h1, q1, q2, q3, q4⟩ := opK_sound (n := n) hS hk
        obtain ⟨he, q1⟩ := bif_none q1
        obtain ⟨s1, p1, p2⟩ := putS_some q1
        have hmo := pure_modifies (S := S) (s := restrS (namesOf ops o) s0) hpu
        rw [hmo] at q2
        obtain ⟨N, hN⟩ := q4 hmo
        have he := beq_true he
        subst hN
        have hN : N = [] := by
          rw [List.length_append] at he
          have : (padH stl h.length).length = h.length := by simp [padH]; omega
          exact List.length_eq_zero_iff.1 (by omega)
        subst hN
        rw [List.append_nil] at q2
        exact glue s1 h rs (.pure hs0 hw (hpj.trans hpu) hbd hbd2 hbd3 q2 p2) p1
      have hpj := hpj.trans hpu
      rcases bif_some hk with ⟨hmo, hk⟩ | ⟨hmo, hk⟩
      · obtain ⟨hbar, hk⟩ := bif_none hk
        obtain ⟨v, h1, q1, q2, q3, _⟩ := opK_sound (n := n) hS hk
        obtain ⟨s1, p1, p2⟩ := putS_some q1
        rw [hmo] at q2
        exact glue s1 h1 [] (.mod hpj hs0 hw hbar q2 q3 p2) p1
      · obtain ⟨hbd, hk⟩ := bif_none' hk
        simp only [Bool.not_eq_false', Bool.and_eq_true] at hbd
        obtain ⟨v, h1, q1, q2, q3, q4⟩ := opK_sound (n := n) hS hk
        obtain ⟨s1, p1, p2⟩ := putS_some q1
        rw [hmo] at q2
        obtain ⟨N, hN⟩ := q4 hmo
        have hml := (maskF_get (keep := fun i => (b.getD j 0).testBit i) rs h 0).1
        rw [maskH_eq] at q2 hbd hN
        subst hN
        have e1 : (maskF (fun i => (b.getD j 0).testBit i) rs h ++ N).drop h.length = N := by rw [← hml]; simp
        have e2 : (maskF (fun i => (b.getD j 0).testBit i) rs h ++ N).length - h.length = N.length := by rw [List.length_append, hml]; omega
        rw [e1, e2] at p1
        exact glue s1 (h ++ N) _ (.non hpj hs0 hw hbd.1 hbd.2 q2 p2) p1
    · obtain ⟨hk, hw⟩ := hskip
      have hw := guard_restr hw
      obtain ⟨s1, p1, p2⟩ := putS_some hk
      exact glue s1 h rs (.skip hs0 hw p2) p1
end
end Go.Proofs.Ytcjjngdkkihgjaa.VC

/- Regions whose order is open: every order comes to the text's end. -/
namespace Go.Proofs.Ytcjjngdkkihgjaa.VC
open Go

theorem maskF_live {keep : Nat → Bool} {rs : List (Nat × Nat × Nat)} {h : Heap} {id : Nat} {blk : Blk} (hm : (maskF keep rs h)[id]? = some (some blk)) : (∀ r ∈ rs, inRange r id → keep r.1 = true) ∧ h[id]? = some (some blk) := by
  obtain ⟨_, g2, g3⟩ := maskF_get (keep := keep) rs h id
  have h1 : ∀ r ∈ rs, inRange r id → keep r.1 = true := by
    intro r hr hi
    cases hk : keep r.1 with
    | true => rfl
    | false => exact (g2 ⟨r, hr, hi, hk⟩ blk hm).elim
  exact ⟨h1, by rw [← g3 h1]; exact hm⟩

theorem maskF_of {keep : Nat → Bool} {rs : List (Nat × Nat × Nat)} {h : Heap} {id : Nat} (h1 : ∀ r ∈ rs, inRange r id → keep r.1 = true) : (maskF keep rs h)[id]? = h[id]? := (maskF_get (keep := keep) rs h id).2.2 h1

theorem maskF_len {keep : Nat → Bool} {rs : List (Nat × Nat × Nat)} {h : Heap} : (maskF keep rs h).length = h.length := (maskF_get (keep := keep) rs h 0).1

theorem SR.below {ι : Map} {n L : Nat} {s : Slots} {a : Act} (hs : SR ι n s a) (hb : bdS L s = true) : SR (ι.below L) n s a := by
  refine ⟨hs.1, hs.2.1, fun t v hv => bdV_VR 8 ?_ (hs.2.2 t v hv)⟩
  have mem : ∀ (s : Slots), getS s t = some v → (t, some v) ∈ s := by
    intro s
    induction s with
    | nil => intro h; simp [getS] at h
    | cons p r ih =>
      intro h
      obtain ⟨u, x⟩ := p
      rw [getS_cons] at h
      by_cases e : t = u
      · subst e; rw [if_pos rfl] at h; subst h; exact List.mem_cons_self ..
      · rw [if_neg e] at h; exact List.mem_cons_of_mem _ (ih h)
  exact List.all_eq_true.1 hb _ (mem s hv)

/-- Two maps, one within a range. -/
def Map.mix (ι ι1 : Map) (L m : Nat) : Map := fun id => if L ≤ id ∧ id < L + m then ι1 id else ι id

theorem HR_merge {ι ι1 : Map} {base : Nat} {HD HD' mk N : Heap} {w w' : World} (hr : HR ι base HD w) (hr1 : HR ι1 base (mk ++ N) w') (hf : Fr (fun _ => False) w w') (le1 : Map.le ι1 (ι.mix ι1 mk.length N.length)) (le2 : Map.le ι (ι.mix ι1 mk.length N.length))
    (new1 : ∀ (id : Nat) (l : Loc), mk.length ≤ id → ι1 id = some l → w.heap.size ≤ l.b) (hlen : HD'.length = HD.length) (hfit : mk.length + N.length ≤ HD.length)
    (hH : ∀ (id : Nat) (blk : Blk), HD'[id]? = some (some blk) → ((mk.length ≤ id ∧ id < mk.length + N.length) ∧ (mk ++ N)[id]? = some (some blk)) ∨ (¬ (mk.length ≤ id ∧ id < mk.length + N.length) ∧ HD[id]? = some (some blk))) :
    HR (ι.mix ι1 mk.length N.length) base HD' w' := by
  have inn : ∀ {id : Nat}, (mk.length ≤ id ∧ id < mk.length + N.length) → ι.mix ι1 mk.length N.length id = ι1 id := fun h => by simp only [Map.mix]; rw [if_pos h]
  have out : ∀ {id : Nat}, ¬ (mk.length ≤ id ∧ id < mk.length + N.length) → ι.mix ι1 mk.length N.length id = ι id := fun h => by simp only [Map.mix]; rw [if_neg h]
  refine ⟨fun id blk hb => ?_, fun id l hl => ?_, fun id id' blk blk' l l' hb hb' ho hne hl hl' => ?_, fun id blk l hb ho hl => ?_, Nat.le_trans hr.base_le hf.size⟩
  · rcases hH id blk hb with ⟨hi, hb⟩ | ⟨hi, hb⟩
    · rcases hr1.live id blk hb with ⟨p1, p2⟩ | ⟨l, p1, p2⟩
      · exact .inl ⟨by rw [inn hi]; exact p1, p2⟩
      · exact .inr ⟨l, by rw [inn hi]; exact p1, p2.mono le1⟩
    · rcases hr.live id blk hb with ⟨p1, p2⟩ | ⟨l, p1, p2⟩
      · exact .inl ⟨by rw [out hi]; exact p1, p2⟩
      · exact .inr ⟨l, by rw [out hi]; exact p1, (p2.same (hf.same _ (hr.dom id l p1).2 (fun x => x))).mono le2⟩
  · by_cases hi : mk.length ≤ id ∧ id < mk.length + N.length
    · rw [inn hi] at hl
      have := (hr1.dom id l hl).2
      exact ⟨by omega, this⟩
    · rw [out hi] at hl
      have := hr.dom id l hl
      exact ⟨by omega, Nat.lt_of_lt_of_le this.2 hf.size⟩
  · rcases hH id blk hb with ⟨hi, hb⟩ | ⟨hi, hb⟩ <;> rcases hH id' blk' hb' with ⟨hi', hb'⟩ | ⟨hi', hb'⟩
    · rw [inn hi] at hl; rw [inn hi'] at hl'
      exact hr1.inj id id' blk blk' l l' hb hb' ho hne hl hl'
    · rw [inn hi] at hl; rw [out hi'] at hl'
      have := new1 id l hi.1 hl
      have := (hr.dom id' l' hl').2
      omega
    · rw [out hi] at hl; rw [inn hi'] at hl'
      have := new1 id' l' hi'.1 hl'
      have := (hr.dom id l hl).2
      omega
    · rw [out hi] at hl; rw [out hi'] at hl'
      exact hr.inj id id' blk blk' l l' hb hb' ho hne hl hl'
  · rcases hH id blk hb with ⟨hi, hb⟩ | ⟨hi, hb⟩
    · rw [inn hi] at hl; exact hr1.own id blk l hb ho hl
    · rw [out hi] at hl; exact hr.own id blk l hb ho hl

section
variable {P : Program} {n : Nat} {ops : Array Oper} {b : Array Nat} {T : Nat → Bool} {stl : Heap} {ss : Nat → Slots} {hh : Nat → Heap} {rr : Nat → List (Nat × Nat × Nat)}

/-- The text's run. -/
def Run (P : Program) (n : Nat) (ops : Array Oper) (b : Array Nat) (T : Nat → Bool) (stl : Heap) (ss : Nat → Slots) (hh : Nat → Heap) (rr : Nat → List (Nat × Nat × Nat)) : Prop :=
  ∀ i o, i < ops.size → ops[i]? = some o → StepTr P n ops b T stl i o (ss i) (hh i) (rr i) (ss (i + 1)) (hh (i + 1)) (rr (i + 1))

def Md (T : Nat → Bool) (ops : Array Oper) (b : Array Nat) (rr : Nat → List (Nat × Nat × Nat)) (i : Nat) : Prop := barrier T ops b ops.size i = true ∧ rr (i + 1) = [] ∧ calmAt T ops i = false

theorem Run.at (hr : Run P n ops b T stl ss hh rr) {i : Nat} (hi : i < ops.size) : ∃ o, ops[i]? = some o ∧ StepTr P n ops b T stl i o (ss i) (hh i) (rr i) (ss (i + 1)) (hh (i + 1)) (rr (i + 1)) :=
  ⟨ops[i], Array.getElem?_eq_getElem hi, hr i _ hi (Array.getElem?_eq_getElem hi)⟩

theorem StepTr.shape {j : Nat} {o : Oper} {s s' : Slots} {h h' : Heap} {rs rs' : List (Nat × Nat × Nat)} (hs : StepTr P n ops b T stl j o s h rs s' h' rs') :
    (∃ N, h' = h ++ N ∧ ((rs' = rs ∧ N = []) ∨ (rs' = (j, h.length, N.length) :: rs ∧ calmAt T ops j = false))) ∨ (barrier T ops b ops.size j = true ∧ rs' = [] ∧ h.length ≤ h'.length ∧ calmAt T ops j = false) := by
  cases hs with
  | skip => exact .inl ⟨[], by simp, .inl ⟨rfl, rfl⟩⟩
  | pure => exact .inl ⟨[], by simp, .inl ⟨rfl, rfl⟩⟩
  | non hp => exact .inl ⟨_, rfl, .inr ⟨rfl, hp⟩⟩
  | mod hp h0 hw hbar ho hlen hl => exact .inr ⟨hbar, rfl, hlen, hp⟩

theorem Run.len (hr : Run P n ops b T stl ss hh rr) {i : Nat} (hi : i < ops.size) : (hh i).length ≤ (hh (i + 1)).length := by
  obtain ⟨o, _, hs⟩ := hr.at hi
  rcases hs.shape with ⟨N, e, _⟩ | ⟨_, _, e, _⟩
  · rw [e]; simp
  · exact e

theorem Run.len0 (hr : Run P n ops b T stl ss hh rr) : ∀ {i : Nat}, i ≤ ops.size → (hh 0).length ≤ (hh i).length
  | 0, _ => Nat.le_refl _
  | i + 1, hi => Nat.le_trans (hr.len0 (by omega)) (hr.len (by omega))

theorem Run.ranges (hr : Run P n ops b T stl ss hh rr) (h0 : rr 0 = []) : ∀ {i : Nat}, i ≤ ops.size → ∀ r ∈ rr i, r.1 < i ∧ r.2.1 + r.2.2 ≤ (hh i).length ∧ calmAt T ops r.1 = false
  | 0, _, r, h => by rw [h0] at h; cases h
  | i + 1, hi, r, h => by
    obtain ⟨o, _, hs⟩ := hr.at (i := i) (by omega)
    have hl := hr.len (i := i) (by omega)
    rcases hs.shape with ⟨N, e, ⟨e2, _⟩ | ⟨e2, e3⟩⟩ | ⟨_, e2, _⟩
    · rw [e2] at h; have := hr.ranges h0 (by omega) r h; exact ⟨by omega, by omega, this.2.2⟩
    · rw [e2] at h
      rcases List.mem_cons.1 h with rfl | h
      · rw [e]; exact ⟨by simp, by simp, e3⟩
      · have := hr.ranges h0 (by omega) r h; exact ⟨by omega, by omega, this.2.2⟩
    · rw [e2] at h; cases h

/-- Where no operation writes, the later heap begins with the elder one. -/
theorem Run.begins (hr : Run P n ops b T stl ss hh rr) {i : Nat} : ∀ {m : Nat}, i + m ≤ ops.size → (∀ k, i ≤ k → k < i + m → ¬ Md T ops b rr k) → ∃ M E, hh (i + m) = hh i ++ M ∧ rr (i + m) = E ++ rr i ∧
    (∀ r ∈ E, i ≤ r.1 ∧ (hh i).length ≤ r.2.1 ∧ calmAt T ops r.1 = false) ∧ ∀ id, (hh i).length ≤ id → id < (hh (i + m)).length → ∃ r ∈ E, inRange r id
  | 0, _, _ => ⟨[], [], by simp, rfl, (fun r h => by cases h), fun id h1 h2 => by rw [Nat.add_zero] at h2; omega⟩
  | m + 1, hm, hno => by
    obtain ⟨M, E, e1, e2, e3, e4⟩ := hr.begins (i := i) (m := m) (by omega) (fun k h1 h2 => hno k h1 (by omega))
    obtain ⟨o, _, hs⟩ := hr.at (i := i + m) (by omega)
    rcases hs.shape with ⟨N, f1, ⟨f2, f3⟩ | ⟨f2, f2p⟩⟩ | ⟨f1, f2, f3, f4⟩
    · refine ⟨M, E, by rw [show i + (m + 1) = i + m + 1 by omega, f1, e1, f3]; simp, by rw [show i + (m + 1) = i + m + 1 by omega, f2, e2], e3, fun id h1 h2 => e4 id h1 ?_⟩
      rw [show i + (m + 1) = i + m + 1 by omega, f1, f3] at h2
      simpa using h2
    · refine ⟨M ++ N, (i + m, (hh (i + m)).length, N.length) :: E, by rw [show i + (m + 1) = i + m + 1 by omega, f1, e1]; simp, by rw [show i + (m + 1) = i + m + 1 by omega, f2, e2]; simp, fun r h => ?_, fun id h1 h2 => ?_⟩
      · rcases List.mem_cons.1 h with rfl | h
        · exact ⟨by omega, by rw [e1]; simp, f2p⟩
        · exact e3 r h
      · by_cases hi : id < (hh (i + m)).length
        · obtain ⟨r, a, c⟩ := e4 id h1 hi; exact ⟨r, List.mem_cons_of_mem _ a, c⟩
        · refine ⟨_, List.mem_cons_self .., Nat.not_lt.1 hi, ?_⟩
          rw [show i + (m + 1) = i + m + 1 by omega, f1, List.length_append] at h2
          exact h2
    · exact (hno (i + m) (by omega) (by omega) ⟨f1, f2, f4⟩).elim

/-- The next operation that writes. -/
theorem next_md (ops : Array Oper) (b : Array Nat) (rr : Nat → List (Nat × Nat × Nat)) (i : Nat) : ∀ (d : Nat), i + d = ops.size → ∃ m, i + m ≤ ops.size ∧ (∀ k, i ≤ k → k < i + m → ¬ Md T ops b rr k) ∧ (i + m = ops.size ∨ Md T ops b rr (i + m))
  | 0, h => ⟨0, by omega, fun k _ _ => by omega, .inl (by omega)⟩
  | d + 1, h => by
    by_cases hm : Md T ops b rr i
    · exact ⟨0, by omega, fun k _ _ => by omega, .inr hm⟩
    · obtain ⟨m, h1, h2, h3⟩ := next_md ops b rr (i + 1) d (by omega)
      refine ⟨m + 1, by omega, fun k a c => ?_, by rw [show i + (m + 1) = i + 1 + m by omega]; exact h3⟩
      by_cases e : k = i
      · subst e; exact hm
      · exact h2 k (by omega) (by omega)

/-! #### slots -/
def writes (ops : Array Oper) (i t : Nat) : Prop := (ops[i]?).bind (·.dst) = some t

/-- A slot's value, when some operations are done. -/
def sv (ops : Array Oper) (ss : Nat → Slots) (D : Nat → Bool) : Nat → Nat → Option Value
  | 0, t => getS (ss 0) t
  | i + 1, t => if D i = true ∧ (ops[i]?).bind (·.dst) = some t then getS (ss (i + 1)) t else sv ops ss D i t

theorem StepTr.slots {j : Nat} {o : Oper} {s s' : Slots} {h h' : Heap} {rs rs' : List (Nat × Nat × Nat)} (hs : StepTr P n ops b T stl j o s h rs s' h' rs') {t : Nat} (ht : o.dst ≠ some t) : getS s' t = getS s t := by
  have key : ∀ {s0 : Slots} {v : Option Value}, (∀ t, getS s0 t = getS s t) → Laid n s0 o.dst v s' → getS s' t = getS s t := by
    intro s0 v h0 hl
    cases hd : o.dst with
    | none => rw [hd] at hl; simp only [Laid] at hl; rw [hl]; exact h0 t
    | some u =>
      rw [hd] at hl
      simp only [Laid] at hl
      rw [hl.2, getS_cons, if_neg (fun e => ht (by rw [hd, e]))]
      exact h0 t
  cases hs with
  | skip h0 _ hl => exact key h0 hl
  | non _ h0 _ _ _ _ hl => exact key h0 hl
  | pure h0 _ _ _ _ _ _ hl => exact key h0 hl
  | mod _ h0 _ _ _ _ hl => exact key h0 hl

theorem sv_text (hr : Run P n ops b T stl ss hh rr) {D : Nat → Bool} {t : Nat} : ∀ {j : Nat}, j ≤ ops.size → (∀ i, i < j → writes ops i t → D i = true) → sv ops ss D j t = getS (ss j) t
  | 0, _, _ => rfl
  | j + 1, hj, h => by
    simp only [sv]
    by_cases hw : writes ops j t
    · rw [if_pos ⟨h j (by omega) hw, hw⟩]
    · rw [if_neg (fun x => hw x.2), sv_text hr (by omega) (fun i hi => h i (by omega))]
      obtain ⟨o, ho, hs⟩ := hr.at (i := j) (by omega)
      exact (hs.slots (fun e => hw (by simp [writes, ho, e]))).symm

theorem sv_later {D : Nat → Bool} {t j : Nat} : ∀ {m : Nat}, (∀ i, j ≤ i → i < j + m → writes ops i t → D i = false) → sv ops ss D (j + m) t = sv ops ss D j t
  | 0, _ => rfl
  | m + 1, h => by
    rw [show j + (m + 1) = j + m + 1 by omega]
    simp only [sv]
    rw [if_neg, sv_later (fun i h1 h2 => h i h1 (by omega))]
    rintro ⟨h1, h2⟩
    rw [h (j + m) (by omega) (by omega) h2] at h1
    cases h1

theorem sv_congr {D D' : Nat → Bool} {t : Nat} : ∀ {j : Nat}, (∀ i, i < j → writes ops i t → D' i = D i) → sv ops ss D' j t = sv ops ss D j t
  | 0, _ => rfl
  | j + 1, h => by
    simp only [sv]
    rw [sv_congr (fun i hi => h i (by omega))]
    by_cases hw : writes ops j t
    · rw [h j (by omega) hw]
    · rw [if_neg (fun x => hw x.2), if_neg (fun x => hw x.2)]

/-! #### order -/
theorem edges_spec (he : edgesOK ops = true) {j : Nat} {o : Oper} (ho : ops[j]? = some o) {e : Edge} (hm : e ∈ o.after) (hb : Region.binds .any e = true) : e.on < j := by
  have hj := (Array.getElem?_eq_some_iff.1 ho).1
  have := List.all_eq_true.1 he j (List.mem_range.2 hj)
  rw [ho] at this
  simp only at this
  have := List.all_eq_true.1 this e (by simpa using hm)
  rw [hb] at this
  simp only [Bool.not_true, Bool.false_or] at this
  exact blt_true this

theorem before_lt (he : edgesOK ops = true) : ∀ (j : Nat) {i : Nat}, ((Region.before ops).getD j 0).testBit i = true → i < j ∧ j < ops.size := by
  intro j
  induction j using Nat.strongRecOn with
  | _ j ih =>
    intro i h
    have hj : j < ops.size := by
      rcases Nat.lt_or_ge j ops.size with h1 | h1
      · exact h1
      · exfalso
        have hsz : (Region.before ops).size = ops.size := by
          have : ∀ (l : List Oper) (acc : Array Nat), (l.foldl (fun acc o => acc.push (o.after.foldl (fun s e => if Region.binds .any e then s ||| 2 ^ e.on ||| acc.getD e.on 0 else s) 0)) acc).size = acc.size + l.length := by
            intro l
            induction l with
            | nil => intro acc; rfl
            | cons x l ih => intro acc; rw [List.foldl_cons, ih]; simp; omega
          unfold Region.before
          rw [← Array.foldl_toList, this]
          simp
        rw [Array.getD_eq_getD_getElem?, Array.getElem?_eq_none (by omega)] at h
        simp at h
    obtain ⟨e, he1, he2, he3⟩ := before_spec ops j i ops[j] (Array.getElem?_eq_getElem hj) h
    have hlt := edges_spec he (Array.getElem?_eq_getElem hj) he1 he2
    rcases he3 with rfl | ⟨_, h3⟩
    · exact ⟨hlt, hj⟩
    · have := (ih _ hlt h3).1; exact ⟨by omega, hj⟩

theorem slots_ordered (hk : slotsOK ops (Region.before ops) = true) {i j t : Nat} {o : Oper} (ho : ops[j]? = some o) (ht : t ∈ namesOf ops o) (hw : writes ops i t) (hne : i ≠ j) :
    ((Region.before ops).getD j 0).testBit i = true ∨ ((Region.before ops).getD i 0).testBit j = true := by
  have hj := (Array.getElem?_eq_some_iff.1 ho).1
  have hi : i < ops.size := by
    unfold writes at hw
    cases hx : ops[i]? with
    | none => rw [hx] at hw; simp at hw
    | some x => exact (Array.getElem?_eq_some_iff.1 hx).1
  have := List.all_eq_true.1 hk j (List.mem_range.2 hj)
  rw [ho] at this
  simp only at this
  have := List.all_eq_true.1 this i (List.mem_range.2 hi)
  rw [show (ops[i]?).bind (·.dst) = some t from hw] at this
  simp only [Bool.or_eq_true] at this
  rcases this with h | h
  · exact (hne (beq_true h)).elim
  · rcases h with h | h
    · exfalso
      rw [Bool.not_eq_true'] at h
      exact memN_false h ht
    · simpa [orderedB] using h

theorem barrier_spec {q : Nat} (hq : barrier T ops b ops.size q = true) {i : Nat} (hi : i < ops.size) (hne : i ≠ q) (hp : calmAt T ops i = false) : (i < q → (b.getD q 0).testBit i = true) ∧ (q < i → (b.getD i 0).testBit q = true) := by
  have := List.all_eq_true.1 hq i (List.mem_range.2 hi)
  simp only [Bool.or_eq_true] at this
  rcases this with h | h
  · exact (hne (beq_true h)).elim
  · rw [hp] at h
    simp only [Bool.false_eq_true, false_or] at h
    cases hb : Nat.blt i q with
    | true => rw [hb, cond_true] at h; exact ⟨fun _ => h, fun h2 => by have := blt_true hb; omega⟩
    | false => rw [hb, cond_false] at h; exact ⟨fun h2 => by have := blt_false hb; omega, fun _ => h⟩

/-- What holds when some operations are done. -/
structure Inv (T : Nat → Bool) (n : Nat) (ops : Array Oper) (b : Array Nat) (ss : Nat → Slots) (hh : Nat → Heap) (rr : Nat → List (Nat × Nat × Nat)) (D : Nat → Bool) (z : Nat) (ι0 : Map) (base : Nat) (w0 : World) (ι : Map) (a : Act) (w : World) : Prop where
  hz : z ≤ ops.size
  below : ∀ i, D i = true → calmAt T ops i = false → i < z
  mds : ∀ i, i < z → Md T ops b rr i → D i = true
  zz : z = ops.size ∨ Md T ops b rr z
  clo : ∀ j i, D j = true → (b.getD j 0).testBit i = true → D i = true
  heap : HR ι base (maskF D (rr z) (hh z)) w
  none : ∀ r ∈ rr z, D r.1 = false → ∀ id, inRange r id → ι id = none
  size : a.tmps.size = n
  defers : a.defers = []
  slots : ∀ (t : Nat) (u : Value), sv ops ss D ops.size t = some u → VR ι u (a.tmps.getD t undef)
  le : Map.le ι0 ι
  new : ∀ (id : Nat) (l : Loc), ι id = some l → ι0 id = some l ∨ ((hh 0).length ≤ id ∧ (w0.heap.size ≤ l.b ∨ mods ι0 (hh 0) l.b))
  fr : Fr (mods ι0 (hh 0)) w0 w
  mo : ∀ b', mods ι (maskF D (rr z) (hh z)) b' → b' < w0.heap.size → mods ι0 (hh 0) b'

def upd (D : Nat → Bool) (i : Nat) : Nat → Bool := fun k => D k || k == i

theorem upd_true {D : Nat → Bool} {i k : Nat} : upd D i k = true ↔ D k = true ∨ k = i := by simp [upd]
theorem upd_false {D : Nat → Bool} {i k : Nat} : upd D i k = false ↔ D k = false ∧ k ≠ i := by simp [upd]

theorem mods_live {ι : Map} {h h' : Heap} (hs : ∀ (id : Nat) (blk : Blk), h'[id]? = some (some blk) → h[id]? = some (some blk)) {b' : Nat} (hm : mods ι h' b') : mods ι h b' := by
  obtain ⟨id, blk, l, hb, r⟩ := hm
  exact ⟨id, blk, l, hs id blk hb, r⟩

/-- The slots that an operation names. -/
theorem Inv.named (hr : Run P n ops (Region.before ops) T stl ss hh rr) (hk : slotsOK ops (Region.before ops) = true) (he : edgesOK ops = true) {D : Nat → Bool} {z : Nat} {ι0 ι : Map} {base : Nat} {w0 w : World} {a : Act}
    (hi : Inv T n ops (Region.before ops) ss hh rr D z ι0 base w0 ι a w) {i : Nat} {o : Oper} (ho : ops[i]? = some o) (hD : D i = false) (hdep : ∀ k, ((Region.before ops).getD i 0).testBit k = true → D k = true) :
    SR ι n (restrS (namesOf ops o) (ss i)) a := by
  have hlt := (Array.getElem?_eq_some_iff.1 ho).1
  refine ⟨hi.size, hi.defers, fun t v hv => hi.slots t v ?_⟩
  rw [restrS_get] at hv
  split at hv
  · rename_i ht
    have h1 : sv ops ss D ops.size t = sv ops ss D i t := by
      have := sv_later (ops := ops) (ss := ss) (D := D) (t := t) (j := i) (m := ops.size - i) (fun k hk1 hk2 hw => by
        by_cases e : k = i
        · subst e; exact hD
        · rcases slots_ordered hk ho ht hw e with h | h
          · have := (before_lt he i h).1; omega
          · cases hDk : D k with
            | false => rfl
            | true => rw [hi.clo k i hDk h] at hD; cases hD)
      rwa [show i + (ops.size - i) = ops.size by omega] at this
    rw [h1, sv_text hr (by omega) (fun k hk1 hw => by
      rcases slots_ordered hk ho ht hw (by omega) with h | h
      · exact hdep k h
      · have := (before_lt he k h).1; omega)]
    exact hv
  · cases hv

/-- The slots behind an operation. -/
theorem Inv.slots_upd (_hr : Run P n ops (Region.before ops) T stl ss hh rr) (hk : slotsOK ops (Region.before ops) = true) (he : edgesOK ops = true) {D : Nat → Bool} {z : Nat} {ι0 ι ι' : Map} {base : Nat} {w0 w : World} {a : Act}
    (hi : Inv T n ops (Region.before ops) ss hh rr D z ι0 base w0 ι a w) (hle : Map.le ι ι') {i : Nat} {o : Oper} (ho : ops[i]? = some o) (hD : D i = false) {s0 : Slots} {v v' : Value} (hl : Laid n s0 o.dst (some v) (ss (i + 1))) (hv : VR ι' v v') :
    ∀ (t : Nat) (u : Value), sv ops ss (upd D i) ops.size t = some u → VR ι' u ((a.put o.dst v').tmps.getD t undef) := by
  have hlt := (Array.getElem?_eq_some_iff.1 ho).1
  intro t u hu
  by_cases hw : writes ops i t
  · have hd : o.dst = some t := by simpa [writes, ho] using hw
    rw [hd] at hl
    simp only [Laid] at hl
    have h1 : sv ops ss (upd D i) ops.size t = sv ops ss (upd D i) (i + 1) t := by
      have := sv_later (ops := ops) (ss := ss) (D := upd D i) (t := t) (j := i + 1) (m := ops.size - (i + 1)) (fun k hk1 hk2 hwk => by
        have hok : ∃ o', ops[k]? = some o' := ⟨ops[k], Array.getElem?_eq_getElem (by omega)⟩
        obtain ⟨o', ho'⟩ := hok
        have ht : t ∈ namesOf ops o' := by
          have : o'.dst = some t := by simpa [writes, ho'] using hwk
          simp [namesOf, this]
        rw [upd_false]
        refine ⟨?_, by omega⟩
        rcases slots_ordered hk ho' ht hw (by omega) with h | h
        · cases hDk : D k with
          | false => rfl
          | true => rw [hi.clo k i hDk h] at hD; cases hD
        · have := (before_lt he i h).1; omega)
      rwa [show i + 1 + (ops.size - (i + 1)) = ops.size by omega] at this
    rw [h1] at hu
    simp only [sv] at hu
    rw [if_pos ⟨by rw [upd_true]; exact .inr rfl, hw⟩, hl.2, getS_cons, if_pos rfl] at hu
    cases hu
    simp only [Act.put, hd]
    rw [Array.getD_eq_getD_getElem?, Array.getElem?_setIfInBounds_self_of_lt (by rw [hi.size]; exact hl.1)]
    exact hv
  · have h1 : sv ops ss (upd D i) ops.size t = sv ops ss D ops.size t := sv_congr (fun k hk1 hwk => by
      simp only [upd]
      by_cases e : k = i
      · subst e; exact (hw hwk).elim
      · simp [e])
    rw [h1] at hu
    have := (hi.slots t u hu).mono hle
    cases hd : o.dst with
    | none => simpa [Act.put] using this
    | some x =>
      have hne : x ≠ t := fun e => hw (by simp [writes, ho, hd, e])
      simp only [Act.put]
      rw [Array.getD_eq_getD_getElem?, Array.getElem?_setIfInBounds_ne hne, ← Array.getD_eq_getD_getElem?]
      exact this

theorem Inv.put_size {a : Act} {d : Option Tmp} {v : Value} (h : a.tmps.size = n) : (a.put d v).tmps.size = n := by cases d <;> simp [Act.put, h]
theorem Inv.put_defers {a : Act} {d : Option Tmp} {v : Value} (h : a.defers = []) : (a.put d v).defers = [] := by cases d <;> simp [Act.put, h]

/-- One operation more. -/
theorem Inv.step (hr : Run P n ops (Region.before ops) T stl ss hh rr) (h0 : rr 0 = []) (hk : slotsOK ops (Region.before ops) = true) (he : edgesOK ops = true) {D : Nat → Bool} {z : Nat} {ι0 ι : Map} {base : Nat} {w0 w : World} {a : Act}
    (hstl : StillAt ι0 w0 stl (hh 0)) (hi : Inv T n ops (Region.before ops) ss hh rr D z ι0 base w0 ι a w) {i : Nat} {o : Oper} (ho : ops[i]? = some o) (hD : D i = false) (hdep : ∀ k, ((Region.before ops).getD i 0).testBit k = true → D k = true) {K : Act → World → Prop} {Q : Exit → Act → World → Prop}
    (hK : ∀ z' ι' a' w', Inv T n ops (Region.before ops) ss hh rr (upd D i) z' ι0 base w0 ι' a' w' → (¬ Md T ops (Region.before ops) rr i → Map.le ι ι' ∧ Fr (fun _ => False) w w' ∧ ∀ (id : Nat) (l : Loc), ι' id = some l → ι id = some l ∨ (w.heap.size ≤ l.b ∧ (hh i).length ≤ id ∧ id < (hh (i + 1)).length)) → K a' w') : wpOp P ops Q i K a w := by
  have hlt := (Array.getElem?_eq_some_iff.1 ho).1
  have hst := hr i o hlt ho
  have hnm := hi.named hr hk he ho hD hdep
  have cloD : ∀ j k, upd D i j = true → ((Region.before ops).getD j 0).testBit k = true → upd D i k = true := by
    intro j k hj hb
    rw [upd_true] at hj ⊢
    rcases hj with hj | rfl
    · exact .inl (hi.clo j k hj hb)
    · exact .inl (hdep k hb)
  simp only [wpOp, ho]
  cases hp : calmAt T ops i with
  | true =>
    -- it neither sees nor turns memory
    have rng := hr.ranges h0 (i := z) hi.hz
    have idx : ∀ r ∈ rr z, r.1 ≠ i := fun r hr1 e => by have := (rng r hr1).2.2; rw [e, hp] at this; cases this
    have live : ∀ (id : Nat) (blk : Blk), (maskF (upd D i) (rr z) (hh z))[id]? = some (some blk) → (maskF D (rr z) (hh z))[id]? = some (some blk) := by
      intro id blk hb
      obtain ⟨g1, g2⟩ := maskF_live hb
      rw [maskF_of fun r hr1 hr2 => ?_]
      · exact g2
      · have := g1 r hr1 hr2
        rw [upd_true] at this
        rcases this with h | h
        · exact h
        · exact (idx r hr1 h).elim
    have mdsD : ∀ k, k < z → Md T ops (Region.before ops) rr k → upd D i k = true := fun k h1 h2 => by rw [upd_true]; exact .inl (hi.mds k h1 h2)
    have belowD : ∀ k, upd D i k = true → calmAt T ops k = false → k < z := fun k hk1 hk2 => by
      rw [upd_true] at hk1
      rcases hk1 with h | rfl
      · exact hi.below k h hk2
      · rw [hp] at hk2; cases hk2
    generalize hsn : ss (i + 1) = sn at hst
    generalize hhn : hh (i + 1) = hn at hst
    generalize hrn : rr (i + 1) = rn at hst
    cases hst with
    | non hp' => rw [hp] at hp'; cases hp'
    | mod hp' => rw [hp] at hp'; cases hp'
    | skip g0 gw gl =>
      rw [if_neg (by rw [gw ι a hnm]; simp)]
      exact hK z ι _ w ⟨hi.hz, belowD, mdsD, hi.zz, cloD, HR_ext hi.heap live (by rw [maskF_len, maskF_len]; exact Nat.le_refl _), fun r hr1 hr2 => hi.none r hr1 (upd_false.1 hr2).1, Inv.put_size hi.size, Inv.put_defers hi.defers,
        hi.slots_upd hr hk he (Map.le_refl _) ho hD (by rw [hsn]; exact gl) (VR.undef ι), hi.le, hi.new, hi.fr, fun b' hb' => hi.mo b' (mods_live live hb')⟩ (fun _ => ⟨Map.le_refl _, Fr.refl _ _, fun id l hl => .inl hl⟩)
    | pure g0 gw gp gs gbd gle go gl =>
      rename_i s0 v
      rw [if_pos (gw ι a hnm)]
      have hnm' : SR ι n (restrS (namesOf ops o) s0) a := hnm.congr (fun t => by rw [restrS_get, restrS_get, g0])
      refine .inl (go _ base w a (hnm'.below gs) (HR_pad hstl hi.fr hi.le (fun id l hl => hi.new id l hl) (fun id l hl => (hi.heap.dom id l hl).2) hi.heap.base_le gle gbd) _ _ fun v' w' ⟨ι1, q⟩ => ?_)
      simp only [Bool.false_eq_true, if_false] at q
      have le1 : Map.le ι1 ι := by
        intro id l hl
        have h2 := (q.hr.dom id l hl).1
        rcases q.new id l hl with h | ⟨h, _⟩
        · exact Map.below_le _ _ _ _ h
        · omega
      refine hK z ι _ w' ⟨hi.hz, belowD, mdsD, hi.zz, cloD, HR_ext (HR_fr hi.heap q.fr) live (by rw [maskF_len, maskF_len]; exact Nat.le_refl _), fun r hr1 hr2 => hi.none r hr1 (upd_false.1 hr2).1, Inv.put_size hi.size, Inv.put_defers hi.defers,
        hi.slots_upd hr hk he (Map.le_refl _) ho hD (by rw [hsn]; exact gl) (q.vr.mono le1), hi.le, hi.new, hi.fr.trans q.fr (fun _ _ h => h.elim), fun b' hb' => hi.mo b' (mods_live live hb')⟩ (fun _ => ⟨Map.le_refl _, q.fr, fun id l hl => .inl hl⟩)
  | false =>
  have zi : z ≤ i → z = i := by
    intro hle
    rcases hi.zz with e | hm
    · omega
    · by_cases e : i = z
      · exact e.symm
      · exfalso
        have := hdep z ((barrier_spec hm.1 hlt e hp).2 (by omega))
        have := hi.below z this hm.2.2
        omega
  by_cases hmd : Md T ops (Region.before ops) rr i
  · -- it writes: all that stand ahead of it are done, and nothing else
    have hzi : z = i := by
      rcases Nat.lt_or_ge i z with h | h
      · rw [hi.mds i h hmd] at hD; cases hD
      · exact zi h
    subst hzi
    have allD : ∀ k, k < z → calmAt T ops k = false → D k = true := fun k hk1 hkp => hdep k ((barrier_spec hmd.1 (by omega) (by omega) hkp).1 hk1)
    have rng := hr.ranges h0 (i := z) (by omega)
    have same : ∀ id : Nat, (maskF D (rr z) (hh z))[id]? = (hh z)[id]? := fun id => maskF_of fun r hr' _ => allD _ (rng r hr').1 (rng r hr').2.2
    have hHR : HR ι base (hh z) w := HR_ext hi.heap (fun id blk h => by rw [same]; exact h) (by rw [maskF_len]; exact Nat.le_refl _)
    obtain ⟨m, m1, m2, m3⟩ := next_md ops (Region.before ops) rr (z + 1) (ops.size - (z + 1)) (by omega)
    obtain ⟨M, E, f1, f2, f3, f4⟩ := hr.begins (i := z + 1) (m := m) m1 m2
    rw [hmd.2.1, List.append_nil] at f2
    have DE : ∀ k, z + 1 ≤ k → calmAt T ops k = false → upd D z k = false := by
      intro k hk1 hkp
      rw [upd_false]
      refine ⟨?_, by omega⟩
      cases hDk : D k with
      | false => rfl
      | true => have := hi.below k hDk hkp; omega
    -- the heap behind it
    have live : ∀ (id : Nat) (blk : Blk), (maskF (upd D z) (rr (z + 1 + m)) (hh (z + 1 + m)))[id]? = some (some blk) → (hh (z + 1))[id]? = some (some blk) := by
      intro id blk hb
      obtain ⟨g1, g2⟩ := maskF_live hb
      have hidl := (List.getElem?_eq_some_iff.1 g2).1
      by_cases hid : id < (hh (z + 1)).length
      · rw [f1, List.getElem?_append_left hid] at g2; exact g2
      · exfalso
        obtain ⟨r, hr1, hr2⟩ := f4 id (by omega) hidl
        have := g1 r (by rw [f2]; exact hr1) hr2
        rw [DE r.1 (f3 r hr1).1 (f3 r hr1).2.2] at this
        cases this
    -- put together
    have fin : ∀ {ι' : Map} {a' : Act} {w' : World}, Map.le ι ι' → HR ι' base (hh (z + 1)) w' → (∀ (id : Nat) (l : Loc), ι' id = some l → ι id = some l ∨ ((hh z).length ≤ id ∧ (w.heap.size ≤ l.b ∨ mods ι (hh z) l.b))) →
        Fr (mods ι (hh z)) w w' → (∀ b', mods ι' (hh (z + 1)) b' → b' < w.heap.size → mods ι (hh z) b') → a'.tmps.size = n → a'.defers = [] → (∀ (t : Nat) (u : Value), sv ops ss (upd D z) ops.size t = some u → VR ι' u (a'.tmps.getD t undef)) → K a' w' := by
      intro ι' a' w' hle hHR' hnew hfr hmo hsz hdf hsl
      have moz : ∀ b', mods ι (hh z) b' → b' < w0.heap.size → mods ι0 (hh 0) b' := fun b' hb' => hi.mo b' (mods_live (fun id blk h => by rw [same]; exact h) hb')
      refine hK (z + 1 + m) ι' a' w' ⟨m1, fun k hk1 hkp => ?_, fun k hk1 hk2 => ?_, m3, cloD, HR_ext hHR' live (by rw [maskF_len, f1]; simp), fun r hr1 hr2 id hid => ?_, hsz, hdf, hsl, Map.le_trans hi.le hle, fun id l hl => ?_, hi.fr.trans hfr (fun b' hb' hm => moz b' hm hb'), fun b' hb' hlt' => ?_⟩ (fun hno => (hno hmd).elim)
      · rw [upd_true] at hk1
        rcases hk1 with h | rfl
        · have := hi.below k h hkp; omega
        · omega
      · rw [upd_true]
        by_cases e : k = z
        · exact .inr e
        · rcases Nat.lt_or_ge k z with h | h
          · exact .inl (allD k h hk2.2.2)
          · exact (m2 k (by omega) hk1 hk2).elim
      · rw [f2] at hr1
        have := (f3 r hr1).2.1
        exact hHR'.fresh (by unfold inRange at hid; omega)
      · rcases hnew id l hl with h | ⟨h, h2⟩
        · exact hi.new id l h
        · refine .inr ⟨Nat.le_trans (hr.len0 (by omega)) h, ?_⟩
          by_cases hb : w0.heap.size ≤ l.b
          · exact .inl hb
          · rcases h2 with h2 | h2
            · have := hi.fr.size; omega
            · exact .inr (moz _ h2 (by omega))
      · exact moz b' (hmo b' (mods_live live hb') (Nat.lt_of_lt_of_le hlt' hi.fr.size)) hlt'
    generalize hsn : ss (z + 1) = sn at hst
    generalize hhn : hh (z + 1) = hn at hst
    generalize hrn : rr (z + 1) = rn at hst
    have hrn0 : rn = [] := hrn.symm.trans hmd.2.1
    cases hst with
    | non _ g0 gw gs gb go gl => cases hrn0
    | pure _ _ gp => rw [hp] at gp; cases gp
    | skip g0 gw gl =>
      rw [if_neg (by rw [gw ι a hnm]; simp)]
      refine fin (Map.le_refl _) (by rw [hhn]; exact hHR) (fun id l hl => .inl hl) (Fr.refl _ _) (fun b' hb' _ => by rw [hhn] at hb'; exact hb') (Inv.put_size hi.size) (Inv.put_defers hi.defers) ?_
      exact hi.slots_upd hr hk he (Map.le_refl _) ho hD (by rw [hsn]; exact gl) (VR.undef ι)
    | mod hq g0 gw gb go glen gl =>
      rw [if_pos (gw ι a hnm)]
      rename_i s0 v
      have hnm' : SR ι n (restrS (namesOf ops o) s0) a := hnm.congr (fun t => by rw [restrS_get, restrS_get, g0])
      refine .inl (go ι base w a hnm' hHR _ _ fun v' w' ⟨ι', q⟩ => ?_)
      refine fin q.le (by rw [hhn]; exact q.hr) (fun id l hl => by simpa using q.new id l hl) (by simpa using q.fr) (fun b' hb' => q.mo b' (by rw [← hhn]; exact hb')) (Inv.put_size hi.size) (Inv.put_defers hi.defers) ?_
      exact hi.slots_upd hr hk he q.le ho hD (by rw [hsn]; exact gl) q.vr
  · -- it only adds
    have hiz : i < z := by
      rcases Nat.lt_or_ge i z with h | h
      · exact h
      · have := zi h
        subst this
        rcases hi.zz with e | hm
        · omega
        · exact (hmd hm).elim
    have noMd : ∀ k, i + 1 ≤ k → k < i + 1 + (z - (i + 1)) → ¬ Md T ops (Region.before ops) rr k := by
      intro k hk1 hk2 hm
      have hDk := hi.mds k (by omega) hm
      have hz := hi.hz
      rw [hi.clo k i hDk ((barrier_spec hm.1 hlt (by omega) hp).1 (by omega))] at hD
      cases hD
    have hz := hi.hz
    obtain ⟨M, E, f1, f2, f3, f4⟩ := hr.begins (i := i + 1) (m := z - (i + 1)) (by omega) noMd
    rw [show i + 1 + (z - (i + 1)) = z by omega] at f1 f2 f4
    have rng := hr.ranges h0 (i := i) (by omega)
    have hlen := hr.len (i := i) hlt
    have mdsD : ∀ k, k < z → Md T ops (Region.before ops) rr k → upd D i k = true := fun k h1 h2 => by rw [upd_true]; exact .inl (hi.mds k h1 h2)
    have belowD : ∀ k, upd D i k = true → calmAt T ops k = false → k < z := fun k hk1 hkp => by
      rw [upd_true] at hk1
      rcases hk1 with h | rfl
      · exact hi.below k h hkp
      · exact hiz
    generalize hsn : ss (i + 1) = sn at hst
    generalize hhn : hh (i + 1) = hn at hst
    generalize hrn : rr (i + 1) = rn at hst
    cases hst with
    | skip g0 gw gl =>
      rw [if_neg (by rw [gw ι a hnm]; simp)]
      have idx : ∀ r ∈ rr z, r.1 ≠ i := by
        intro r hr1
        rw [f2, hrn] at hr1
        rcases List.mem_append.1 hr1 with h | h
        · have := (f3 r h).1; omega
        · have := (rng r h).1; omega
      have live : ∀ (id : Nat) (blk : Blk), (maskF (upd D i) (rr z) (hh z))[id]? = some (some blk) → (maskF D (rr z) (hh z))[id]? = some (some blk) := by
        intro id blk hb
        obtain ⟨g1, g2⟩ := maskF_live hb
        rw [maskF_of fun r hr1 hr2 => ?_]
        · exact g2
        · have := g1 r hr1 hr2
          rw [upd_true] at this
          rcases this with h | h
          · exact h
          · exact (idx r hr1 h).elim
      refine hK z ι _ w ⟨hi.hz, belowD, mdsD, hi.zz, cloD, HR_ext hi.heap live (by rw [maskF_len, maskF_len]; exact Nat.le_refl _), fun r hr1 hr2 => hi.none r hr1 (upd_false.1 hr2).1, Inv.put_size hi.size, Inv.put_defers hi.defers,
        hi.slots_upd hr hk he (Map.le_refl _) ho hD (by rw [hsn]; exact gl) (VR.undef ι), hi.le, hi.new, hi.fr, fun b' hb' => hi.mo b' (mods_live live hb')⟩ (fun _ => ⟨Map.le_refl _, Fr.refl _ _, fun id l hl => .inl hl⟩)
    | pure _ _ gp => rw [hp] at gp; cases gp
    | non hq g0 gw gs gb go gl =>
      rename_i s0 v N
      rw [if_pos (gw ι a hnm)]
      -- what it may see is there
      have hml : (maskF (fun k => ((Region.before ops).getD i 0).testBit k) (rr i) (hh i)).length = (hh i).length := maskF_len
      have hzl : (hh i).length + N.length ≤ (hh z).length := by rw [f1, hhn]; simp
      have rzi : ∀ r ∈ rr z, r.1 = i → r = (i, (hh i).length, N.length) := by
        intro r hr1 e
        rw [f2, hrn] at hr1
        rcases List.mem_append.1 hr1 with h | h
        · have := (f3 r h).1; omega
        · rcases List.mem_cons.1 h with rfl | h
          · rfl
          · have := (rng r h).1; omega
      have seen : ∀ (id : Nat) (blk : Blk), (maskF (fun k => ((Region.before ops).getD i 0).testBit k) (rr i) (hh i))[id]? = some (some blk) → (maskF D (rr z) (hh z))[id]? = some (some blk) := by
        intro id blk hb
        obtain ⟨g1, g2⟩ := maskF_live hb
        have hid := (List.getElem?_eq_some_iff.1 g2).1
        rw [maskF_of fun r hr1 hr2 => ?_]
        · rw [f1, hhn, List.getElem?_append_left (by simp; omega), List.getElem?_append_left hid]; exact g2
        · rw [f2, hrn] at hr1
          rcases List.mem_append.1 hr1 with h | h
          · have h9 := (f3 r h).2.1; rw [hhn, List.length_append] at h9; unfold inRange at hr2; omega
          · rcases List.mem_cons.1 h with rfl | h
            · unfold inRange at hr2; simp only at hr2; omega
            · exact hdep _ (g1 r h hr2)
      have hsub := HR_sub hi.heap seen (by rw [hml]; exact gb)
      rw [hml] at hsub
      have hnm' : SR ι n (restrS (namesOf ops o) s0) a := hnm.congr (fun t => by rw [restrS_get, restrS_get, g0])
      refine .inl (go _ base w a (hnm'.below gs) hsub _ _ fun v' w' ⟨ι1, q⟩ => ?_)
      simp only [Bool.false_eq_true, if_false] at q
      generalize hmk : maskF (fun k => ((Region.before ops).getD i 0).testBit k) (rr i) (hh i) = mk at *
      have domN : ∀ (id : Nat) (l : Loc), ι1 id = some l → id < mk.length + N.length := fun id l hl => by have := (q.hr.dom id l hl).1; rwa [List.length_append] at this
      have le1 : Map.le ι1 (ι.mix ι1 mk.length N.length) := by
        intro id l hl
        have h2 := domN id l hl
        simp only [Map.mix]
        by_cases h3 : mk.length ≤ id
        · rw [if_pos ⟨h3, h2⟩]; exact hl
        · rw [if_neg (by omega)]
          rcases q.new id l hl with h | ⟨h, _⟩
          · exact Map.below_le _ _ _ _ h
          · omega
      have rin : (i, (hh i).length, N.length) ∈ rr z := by rw [f2, hrn]; exact List.mem_append_right _ (List.mem_cons_self ..)
      have le2 : Map.le ι (ι.mix ι1 mk.length N.length) := by
        intro id l hl
        simp only [Map.mix]
        by_cases h3 : mk.length ≤ id ∧ id < mk.length + N.length
        · exfalso
          rw [hi.none _ rin hD id (by unfold inRange; simp only; omega)] at hl
          cases hl
        · rw [if_neg h3]; exact hl
      have new1 : ∀ (id : Nat) (l : Loc), mk.length ≤ id → ι1 id = some l → w.heap.size ≤ l.b := by
        intro id l h3 hl
        rcases q.new id l hl with h | ⟨_, h | h⟩
        · simp only [Map.below] at h
          rw [if_neg (by omega)] at h
          cases h
        · exact h
        · exact h.elim
      have hHH : ∀ (id : Nat) (blk : Blk), (maskF (upd D i) (rr z) (hh z))[id]? = some (some blk) → ((mk.length ≤ id ∧ id < mk.length + N.length) ∧ (mk ++ N)[id]? = some (some blk)) ∨ (¬ (mk.length ≤ id ∧ id < mk.length + N.length) ∧ (maskF D (rr z) (hh z))[id]? = some (some blk)) := by
        intro id blk hb
        obtain ⟨g1, g2⟩ := maskF_live hb
        by_cases h3 : mk.length ≤ id ∧ id < mk.length + N.length
        · refine .inl ⟨h3, ?_⟩
          rw [f1, hhn, List.getElem?_append_left (by simp; omega), List.getElem?_append_right (by omega)] at g2
          rw [List.getElem?_append_right h3.1, hml]
          exact g2
        · refine .inr ⟨h3, ?_⟩
          rw [maskF_of fun r hr1 hr2 => ?_]
          · exact g2
          · have := g1 r hr1 hr2
            rw [upd_true] at this
            rcases this with h | h
            · exact h
            · exfalso
              rw [rzi r hr1 h] at hr2
              unfold inRange at hr2
              simp only at hr2
              omega
      have hHR' := HR_merge hi.heap q.hr q.fr le1 le2 new1 (HD' := maskF (upd D i) (rr z) (hh z)) (by rw [maskF_len, maskF_len]) (by rw [maskF_len]; omega) hHH
      refine hK z _ _ w' ⟨hi.hz, belowD, mdsD, hi.zz, cloD, hHR', fun r hr1 hr2 id hid => ?_, Inv.put_size hi.size, Inv.put_defers hi.defers,
        hi.slots_upd hr hk he le2 ho hD (by rw [hsn]; exact gl) (q.vr.mono le1), Map.le_trans hi.le le2, fun id l hl => ?_, hi.fr.trans q.fr (fun _ _ h => h.elim), fun b' hb' hlt' => ?_⟩ (fun _ => ⟨le2, q.fr, fun id l hl => ?_⟩)
      · obtain ⟨d1, d2⟩ := upd_false.1 hr2
        have hnot : ¬ (mk.length ≤ id ∧ id < mk.length + N.length) := by
          rw [f2, hrn] at hr1
          unfold inRange at hid
          rcases List.mem_append.1 hr1 with h | h
          · have h9 := (f3 r h).2.1; rw [hhn, List.length_append] at h9; omega
          · rcases List.mem_cons.1 h with rfl | h
            · exact (d2 rfl).elim
            · have := (rng r h).2; omega
        simp only [Map.mix]
        rw [if_neg hnot]
        exact hi.none r hr1 d1 id hid
      · by_cases h3 : mk.length ≤ id ∧ id < mk.length + N.length
        · simp only [Map.mix] at hl
          rw [if_pos h3] at hl
          have := new1 id l h3.1 hl
          have := hi.fr.size
          exact .inr ⟨Nat.le_trans (hr.len0 (i := i) (by omega)) (by omega), .inl (by omega)⟩
        · simp only [Map.mix] at hl
          rw [if_neg h3] at hl
          exact hi.new id l hl
      · obtain ⟨id, blk, l, hb, hown, hl, rfl⟩ := hb'
        rcases hHH id blk hb with ⟨h3, h4⟩ | ⟨h3, h4⟩
        · simp only [Map.mix] at hl
          rw [if_pos h3] at hl
          have := new1 id l h3.1 hl
          have := hi.fr.size
          omega
        · simp only [Map.mix] at hl
          rw [if_neg h3] at hl
          exact hi.mo _ ⟨id, blk, l, h4, hown, hl, rfl⟩ hlt'
      · by_cases h3 : mk.length ≤ id ∧ id < mk.length + N.length
        · simp only [Map.mix] at hl
          rw [if_pos h3] at hl
          exact .inr ⟨new1 id l h3.1 hl, by omega, by rw [hhn, List.length_append]; omega⟩
        · simp only [Map.mix] at hl
          rw [if_neg h3] at hl
          exact .inl hl
    | mod _ g0 gw gb go glen gl => exact (hmd ⟨gb, hrn, hp⟩).elim

/-- How many are left. -/
def left (D : Nat → Bool) : Nat → Nat
  | 0 => 0
  | m + 1 => left D m + (if D m = true then 0 else 1)

theorem left_le (D : Nat → Bool) : ∀ m, left D m ≤ m
  | 0 => Nat.le_refl _
  | m + 1 => by have := left_le D m; simp only [left]; split <;> omega

theorem left_zero {D : Nat → Bool} : ∀ {m : Nat}, left D m = 0 → ∀ i, i < m → D i = true
  | 0, _, i, hi => by omega
  | m + 1, h, i, hi => by
    simp only [left] at h
    by_cases hd : D m = true
    · rw [if_pos hd] at h
      by_cases e : i = m
      · subst e; exact hd
      · exact left_zero (m := m) (by omega) i (by omega)
    · rw [if_neg hd] at h; omega

theorem left_upd_ge {D : Nat → Bool} {i : Nat} : ∀ {m : Nat}, m ≤ i → left (upd D i) m = left D m
  | 0, _ => rfl
  | m + 1, h => by
    simp only [left]
    rw [left_upd_ge (by omega)]
    have : upd D i m = D m := by simp only [upd]; rw [show (m == i) = false by simp; omega, Bool.or_false]
    rw [this]

theorem left_upd {D : Nat → Bool} {i : Nat} (hD : D i = false) : ∀ {m : Nat}, i < m → left (upd D i) m + 1 = left D m
  | 0, h => by omega
  | m + 1, h => by
    simp only [left]
    by_cases e : m = i
    · subst e
      rw [left_upd_ge (Nat.le_refl _), if_pos (by rw [upd_true]; exact .inr rfl), if_neg (by rw [hD]; simp)]
    · have : upd D i m = D m := by simp only [upd]; rw [show (m == i) = false by simp; exact e, Bool.or_false]
      rw [this]
      have := left_upd hD (m := m) (by omega)
      omega

/-- Every order comes to the same. -/
theorem Inv.any (hr : Run P n ops (Region.before ops) T stl ss hh rr) (h0 : rr 0 = []) (hk : slotsOK ops (Region.before ops) = true) (he : edgesOK ops = true) {ι0 : Map} {base : Nat} {w0 : World} (hstl : StillAt ι0 w0 stl (hh 0)) {Q : Exit → Act → World → Prop}
    (hQ : ∀ a' w', StepS ι0 n base (hh 0) w0 (ss ops.size) (hh ops.size) a' w' → Q .normal a' w') :
    ∀ (fuel : Nat) (listed : Array Bool) (z : Nat) (ι : Map) (a : Act) (w : World), listed.size = ops.size → left (fun i => listed.getD i false) ops.size ≤ fuel →
      Inv T n ops (Region.before ops) ss hh rr (fun i => listed.getD i false) z ι0 base w0 ι a w → wpAny P .any ops Q fuel listed a w := by
  intro fuel listed z ι a w hsz hfu hi
  -- ready means: nothing that it stands behind is left
  have key : ∀ i, i ∈ Region.ready .any ops listed → (∃ o, ops[i]? = some o) ∧ listed.getD i false = false ∧ ∀ k, ((Region.before ops).getD i 0).testBit k = true → listed.getD k false = true := by
    intro i hm
    obtain ⟨q1, o, q2, q3⟩ := mem_ready.1 hm
    have hlt := (Array.getElem?_eq_some_iff.1 q2).1
    refine ⟨⟨o, q2⟩, ?_, fun k hkb => ?_⟩
    · rw [Array.getD_eq_getD_getElem?, Array.getElem?_eq_getElem (by omega)] at q1 ⊢
      exact q1
    · obtain ⟨e, e1, e2, e3⟩ := before_spec ops i k o q2 hkb
      have hon := q3 e e1 e2
      rcases e3 with e3 | ⟨_, e3⟩
      · rw [← e3]; exact hon
      · exact hi.clo e.on k hon e3
  -- nothing ready: all is done
  have fin : (∀ i, i < ops.size → listed.getD i false = true) → Q .normal a w := by
    intro all
    have hz : z = ops.size := by
      have hzl := hi.hz
      rcases Nat.lt_or_ge z ops.size with h | h
      · rcases hi.zz with e | hm
        · omega
        · have := hi.below z (all z h) hm.2.2; omega
      · omega
    subst hz
    have same : ∀ id : Nat, (maskF (fun i => listed.getD i false) (rr ops.size) (hh ops.size))[id]? = (hh ops.size)[id]? := fun id => maskF_of fun r hr1 _ => all _ (hr.ranges h0 (Nat.le_refl _) r hr1).1
    refine hQ a w ⟨ι, hi.le, hi.new, HR_ext hi.heap (fun id blk h => by rw [same]; exact h) (by rw [maskF_len]; exact Nat.le_refl _), ⟨hi.size, hi.defers, fun t v hv => hi.slots t v ?_⟩, hi.fr, fun b' hb' hlt => hi.mo b' (mods_live (fun id blk h => by rw [same]; exact h) hb') hlt, hr.len0 (Nat.le_refl _)⟩
    rw [sv_text hr (Nat.le_refl _) (fun i hi1 _ => all i hi1)]
    exact hv
  have some_ready : Region.ready .any ops listed = [] → ∀ i, i < ops.size → listed.getD i false = true := by
    intro hn i
    induction i using Nat.strongRecOn with
    | _ i ih =>
      intro hi1
      cases hD : listed.getD i false with
      | true => rfl
      | false =>
        exfalso
        have : i ∈ Region.ready .any ops listed := by
          refine mem_ready.2 ⟨?_, ops[i], Array.getElem?_eq_getElem hi1, fun e e1 e2 => ?_⟩
          · rw [Array.getD_eq_getD_getElem?, Array.getElem?_eq_getElem (by omega)] at hD ⊢
            exact hD
          · have := edges_spec he (Array.getElem?_eq_getElem hi1) e1 e2
            exact ih e.on this (by omega)
        rw [hn] at this
        cases this
  cases fuel with
  | zero =>
    have all := left_zero (D := fun i => listed.getD i false) (m := ops.size) (by omega)
    refine ⟨?_, fin all⟩
    cases hrd : Region.ready .any ops listed with
    | nil => rfl
    | cons i l =>
      exfalso
      obtain ⟨⟨o, ho⟩, h1, _⟩ := key i (by rw [hrd]; exact List.mem_cons_self ..)
      have h2 := all i (Array.getElem?_eq_some_iff.1 ho).1
      rw [h1] at h2
      cases h2
  | succ fuel =>
    refine ⟨fun hn => fin (some_ready hn), fun i hm => ?_⟩
    obtain ⟨⟨o, ho⟩, hD, hdep⟩ := key i hm
    have hlt := (Array.getElem?_eq_some_iff.1 ho).1
    have hup : upd (fun i => listed.getD i false) i = fun k => (listed.setIfInBounds i true).getD k false := by
      funext k
      simp only [upd]
      by_cases e : k = i
      · subst e
        rw [Array.getD_eq_getD_getElem? (xs := listed.setIfInBounds k true), Array.getElem?_setIfInBounds_self_of_lt (by omega)]
        simp
      · rw [Array.getD_eq_getD_getElem? (xs := listed.setIfInBounds i true), Array.getElem?_setIfInBounds_ne (fun h => e h.symm), ← Array.getD_eq_getD_getElem?, show (k == i) = false by simp [e], Bool.or_false]
    refine hi.step hr h0 hk he hstl ho hD hdep fun z' ι' a' w' hi' _ => ?_
    rw [hup] at hi'
    refine Inv.any hr h0 hk he hstl hQ fuel (listed.setIfInBounds i true) z' ι' a' w' (by simp [hsz]) ?_ hi'
    rw [← hup]
    have := left_upd (D := fun i => listed.getD i false) hD hlt
    omega

/-- A region whose order is open. -/
theorem drawK_region {S : Spec} {out : Res} (hS : SpecOK P S) (hm : P.follows .mixedOrders = true) {id : Nat} {s : Slots} {h : Heap} {k : Slots → Heap → Out} (hok : (slotsOK ops (Region.before ops) && edgesOK ops) = true) (hk : drawK P S n ops (Region.before ops) T stl ops.toList 0 s h [] k = some out) :
    ∃ s' h', k s' h' = some out ∧ ∀ (ι : Map) (base : Nat) (w : World) (a : Act) (Q : Exit → Act → World → Prop), SR ι n s a → HR ι base h w → StillAt ι w stl h → (∀ a' w', StepS ι n base h w s' h' a' w' → Q .normal a' w') → (Code.region id ops true).wp P Q a w := by
  rw [Bool.and_eq_true] at hok
  obtain ⟨hsl, hed⟩ := hok
  obtain ⟨ss, hh, rr, rfl, rfl, e3, e4, e5⟩ := drawK_trace hS hk (fun i => by simp)
  simp only [Array.length_toList, Nat.zero_add] at e4 e5
  have hr : Run P n ops (Region.before ops) T stl ss hh rr := fun i o h1 h2 => e5 i o (Nat.zero_le _) h1 h2
  refine ⟨_, _, e4, fun ι base w a Q hs hhr hstl hq => wp_region_any hm ?_⟩
  obtain ⟨m, m1, m2, m3⟩ := next_md ops (Region.before ops) rr 0 ops.size (by omega)
  obtain ⟨M, E, f1, f2, f3, f4⟩ := hr.begins (i := 0) (m := m) m1 m2
  rw [e3, List.append_nil] at f2
  simp only [Nat.zero_add] at f1 f2 f4 m1 m2 m3
  have nofalse : ∀ i, (Array.replicate ops.size false).getD i false = false := by
    intro i
    rw [Array.getD_eq_getD_getElem?, Array.getElem?_replicate]
    split <;> rfl
  have hDf : (fun i => (Array.replicate ops.size false).getD i false) = fun _ => false := funext nofalse
  refine Inv.any hr e3 hsl hed (w0 := w) hstl hq ops.size _ m ι a _ (by simp) (left_le _ _) ?_
  rw [hDf]
  have live : ∀ (id : Nat) (blk : Blk), (maskF (fun _ => false) (rr m) (hh m))[id]? = some (some blk) → (hh 0)[id]? = some (some blk) := by
    intro id blk hb
    obtain ⟨g1, g2⟩ := maskF_live hb
    have hidl := (List.getElem?_eq_some_iff.1 g2).1
    by_cases hid : id < (hh 0).length
    · rw [f1, List.getElem?_append_left hid] at g2; exact g2
    · exfalso
      obtain ⟨r, hr1, hr2⟩ := f4 id (by omega) hidl
      have := g1 r (by rw [f2]; exact hr1) hr2
      cases this
  refine ⟨m1, fun i hi _ => (by cases hi), fun i h1 h2 => (m2 i (Nat.zero_le _) h1 h2).elim, m3, fun j i hj => (by cases hj), ?_, fun r hr1 _ id hid => ?_, hs.1, hs.2.1, fun t u hu => ?_, Map.le_refl _, fun id l hl => .inl hl, ?_, fun b' hb' _ => mods_live live hb'⟩
  · exact HR_ext (HR.sameHeap (w := w) (w' := { w with drawn := w.drawn + 1 }) rfl hhr) live (by rw [maskF_len, f1]; simp)
  · rw [f2] at hr1
    have := (f3 r hr1).2.1
    exact hhr.fresh (by unfold inRange at hid; omega)
  · have : ∀ j, sv ops ss (fun _ => false) j t = getS (ss 0) t := by
      intro j
      induction j with
      | zero => rfl
      | succ j ih => simp only [sv]; rw [if_neg (by simp)]; exact ih
    rw [this] at hu
    exact hs.2.2 t u hu
  · exact ⟨Nat.le_refl _, fun b _ _ => rfl, rfl, rfl, rfl⟩
end
end Go.Proofs.Ytcjjngdkkihgjaa.VC

/- Regions whose order is open, with stores that others need not wait for. -/
namespace Go.Proofs.Ytcjjngdkkihgjaa.VC
open Go

theorem killL_get : ∀ (W : List Nat) (h : Heap) (id : Nat), (killL W h).length = h.length ∧ (id ∈ W → ∀ blk, (killL W h)[id]? ≠ some (some blk)) ∧ (id ∉ W → (killL W h)[id]? = h[id]?)
  | [], h, id => ⟨rfl, (fun h => by cases h), fun _ => rfl⟩
  | i :: r, h, id => by
    obtain ⟨a, b, c⟩ := killL_get r (h.set i none) id
    refine ⟨by simp only [killL]; rw [a]; simp, fun hm blk hb => ?_, fun hm => ?_⟩
    · simp only [killL] at hb
      by_cases hr : id ∈ r
      · exact b hr blk hb
      · rw [c hr] at hb
        rcases List.mem_cons.1 hm with rfl | hm
        · rw [List.getElem?_set_self'] at hb
          cases hx : h[id]? with
          | none => rw [hx] at hb; simp at hb
          | some y => rw [hx] at hb; simp at hb
        · exact hr hm
    · simp only [killL]
      rw [c (fun x => hm (List.mem_cons_of_mem _ x)), List.getElem?_set_ne (fun e => hm (by rw [← e]; exact List.mem_cons_self ..))]

theorem onlyB_len {h : Heap} {id : Nat} : (onlyB h id).length = h.length := by simp [onlyB]
theorem onlyB_live {h : Heap} {id j : Nat} {blk : Blk} (hb : (onlyB h id)[j]? = some (some blk)) : j = id ∧ h[id]? = some (some blk) := by
  unfold onlyB at hb
  by_cases e : id = j
  · subst e
    refine ⟨rfl, ?_⟩
    have hl := (List.getElem?_eq_some_iff.1 hb).1
    simp at hl
    rw [List.getElem?_set_self (by simpa using hl)] at hb
    rw [List.getElem?_eq_getElem hl] at hb ⊢
    simpa using hb
  · rw [List.getElem?_set_ne e] at hb
    obtain ⟨_, h2⟩ := List.getElem?_eq_some_iff.1 hb
    simp at h2

theorem lateF_len {keep : Nat → Bool} : ∀ {ls : List (Nat × Nat × Blk)} {h : Heap}, (lateF keep ls h).length = h.length
  | [], h => rfl
  | (j, id, nb) :: r, h => by
    simp only [lateF]
    cases keep j with
    | true => simp [lateF_len]
    | false => exact lateF_len

theorem lateF_other {keep : Nat → Bool} {id : Nat} : ∀ {ls : List (Nat × Nat × Blk)} {h : Heap}, (∀ e ∈ ls, e.2.1 = id → keep e.1 = false) → (lateF keep ls h)[id]? = h[id]?
  | [], h, _ => rfl
  | (j, i, nb) :: r, h, hh => by
    have ih := lateF_other (keep := keep) (id := id) (ls := r) (h := h) fun e he => hh e (List.mem_cons_of_mem _ he)
    simp only [lateF]
    cases hk : keep j with
    | true =>
      simp only [cond_true]
      rw [List.getElem?_set_ne (fun e => by have := hh (j, i, nb) (List.mem_cons_self ..) e; simp [hk] at this), ih]
    | false => simpa using ih

/-- What stands behind some stores. -/
theorem lateF_live {keep : Nat → Bool} {id : Nat} {blk : Blk} : ∀ {ls : List (Nat × Nat × Blk)} {h : Heap}, (lateF keep ls h)[id]? = some (some blk) →
    (∃ e ∈ ls, e.2.1 = id ∧ keep e.1 = true ∧ blk = e.2.2) ∨ ((∀ e ∈ ls, e.2.1 = id → keep e.1 = false) ∧ h[id]? = some (some blk))
  | [], h, hb => .inr ⟨(fun e he => by cases he), hb⟩
  | (j, i, nb) :: r, h, hb => by
    simp only [lateF] at hb
    cases hk : keep j with
    | true =>
      rw [hk] at hb
      simp only [cond_true] at hb
      by_cases e : i = id
      · subst e
        have hl := (List.getElem?_eq_some_iff.1 hb).1
        rw [List.getElem?_set_self (by simpa using hl)] at hb
        exact .inl ⟨_, List.mem_cons_self .., rfl, hk, by simpa using hb.symm⟩
      · rw [List.getElem?_set_ne e] at hb
        rcases lateF_live hb with ⟨x, h1, h2⟩ | ⟨h1, h2⟩
        · exact .inl ⟨x, List.mem_cons_of_mem _ h1, h2⟩
        · refine .inr ⟨fun x hx hxe => ?_, h2⟩
          rcases List.mem_cons.1 hx with rfl | hx
          · exact (e hxe).elim
          · exact h1 x hx hxe
    | false =>
      rw [hk] at hb
      simp only [cond_false] at hb
      rcases lateF_live hb with ⟨x, h1, h2⟩ | ⟨h1, h2⟩
      · exact .inl ⟨x, List.mem_cons_of_mem _ h1, h2⟩
      · refine .inr ⟨fun x hx hxe => ?_, h2⟩
        rcases List.mem_cons.1 hx with rfl | hx
        · exact hk
        · exact h1 x hx hxe

theorem lateF_app {keep : Nat → Bool} {id : Nat} {ls : List (Nat × Nat × Blk)} {h : Heap} : ∀ {F : List (Nat × Nat × Blk)}, (∀ e ∈ F, e.2.1 = id → keep e.1 = false) → (lateF keep (F ++ ls) h)[id]? = (lateF keep ls h)[id]?
  | [], _ => rfl
  | (j, i, nb) :: r, hh => by
    have ih := lateF_app (keep := keep) (id := id) (ls := ls) (h := h) (F := r) fun e he => hh e (List.mem_cons_of_mem _ he)
    simp only [List.cons_append, lateF]
    cases hk : keep j with
    | true =>
      simp only [cond_true]
      have : i ≠ id := fun e => by have := hh _ (List.mem_cons_self ..) e; simp only at this; rw [hk] at this; cases this
      rw [List.getElem?_set_ne this]; exact ih
    | false => exact ih
theorem lateF_same {keep keep' : Nat → Bool} {id : Nat} {h h' : Heap} (hl : id < h.length) (hl' : id < h'.length) (he : h[id]? = h'[id]?) : ∀ {ls : List (Nat × Nat × Blk)}, (∀ e ∈ ls, e.2.1 = id → keep e.1 = keep' e.1) → (lateF keep ls h)[id]? = (lateF keep' ls h')[id]?
  | [], _ => he
  | (j, i, nb) :: r, hh => by
    have ih := lateF_same (keep := keep) (keep' := keep') hl hl' he (ls := r) fun e he => hh e (List.mem_cons_of_mem _ he)
    simp only [lateF]
    by_cases e : i = id
    · have := hh _ (List.mem_cons_self ..) e
      simp only at this
      rw [← this]
      cases keep j with
      | true =>
        simp only [cond_true]
        rw [e, List.getElem?_set_self (by rw [lateF_len]; exact hl), List.getElem?_set_self (by rw [lateF_len]; exact hl')]
      | false => exact ih
    · cases keep j <;> cases keep' j <;> simp only [cond_true, cond_false, List.getElem?_set_ne e] <;> exact ih
theorem lateF_base {keep : Nat → Bool} {id : Nat} {h h' : Heap} (hl : h.length = h'.length) : ∀ {ls : List (Nat × Nat × Blk)} {e : Nat × Nat × Blk}, e ∈ ls → e.2.1 = id → keep e.1 = true → (lateF keep ls h)[id]? = (lateF keep ls h')[id]?
  | [], _, hm, _, _ => by cases hm
  | (j, i, nb) :: r, e, hm, he, hk => by
    simp only [lateF]
    cases hj : keep j with
    | true =>
      simp only [cond_true]
      by_cases e1 : i = id
      · subst e1
        by_cases hi : i < h.length
        · rw [List.getElem?_set_self (by rw [lateF_len]; exact hi), List.getElem?_set_self (by rw [lateF_len, ← hl]; exact hi)]
        · rw [List.getElem?_eq_none (by rw [List.length_set, lateF_len]; omega), List.getElem?_eq_none (by rw [List.length_set, lateF_len]; omega)]
      · rw [List.getElem?_set_ne e1, List.getElem?_set_ne e1]
        rcases List.mem_cons.1 hm with rfl | hm
        · exact (e1 he).elim
        · exact lateF_base hl hm he hk
    | false =>
      rcases List.mem_cons.1 hm with rfl | hm
      · rw [hj] at hk; cases hk
      · exact lateF_base hl hm he hk
theorem chainL_spec {b : Array Nat} {j id : Nat} : ∀ {ls : List (Nat × Nat × Blk)}, chainL b j id ls = true → ∀ e ∈ ls, e.2.1 = id → (b.getD j 0).testBit e.1 = true
  | [], _, e, he, _ => by cases he
  | (q, i, nb) :: r, h, e, he, hid => by
    simp only [chainL, Bool.and_eq_true, Bool.or_eq_true, Bool.not_eq_true'] at h
    rcases List.mem_cons.1 he with rfl | he
    · rcases h.1 with h1 | h1
      · simp only at hid; subst hid; rw [Nat.beq_refl] at h1; cases h1
      · exact h1
    · exact chainL_spec h.2 e he hid

/-- A store that is done, where no other one goes to its block. -/
theorem lateF_hit {keep : Nat → Bool} {e : Nat × Nat × Blk} : ∀ {ls : List (Nat × Nat × Blk)} {h : Heap}, e ∈ ls → keep e.1 = true → e.2.1 < h.length → (∀ x ∈ ls, x.2.1 = e.2.1 → x = e) → (lateF keep ls h)[e.2.1]? = some (some e.2.2)
  | [], h, hm, _, _, _ => by cases hm
  | (j, i, nb) :: r, h, hm, hk, hl, hd => by
    simp only [lateF]
    by_cases e1 : i = e.2.1
    · have := hd (j, i, nb) (List.mem_cons_self ..) e1
      subst this
      rw [hk]
      simp only [cond_true]
      rw [List.getElem?_set_self (by rw [lateF_len]; exact hl)]
    · rcases List.mem_cons.1 hm with rfl | hm
      · exact (e1 rfl).elim
      · have ih := lateF_hit hm hk hl (h := h) fun x hx => hd x (List.mem_cons_of_mem _ hx)
        cases keep j with
        | true => simp only [cond_true]; rw [List.getElem?_set_ne e1]; exact ih
        | false => exact ih

theorem lateF_congr {keep keep' : Nat → Bool} : ∀ {ls : List (Nat × Nat × Blk)} {h : Heap}, (∀ e ∈ ls, keep e.1 = keep' e.1) → lateF keep ls h = lateF keep' ls h
  | [], h, _ => rfl
  | (j, i, nb) :: r, h, hh => by
    simp only [lateF]
    rw [hh (j, i, nb) (List.mem_cons_self ..), lateF_congr fun e he => hh e (List.mem_cons_of_mem _ he)]

theorem maskF_congr {keep keep' : Nat → Bool} : ∀ {rs : List (Nat × Nat × Nat)} {h : Heap}, (∀ e ∈ rs, keep e.1 = keep' e.1) → maskF keep rs h = maskF keep' rs h
  | [], h, _ => rfl
  | (j, a, n) :: r, h, hh => by
    simp only [maskF]
    rw [hh (j, a, n) (List.mem_cons_self ..), maskF_congr fun e he => hh e (List.mem_cons_of_mem _ he), maskF_congr fun e he => hh e (List.mem_cons_of_mem _ he)]

theorem inRs_spec {A : Nat → Bool} {id : Nat} : ∀ {rs : List (Nat × Nat × Nat)}, inRs A id rs = true → ∃ r ∈ rs, A r.1 = true ∧ inRange r id
  | [], h => by cases h
  | (i, a, n) :: r, h => by
    simp only [inRs, Bool.or_eq_true, Bool.and_eq_true] at h
    rcases h with ⟨h1, h2, h3⟩ | h
    · exact ⟨_, List.mem_cons_self .., h1, ble_true h2, blt_true h3⟩
    · obtain ⟨x, a, b⟩ := inRs_spec h; exact ⟨x, List.mem_cons_of_mem _ a, b⟩

theorem memL_false {id : Nat} : ∀ {ls : List (Nat × Nat × Blk)}, memL id ls = false → ∀ e ∈ ls, e.2.1 ≠ id
  | [], _, e, he => by cases he
  | (j, i, nb) :: r, h, e, he => by
    simp only [memL, Bool.or_eq_false_iff] at h
    rcases List.mem_cons.1 he with rfl | he
    · intro x; simp only at x; subst x; rw [Nat.beq_refl] at h; cases h.1
    · exact memL_false h.2 e he

theorem memN_mem {x : Nat} : ∀ {l : List Nat}, memN x l = true → x ∈ l
  | [], h => by cases h
  | y :: r, h => by
    simp only [memN, Bool.or_eq_true] at h
    rcases h with h | h
    · have := beq_true h; subst this; exact List.mem_cons_self ..
    · exact List.mem_cons_of_mem _ (memN_mem h)

theorem storeAt_map {ι : Map} {n : Nat} {s : Slots} {a : Act} {op : Op} {id : Nat} (h : storeAt s op = some id) (hs : SR ι n s a) : ∃ l, ι id = some l := by
  unfold storeAt at h
  split at h
  · split at h
    · rename_i x v id2 off hv
      cases h
      have key : ∀ u : Value, VR ι (.pointer (some ⟨id, off, none⟩)) u → ∃ l, ι id = some l := fun u h => by
        cases h with
        | ptr hl => exact ⟨_, hl⟩
      exact key _ (opnd_VR hs hv)
    · cases h
  · cases h

/-- One block is written. -/
theorem HR_late {ι κ : Map} {base : Nat} {H H' h1 h2 : Heap} {w w' : World} {id : Nat} {ob nb : Blk} (hr : HR ι base H w) (ho : H[id]? = some (some ob)) (hown : ob.own = true) (hf : Fr (mods κ h1) w w')
    (h1only : ∀ (j : Nat) (blk : Blk), h1[j]? = some (some blk) → j = id) (hκ : Map.le κ ι) (hκid : κ id = ι id) (hr2 : HR κ base h2 w') (hn : h2[id]? = some (some nb)) (hlen : H'.length = H.length)
    (hH : ∀ (j : Nat) (blk : Blk), H'[j]? = some (some blk) → (j = id ∧ blk = nb) ∨ (j ≠ id ∧ H[j]? = some (some blk))) : HR ι base H' w' := by
  have keepw : ∀ (j : Nat) (blk : Blk) (l : Loc), j ≠ id → H[j]? = some (some blk) → ι j = some l → w'.heap[l.b]? = w.heap[l.b]? := by
    intro j blk l hj hb hl
    refine hf.same _ (hr.dom j l hl).2 ?_
    rintro ⟨i, b1, l1, q1, q2, q3, q4⟩
    have := h1only _ _ q1
    subst this
    exact hr.inj i j ob blk l1 l ho hb hown (fun e => hj e.symm) (hκ _ _ q3) hl q4
  refine ⟨fun j blk hb => ?_, fun j l hl => ?_, fun j j' blk blk' l l' hb hb' hob hne hl hl' => ?_, fun j blk l hb hob hl => ?_, Nat.le_trans hr.base_le hf.size⟩
  · rcases hH j blk hb with ⟨rfl, rfl⟩ | ⟨hj, hb⟩
    · rcases hr2.live j blk hn with ⟨p1, p2⟩ | ⟨l, p1, p2⟩
      · exact .inl ⟨by rw [← hκid]; exact p1, p2⟩
      · exact .inr ⟨l, by rw [← hκid]; exact p1, p2.mono hκ⟩
    · rcases hr.live j blk hb with ⟨p1, p2⟩ | ⟨l, p1, p2⟩
      · exact .inl ⟨p1, p2⟩
      · exact .inr ⟨l, p1, p2.same (keepw j blk l hj hb p1)⟩
  · have := hr.dom j l hl
    exact ⟨by omega, Nat.lt_of_lt_of_le this.2 hf.size⟩
  · rcases hH j blk hb with ⟨rfl, rfl⟩ | ⟨hj, hb⟩ <;> rcases hH j' blk' hb' with ⟨rfl, rfl⟩ | ⟨hj', hb'⟩
    · exact (hne rfl).elim
    · exact hr.inj j j' ob blk' l l' ho hb' hown hne hl hl'
    · exact fun e => hr.inj j' j ob blk l' l ho hb hown (fun e => hne e.symm) hl' hl e.symm
    · exact hr.inj j j' blk blk' l l' hb hb' hob hne hl hl'
  · rcases hH j blk hb with ⟨rfl, rfl⟩ | ⟨hj, hb⟩
    · exact hr.own j ob l ho hown hl
    · exact hr.own j blk l hb hob hl

section
variable {P : Program} {n : Nat} {ops : Array Oper} {b : Array Nat} {W : Nat → List Nat} {A : Nat → Bool}

inductive StepTrL (P : Program) (n : Nat) (ops : Array Oper) (b : Array Nat) (W : Nat → List Nat) (A : Nat → Bool) (j : Nat) (o : Oper) (s : Slots) (h : Heap) (rs : List (Nat × Nat × Nat)) (ls : List (Nat × Nat × Blk)) : Slots → Heap → List (Nat × Nat × Nat) → List (Nat × Nat × Blk) → Prop
  | skip {s0 s' : Slots} (h0 : ∀ t, getS s0 t = getS s t) (hw : ∀ (ι : Map) (a : Act), SR ι n (restrS (namesOf ops o) s) a → Region.wanted o (yielded ops a.tmps) = false) (hl : Laid n s0 o.dst (some undef) s') : StepTrL P n ops b W A j o s h rs ls s' h rs ls
  | non {s0 s' : Slots} {v : Value} {N : Heap} (h0 : ∀ t, getS s0 t = getS s t) (hw : ∀ (ι : Map) (a : Act), SR ι n (restrS (namesOf ops o) s) a → Region.wanted o (yielded ops a.tmps) = true)
      (hs : bdS h.length (restrS (namesOf ops o) s0) = true) (hb : bdH h.length (lateM (W j) A (b.getD j 0) rs h) = true)
      (ho : OpS P n (restrS (namesOf ops o) s0) (lateM (W j) A (b.getD j 0) rs h) o v (lateM (W j) A (b.getD j 0) rs h ++ N) false) (hl : Laid n s0 o.dst (some v) s') :
      StepTrL P n ops b W A j o s h rs ls s' (h ++ N) ((j, h.length, N.length) :: rs) ls
  | late {s0 s' : Slots} {v : Value} {h' : Heap} {id : Nat} {ob nb : Blk} (h0 : ∀ t, getS s0 t = getS s t) (hw : ∀ (ι : Map) (a : Act), SR ι n (restrS (namesOf ops o) s) a → Region.wanted o (yielded ops a.tmps) = true)
      (hob : (lateF (fun _ => true) ls h)[id]? = some (some ob)) (hown : ob.own = true) (hid : (∀ i, i < ops.size → id ∈ W i ∨ (b.getD j 0).testBit i = true) ∨ ∃ r ∈ rs, A r.1 = true ∧ inRange r id) (hdis : ∀ e ∈ ls, e.2.1 = id → (b.getD j 0).testBit e.1 = true) (hs : bdS h.length (restrS (namesOf ops o) s0) = true) (hb : bdH h.length (onlyB (lateF (fun _ => true) ls h) id) = true)
      (hp : ∀ (ι : Map) (a : Act), SR ι n (restrS (namesOf ops o) s0) a → ∃ l, ι id = some l)
      (ho : OpS P n (restrS (namesOf ops o) s0) (onlyB (lateF (fun _ => true) ls h) id) o v h' true) (hnb : h'[id]? = some (some nb)) (hlen : h'.length = h.length) (hl : Laid n s0 o.dst (some v) s') : StepTrL P n ops b W A j o s h rs ls s' h rs ((j, id, nb) :: ls)

theorem drawL_trace {S : Spec} {out : Res} (hS : SpecOK P S) : ∀ {l : List Oper} {j : Nat} {s : Slots} {h : Heap} {rs : List (Nat × Nat × Nat)} {ls : List (Nat × Nat × Blk)} {k : Slots → Heap → List (Nat × Nat × Blk) → Out}, drawL P S n ops b W A l j s h rs ls k = some out → (∀ i, l[i]? = ops[j + i]?) →
    ∃ (ss : Nat → Slots) (hh : Nat → Heap) (rr : Nat → List (Nat × Nat × Nat)) (ll : Nat → List (Nat × Nat × Blk)), ss j = s ∧ hh j = h ∧ rr j = rs ∧ ll j = ls ∧ k (ss (j + l.length)) (hh (j + l.length)) (ll (j + l.length)) = some out ∧
      ∀ i o, j ≤ i → i < j + l.length → ops[i]? = some o → StepTrL P n ops b W A i o (ss i) (hh i) (rr i) (ll i) (ss (i + 1)) (hh (i + 1)) (rr (i + 1)) (ll (i + 1))
  | [], j, s, h, rs, ls, k, hk, _ => ⟨fun _ => s, fun _ => h, fun _ => rs, fun _ => ls, rfl, rfl, rfl, rfl, hk, fun i o h1 h2 => by simp at h2; omega⟩
  | o :: r, j, s, h, rs, ls, k, hk, hl => by
    have hoj : ops[j]? = some o := by have := hl 0; simpa using this.symm
    have hr' : ∀ i, r[i]? = ops[j + 1 + i]? := fun i => by
      have := hl (i + 1)
      rw [List.getElem?_cons_succ] at this
      rw [this]; congr 1; omega
    have glue : ∀ (s1 : Slots) (h1 : Heap) (rs1 : List (Nat × Nat × Nat)) (ls1 : List (Nat × Nat × Blk)), StepTrL P n ops b W A j o s h rs ls s1 h1 rs1 ls1 → drawL P S n ops b W A r (j + 1) s1 h1 rs1 ls1 k = some out →
        ∃ (ss : Nat → Slots) (hh : Nat → Heap) (rr : Nat → List (Nat × Nat × Nat)) (ll : Nat → List (Nat × Nat × Blk)), ss j = s ∧ hh j = h ∧ rr j = rs ∧ ll j = ls ∧ k (ss (j + (o :: r).length)) (hh (j + (o :: r).length)) (ll (j + (o :: r).length)) = some out ∧
          ∀ i o', j ≤ i → i < j + (o :: r).length → ops[i]? = some o' → StepTrL P n ops b W A i o' (ss i) (hh i) (rr i) (ll i) (ss (i + 1)) (hh (i + 1)) (rr (i + 1)) (ll (i + 1)) := by
      intro s1 h1 rs1 ls1 hst hd
      obtain ⟨ss, hh, rr, ll, e1, e2, e3, e3b, e4, e5⟩ := drawL_trace hS hd hr'
      refine ⟨fun i => if i = j then s else ss i, fun i => if i = j then h else hh i, fun i => if i = j then rs else rr i, fun i => if i = j then ls else ll i, by simp, by simp, by simp, by simp, ?_, fun i o' h1 h2 h3 => ?_⟩
      · have : j + (o :: r).length = j + 1 + r.length := by simp; omega
        rw [this]
        simp only [show ¬ (j + 1 + r.length = j) by omega, if_false]
        exact e4
      · by_cases e : i = j
        · subst e
          rw [hoj] at h3
          cases h3
          simp only [if_true, show ¬ (i + 1 = i) by omega, if_false, e1, e2, e3, e3b]
          exact hst
        · simp only [e, if_false, show ¬ (i + 1 = j) by omega]
          exact e5 i o' (by omega) (by simp at h2; omega) h3
    simp only [drawL] at hk
    obtain ⟨s0, hs0, hrun | hskip⟩ := guardK_some' (n := n) hk
    · obtain ⟨hk, hw⟩ := hrun
      have hw := guard_restr hw
      rcases bif_some hk with ⟨hmo, hk⟩ | ⟨hmo, hk⟩
      · split at hk
        · rename_i id hid
          split at hk
          · rename_i ob hob
            obtain ⟨hc, hk⟩ := bif_none hk
            simp only [Bool.and_eq_true, Bool.or_eq_true] at hc
            obtain ⟨⟨⟨⟨c1, c2⟩, c3⟩, c4⟩, c5⟩ := hc
            obtain ⟨v, h1, q1, q2, q3, _⟩ := opK_sound (n := n) hS hk
            dsimp only at q1
            split at q1
            · rename_i nb hnb
              obtain ⟨c6, q1⟩ := bif_none q1
              obtain ⟨s1, p1, p2⟩ := putS_some q1
              rw [hmo] at q2
              refine glue s1 h rs _ (.late hs0 hw (getB_some hob) c1 ?_ (chainL_spec c3) c4 c5 (fun ι a hs => storeAt_map hid hs) q2 (getB_some hnb) (beq_true c6) p2) p1
              rcases c2 with c2 | c2
              · refine .inl fun i hi => ?_
                have := List.all_eq_true.1 c2 i (List.mem_range.2 hi)
                simp only [Bool.or_eq_true] at this
                exact this.imp memN_mem (fun x => x)
              · exact .inr (inRs_spec c2)
            · cases q1
          · cases hk
        · cases hk
      · obtain ⟨hbd, hk⟩ := bif_none' hk
        simp only [Bool.not_eq_false', Bool.and_eq_true] at hbd
        obtain ⟨v, h1, q1, q2, q3, q4⟩ := opK_sound (n := n) hS hk
        obtain ⟨s1, p1, p2⟩ := putS_some q1
        rw [hmo] at q2
        obtain ⟨N, hN⟩ := q4 hmo
        have hml : (lateM (W j) A (b.getD j 0) rs h).length = h.length := by unfold lateM; rw [(killL_get _ _ 0).1, maskF_len]
        subst hN
        have e1 : (lateM (W j) A (b.getD j 0) rs h ++ N).drop h.length = N := by rw [← hml]; simp
        have e2 : (lateM (W j) A (b.getD j 0) rs h ++ N).length - h.length = N.length := by rw [List.length_append, hml]; omega
        rw [e1, e2] at p1
        exact glue s1 (h ++ N) _ _ (.non hs0 hw hbd.1 hbd.2 q2 p2) p1
    · obtain ⟨hk, hw⟩ := hskip
      have hw := guard_restr hw
      obtain ⟨s1, p1, p2⟩ := putS_some hk
      exact glue s1 h rs ls (.skip hs0 hw p2) p1

variable {ss : Nat → Slots} {hh : Nat → Heap} {rr : Nat → List (Nat × Nat × Nat)} {ll : Nat → List (Nat × Nat × Blk)}

/-- The text's run. -/
def RunL (P : Program) (n : Nat) (ops : Array Oper) (b : Array Nat) (W : Nat → List Nat) (A : Nat → Bool) (ss : Nat → Slots) (hh : Nat → Heap) (rr : Nat → List (Nat × Nat × Nat)) (ll : Nat → List (Nat × Nat × Blk)) : Prop :=
  ∀ i o, i < ops.size → ops[i]? = some o → StepTrL P n ops b W A i o (ss i) (hh i) (rr i) (ll i) (ss (i + 1)) (hh (i + 1)) (rr (i + 1)) (ll (i + 1))

theorem RunL.at (hr : RunL P n ops b W A ss hh rr ll) {i : Nat} (hi : i < ops.size) : ∃ o, ops[i]? = some o ∧ StepTrL P n ops b W A i o (ss i) (hh i) (rr i) (ll i) (ss (i + 1)) (hh (i + 1)) (rr (i + 1)) (ll (i + 1)) :=
  ⟨ops[i], Array.getElem?_eq_getElem hi, hr i _ hi (Array.getElem?_eq_getElem hi)⟩

theorem StepTrL.shape {j : Nat} {o : Oper} {s s' : Slots} {h h' : Heap} {rs rs' : List (Nat × Nat × Nat)} {ls ls' : List (Nat × Nat × Blk)} (hs : StepTrL P n ops b W A j o s h rs ls s' h' rs' ls') :
    (∃ N, h' = h ++ N ∧ ((rs' = rs ∧ N = []) ∨ rs' = (j, h.length, N.length) :: rs)) ∧ (ls' = ls ∨ ∃ id nb, ls' = (j, id, nb) :: ls ∧ (∀ e ∈ ls, e.2.1 = id → (b.getD j 0).testBit e.1 = true) ∧ id < h.length ∧ ((∀ i, i < ops.size → id ∈ W i ∨ (b.getD j 0).testBit i = true) ∨ ∃ r ∈ rs, A r.1 = true ∧ inRange r id)) := by
  cases hs with
  | skip => exact ⟨⟨[], by simp, .inl ⟨rfl, rfl⟩⟩, .inl rfl⟩
  | non => exact ⟨⟨_, rfl, .inr rfl⟩, .inl rfl⟩
  | late h0 hw hob hown hid hdis => exact ⟨⟨[], by simp, .inl ⟨rfl, rfl⟩⟩, .inr ⟨_, _, rfl, hdis, by have := (List.getElem?_eq_some_iff.1 hob).1; rwa [lateF_len] at this, hid⟩⟩

/-- From a place to a later one. -/
theorem RunL.begins (hr : RunL P n ops b W A ss hh rr ll) {i : Nat} : ∀ {m : Nat}, i + m ≤ ops.size → ∃ M E F, hh (i + m) = hh i ++ M ∧ rr (i + m) = E ++ rr i ∧ ll (i + m) = F ++ ll i ∧
    (∀ r ∈ E, i ≤ r.1 ∧ r.1 < i + m ∧ (hh i).length ≤ r.2.1 ∧ r.2.1 + r.2.2 ≤ (hh (i + m)).length) ∧ (∀ e ∈ F, i ≤ e.1 ∧ e.1 < i + m ∧ e.2.1 < (hh (i + m)).length ∧ ((∀ i, i < ops.size → e.2.1 ∈ W i ∨ (b.getD e.1 0).testBit i = true) ∨ ∃ r ∈ rr (i + m), A r.1 = true ∧ inRange r e.2.1) ∧ (∀ x ∈ ll i, x.2.1 = e.2.1 → (b.getD e.1 0).testBit x.1 = true) ∧ ∀ x ∈ F, x.2.1 = e.2.1 → x = e ∨ (b.getD e.1 0).testBit x.1 = true ∨ (b.getD x.1 0).testBit e.1 = true)
      ∧ ∀ id, (hh i).length ≤ id → id < (hh (i + m)).length → ∃ r ∈ E, inRange r id
  | 0, _ => ⟨[], [], [], by simp, rfl, rfl, (fun r h => by cases h), (fun r h => by cases h), fun id h1 h2 => by rw [Nat.add_zero] at h2; omega⟩
  | m + 1, hm => by
    obtain ⟨M, E, F, e1, e2, e3, e4, e5, e6⟩ := hr.begins (i := i) (m := m) (by omega)
    obtain ⟨o, _, hs⟩ := hr.at (i := i + m) (by omega)
    obtain ⟨⟨N, f1, f2⟩, f3⟩ := hs.shape
    have hE : ∃ E', rr (i + (m + 1)) = E' ++ rr (i + m) ∧ (∀ r ∈ E', r.1 = i + m ∧ r.2.1 = (hh (i + m)).length ∧ r.2.2 = N.length) ∧ (N = [] ∨ (i + m, (hh (i + m)).length, N.length) ∈ E') := by
      rcases f2 with ⟨f2, f4⟩ | f2
      · exact ⟨[], f2, (fun r h => by cases h), .inl f4⟩
      · refine ⟨[(i + m, (hh (i + m)).length, N.length)], f2, fun r h => ?_, .inr (List.mem_cons_self ..)⟩
        rcases List.mem_cons.1 h with rfl | h
        · exact ⟨rfl, rfl, rfl⟩
        · cases h
    obtain ⟨E', g1, g2, g3⟩ := hE
    have f1' : hh (i + (m + 1)) = hh (i + m) ++ N := f1
    have hF : ∃ F', ll (i + (m + 1)) = F' ++ ll (i + m) ∧ (∀ e ∈ F', e.1 = i + m ∧ e.2.1 < (hh (i + m)).length ∧ ((∀ i, i < ops.size → e.2.1 ∈ W i ∨ (b.getD e.1 0).testBit i = true) ∨ ∃ r ∈ rr (i + m), A r.1 = true ∧ inRange r e.2.1) ∧ (∀ x ∈ ll (i + m), x.2.1 = e.2.1 → (b.getD e.1 0).testBit x.1 = true) ∧ ∀ x ∈ F', x = e) := by
      rcases f3 with f3 | ⟨id, nb, f3, f4, f5, f6⟩
      · exact ⟨[], f3, fun e h => by cases h⟩
      · refine ⟨[(i + m, id, nb)], f3, fun e h => ?_⟩
        rcases List.mem_cons.1 h with rfl | h
        · exact ⟨rfl, f5, f6, f4, fun x hx => by rcases List.mem_cons.1 hx with rfl | hx; rfl; cases hx⟩
        · cases h
    obtain ⟨F', k1, k2⟩ := hF
    have hlen : (hh (i + m)).length ≤ (hh (i + (m + 1))).length := by rw [f1']; simp
    refine ⟨M ++ N, E' ++ E, F' ++ F, by rw [f1', e1]; simp, by rw [g1, e2]; simp, by rw [k1, e3]; simp, fun r h => ?_, fun e h => ?_, fun id h1 h2 => ?_⟩
    · rcases List.mem_append.1 h with h | h
      · obtain ⟨a1, a2, a3⟩ := g2 r h
        refine ⟨by omega, by omega, ?_, ?_⟩
        · rw [a2, e1]; simp
        · rw [a2, a3, f1']; simp
      · obtain ⟨a1, a2, a3, a4⟩ := e4 r h
        exact ⟨a1, by omega, a3, by omega⟩
    · have up : ∀ {q j : Nat}, ((∀ i, i < ops.size → q ∈ W i ∨ (b.getD j 0).testBit i = true) ∨ ∃ r ∈ rr (i + m), A r.1 = true ∧ inRange r q) → ((∀ i, i < ops.size → q ∈ W i ∨ (b.getD j 0).testBit i = true) ∨ ∃ r ∈ rr (i + (m + 1)), A r.1 = true ∧ inRange r q) := by
        intro q j hq
        rcases hq with hq | ⟨r, r1, r2⟩
        · exact .inl hq
        · exact .inr ⟨r, by rw [g1]; exact List.mem_append_right _ r1, r2⟩
      rcases List.mem_append.1 h with h | h
      · obtain ⟨a1, a2, a3, a4, a5⟩ := k2 e h
        refine ⟨by omega, by omega, by omega, up a3, fun x hx => a4 x (by rw [e3]; exact List.mem_append_right _ hx), fun x hx hxe => ?_⟩
        rcases List.mem_append.1 hx with hx | hx
        · exact .inl (a5 x hx)
        · exact .inr (.inl (a4 x (by rw [e3]; exact List.mem_append_left _ hx) hxe))
      · obtain ⟨a1, a2, a3, a4, a5, a6⟩ := e5 e h
        refine ⟨a1, by omega, by omega, up a4, a5, fun x hx hxe => ?_⟩
        rcases List.mem_append.1 hx with hx | hx
        · exact .inr (.inr ((k2 x hx).2.2.2.1 e (by rw [e3]; exact List.mem_append_left _ h) hxe.symm))
        · exact a6 x hx hxe
    · by_cases hi : id < (hh (i + m)).length
      · obtain ⟨r, a, c⟩ := e6 id h1 hi; exact ⟨r, List.mem_append_right _ a, c⟩
      · rw [f1', List.length_append] at h2
        rcases g3 with g3 | g3
        · rw [g3] at h2; simp at h2; omega
        · exact ⟨_, List.mem_append_left _ g3, Nat.not_lt.1 hi, h2⟩

theorem StepTrL.slots {j : Nat} {o : Oper} {s s' : Slots} {h h' : Heap} {rs rs' : List (Nat × Nat × Nat)} {ls ls' : List (Nat × Nat × Blk)} (hs : StepTrL P n ops b W A j o s h rs ls s' h' rs' ls') {t : Nat} (ht : o.dst ≠ some t) : getS s' t = getS s t := by
  have key : ∀ {s0 : Slots} {v : Option Value}, (∀ t, getS s0 t = getS s t) → Laid n s0 o.dst v s' → getS s' t = getS s t := by
    intro s0 v h0 hl
    cases hd : o.dst with
    | none => rw [hd] at hl; simp only [Laid] at hl; rw [hl]; exact h0 t
    | some u =>
      rw [hd] at hl
      simp only [Laid] at hl
      rw [hl.2, getS_cons, if_neg (fun e => ht (by rw [hd, e]))]
      exact h0 t
  cases hs with
  | skip h0 _ hl => exact key h0 hl
  | non h0 _ _ _ _ hl => exact key h0 hl
  | late h0 _ _ _ _ _ _ _ _ _ _ _ hl => exact key h0 hl

theorem sv_textL (hr : RunL P n ops b W A ss hh rr ll) {D : Nat → Bool} {t : Nat} : ∀ {j : Nat}, j ≤ ops.size → (∀ i, i < j → writes ops i t → D i = true) → sv ops ss D j t = getS (ss j) t
  | 0, _, _ => rfl
  | j + 1, hj, h => by
    simp only [sv]
    by_cases hw : writes ops j t
    · rw [if_pos ⟨h j (by omega) hw, hw⟩]
    · rw [if_neg (fun x => hw x.2), sv_textL hr (by omega) (fun i hi => h i (by omega))]
      obtain ⟨o, ho, hs⟩ := hr.at (i := j) (by omega)
      exact (hs.slots (fun e => hw (by simp [writes, ho, e]))).symm

/-- What holds when some operations are done. -/
structure InvL (n : Nat) (ops : Array Oper) (b : Array Nat) (ss : Nat → Slots) (h0 : Heap) (hz : Heap) (rz : List (Nat × Nat × Nat)) (lz : List (Nat × Nat × Blk)) (D : Nat → Bool) (ι0 : Map) (base : Nat) (w0 : World) (ι : Map) (a : Act) (w : World) : Prop where
  clo : ∀ j i, D j = true → (b.getD j 0).testBit i = true → D i = true
  heap : HR ι base (lateF D lz (maskF D rz hz)) w
  none : ∀ r ∈ rz, D r.1 = false → ∀ id, inRange r id → ι id = none
  hit : ∀ e ∈ lz, D e.1 = true → ∀ r ∈ rz, inRange r e.2.1 → D r.1 = true
  size : a.tmps.size = n
  defers : a.defers = []
  slots : ∀ (t : Nat) (u : Value), sv ops ss D ops.size t = some u → VR ι u (a.tmps.getD t undef)
  le : Map.le ι0 ι
  new : ∀ (id : Nat) (l : Loc), ι id = some l → ι0 id = some l ∨ (h0.length ≤ id ∧ (w0.heap.size ≤ l.b ∨ mods ι0 h0 l.b))
  fr : Fr (mods ι0 h0) w0 w
  mo : ∀ b', mods ι (lateF D lz (maskF D rz hz)) b' → b' < w0.heap.size → mods ι0 h0 b'

variable {h0 hz : Heap} {rz : List (Nat × Nat × Nat)} {lz : List (Nat × Nat × Blk)}

theorem InvL.named (hr : RunL P n ops (Region.before ops) W A ss hh rr ll) (hk : slotsOK ops (Region.before ops) = true) (he : edgesOK ops = true) {D : Nat → Bool} {ι0 ι : Map} {base : Nat} {w0 w : World} {a : Act}
    (hi : InvL n ops (Region.before ops) ss h0 hz rz lz D ι0 base w0 ι a w) {i : Nat} {o : Oper} (ho : ops[i]? = some o) (hD : D i = false) (hdep : ∀ k, ((Region.before ops).getD i 0).testBit k = true → D k = true) :
    SR ι n (restrS (namesOf ops o) (ss i)) a := by
  have hlt := (Array.getElem?_eq_some_iff.1 ho).1
  refine ⟨hi.size, hi.defers, fun t v hv => hi.slots t v ?_⟩
  rw [restrS_get] at hv
  split at hv
  · rename_i ht
    have h1 : sv ops ss D ops.size t = sv ops ss D i t := by
      have := sv_later (ops := ops) (ss := ss) (D := D) (t := t) (j := i) (m := ops.size - i) (fun k hk1 hk2 hw => by
        by_cases e : k = i
        · subst e; exact hD
        · rcases slots_ordered hk ho ht hw e with h | h
          · have := (before_lt he i h).1; omega
          · cases hDk : D k with
            | false => rfl
            | true => rw [hi.clo k i hDk h] at hD; cases hD)
      rwa [show i + (ops.size - i) = ops.size by omega] at this
    rw [h1, sv_textL hr (by omega) (fun k hk1 hw => by
      rcases slots_ordered hk ho ht hw (by omega) with h | h
      · exact hdep k h
      · have := (before_lt he k h).1; omega)]
    exact hv
  · cases hv

theorem InvL.slots_upd (hk : slotsOK ops (Region.before ops) = true) (he : edgesOK ops = true) {D : Nat → Bool} {ι0 ι ι' : Map} {base : Nat} {w0 w : World} {a : Act}
    (hi : InvL n ops (Region.before ops) ss h0 hz rz lz D ι0 base w0 ι a w) (hle : Map.le ι ι') {i : Nat} {o : Oper} (ho : ops[i]? = some o) (hD : D i = false) {s0 : Slots} {v v' : Value} (hl : Laid n s0 o.dst (some v) (ss (i + 1))) (hv : VR ι' v v') :
    ∀ (t : Nat) (u : Value), sv ops ss (upd D i) ops.size t = some u → VR ι' u ((a.put o.dst v').tmps.getD t undef) := by
  have hlt := (Array.getElem?_eq_some_iff.1 ho).1
  intro t u hu
  by_cases hw : writes ops i t
  · have hd : o.dst = some t := by simpa [writes, ho] using hw
    rw [hd] at hl
    simp only [Laid] at hl
    have h1 : sv ops ss (upd D i) ops.size t = sv ops ss (upd D i) (i + 1) t := by
      have := sv_later (ops := ops) (ss := ss) (D := upd D i) (t := t) (j := i + 1) (m := ops.size - (i + 1)) (fun k hk1 hk2 hwk => by
        have hok : ∃ o', ops[k]? = some o' := ⟨ops[k], Array.getElem?_eq_getElem (by omega)⟩
        obtain ⟨o', ho'⟩ := hok
        have ht : t ∈ namesOf ops o' := by
          have : o'.dst = some t := by simpa [writes, ho'] using hwk
          simp [namesOf, this]
        rw [upd_false]
        refine ⟨?_, by omega⟩
        rcases slots_ordered hk ho' ht hw (by omega) with h | h
        · cases hDk : D k with
          | false => rfl
          | true => rw [hi.clo k i hDk h] at hD; cases hD
        · have := (before_lt he i h).1; omega)
      rwa [show i + 1 + (ops.size - (i + 1)) = ops.size by omega] at this
    rw [h1] at hu
    simp only [sv] at hu
    rw [if_pos ⟨by rw [upd_true]; exact .inr rfl, hw⟩, hl.2, getS_cons, if_pos rfl] at hu
    cases hu
    simp only [Act.put, hd]
    rw [Array.getD_eq_getD_getElem?, Array.getElem?_setIfInBounds_self_of_lt (by rw [hi.size]; exact hl.1)]
    exact hv
  · have h1 : sv ops ss (upd D i) ops.size t = sv ops ss D ops.size t := sv_congr (fun k hk1 hwk => by
      simp only [upd]
      by_cases e : k = i
      · subst e; exact (hw hwk).elim
      · simp [e])
    rw [h1] at hu
    have := (hi.slots t u hu).mono hle
    cases hd : o.dst with
    | none => simpa [Act.put] using this
    | some x =>
      have hne : x ≠ t := fun e => hw (by simp [writes, ho, hd, e])
      simp only [Act.put]
      rw [Array.getD_eq_getD_getElem?, Array.getElem?_setIfInBounds_ne hne, ← Array.getD_eq_getD_getElem?]
      exact this
end
end Go.Proofs.Ytcjjngdkkihgjaa.VC

/- Regions whose order is open, with stores that others need not wait for: every order comes to the text's end. -/
namespace Go.Proofs.Ytcjjngdkkihgjaa.VC
open Go

section
variable {P : Program} {n : Nat} {ops : Array Oper} {W : Nat → List Nat} {A : Nat → Bool} {ss : Nat → Slots} {hh : Nat → Heap} {rr : Nat → List (Nat × Nat × Nat)} {ll : Nat → List (Nat × Nat × Blk)}

/-- One operation more. -/
theorem InvL.step (hr : RunL P n ops (Region.before ops) W A ss hh rr ll) (h0 : rr 0 = []) (hl0 : ll 0 = []) (hk : slotsOK ops (Region.before ops) = true) (he : edgesOK ops = true) {D : Nat → Bool} {ι0 ι : Map} {base : Nat} {w0 w : World} {a : Act}
    (hi : InvL n ops (Region.before ops) ss (hh 0) (hh ops.size) (rr ops.size) (ll ops.size) D ι0 base w0 ι a w) {i : Nat} {o : Oper} (ho : ops[i]? = some o) (hD : D i = false) (hdep : ∀ k, ((Region.before ops).getD i 0).testBit k = true → D k = true) {K : Act → World → Prop} {Q : Exit → Act → World → Prop}
    (hK : ∀ ι' a' w', InvL n ops (Region.before ops) ss (hh 0) (hh ops.size) (rr ops.size) (ll ops.size) (upd D i) ι0 base w0 ι' a' w' → K a' w') : wpOp P ops Q i K a w := by
  have hlt := (Array.getElem?_eq_some_iff.1 ho).1
  have hst := hr i o hlt ho
  have hnm := hi.named hr hk he ho hD hdep
  have cloD : ∀ j k, upd D i j = true → ((Region.before ops).getD j 0).testBit k = true → upd D i k = true := by
    intro j k hj hb
    rw [upd_true] at hj ⊢
    rcases hj with hj | rfl
    · exact .inl (hi.clo j k hj hb)
    · exact .inl (hdep k hb)
  -- what lies behind the operation, and ahead of it
  obtain ⟨M, E, F, f1, f2, f3, f4, f5, f6⟩ := hr.begins (i := i + 1) (m := ops.size - (i + 1)) (by omega)
  rw [show i + 1 + (ops.size - (i + 1)) = ops.size by omega] at f1 f2 f3 f4 f5 f6
  obtain ⟨M0, E0, F0, g1, g2, g3, g4, g5, g6⟩ := hr.begins (i := 0) (m := i) (by omega)
  rw [Nat.zero_add] at g1 g2 g3 g4 g5 g6
  rw [h0, List.append_nil] at g2
  rw [hl0, List.append_nil] at g3
  obtain ⟨Mz, Ez, Fz, z1, z2, z3, z4, z5, z6⟩ := hr.begins (i := 0) (m := ops.size) (by omega)
  rw [Nat.zero_add] at z1 z2 z3 z4 z5 z6
  rw [h0, List.append_nil] at z2
  rw [hl0, List.append_nil] at z3
  have len0 : (hh 0).length ≤ (hh i).length := by rw [g1]; simp
  simp only [wpOp, ho]
  generalize hsn : ss (i + 1) = sn at hst
  generalize hhn : hh (i + 1) = hn at hst
  generalize hrn : rr (i + 1) = rn at hst
  generalize hln : ll (i + 1) = ln at hst
  cases hst with
  | skip k0 kw kl =>
    rw [if_neg (by rw [kw ι a hnm]; simp)]
    have cr : ∀ r ∈ rr ops.size, upd D i r.1 = D r.1 := by
      intro r hr1
      have : r.1 ≠ i := by
        rw [f2, hrn, g2] at hr1
        rcases List.mem_append.1 hr1 with h | h
        · have := (f4 r h).1; omega
        · have := (g4 r h).2.1; omega
      simp [upd, this]
    have cl : ∀ e ∈ ll ops.size, upd D i e.1 = D e.1 := by
      intro e he1
      have : e.1 ≠ i := by
        rw [f3, hln, g3] at he1
        rcases List.mem_append.1 he1 with h | h
        · have := (f5 e h).1; omega
        · have := (g5 e h).2.1; omega
      simp [upd, this]
    have eH : lateF (upd D i) (ll ops.size) (maskF (upd D i) (rr ops.size) (hh ops.size)) = lateF D (ll ops.size) (maskF D (rr ops.size) (hh ops.size)) := by
      rw [lateF_congr cl, maskF_congr cr]
    refine hK ι _ w ⟨cloD, by rw [eH]; exact hi.heap, fun r hr1 hr2 => hi.none r hr1 (upd_false.1 hr2).1, fun e he1 he2 r hr1 hr2 => ?_, Inv.put_size hi.size, Inv.put_defers hi.defers,
      hi.slots_upd hk he (Map.le_refl _) ho hD (by rw [hsn]; exact kl) (VR.undef ι), hi.le, hi.new, hi.fr, by rw [eH]; exact hi.mo⟩
    rw [cl e he1] at he2
    rw [cr r hr1]
    exact hi.hit e he1 he2 r hr1 hr2
  | non k0 kw ks kb ko kl =>
    rename_i s0 v N
    rw [if_pos (kw ι a hnm)]
    have hml : (lateM (W i) A ((Region.before ops).getD i 0) (rr i) (hh i)).length = (hh i).length := by unfold lateM; rw [(killL_get _ _ 0).1, maskF_len]
    have hzl : (hh i).length + N.length ≤ (hh ops.size).length := by rw [f1, hhn]; simp
    have rzi : ∀ r ∈ rr ops.size, r.1 = i → r = (i, (hh i).length, N.length) := by
      intro r hr1 e
      rw [f2, hrn] at hr1
      rcases List.mem_append.1 hr1 with h | h
      · have := (f4 r h).1; omega
      · rcases List.mem_cons.1 h with rfl | h
        · rfl
        · rw [g2] at h; have := (g4 r h).2.1; omega
    have cl : ∀ e ∈ ll ops.size, upd D i e.1 = D e.1 := by
      intro e he1
      have : e.1 ≠ i := by
        rw [f3, hln, g3] at he1
        rcases List.mem_append.1 he1 with h | h
        · have := (f5 e h).1; omega
        · have := (g5 e h).2.1; omega
      simp [upd, this]
    -- ranges that hold a number below belong to the operations ahead
    have early : ∀ r ∈ rr ops.size, ∀ id, inRange r id → id < (hh i).length → r ∈ rr i := by
      intro r hr1 id hr2 hid
      rw [f2, hrn] at hr1
      rcases List.mem_append.1 hr1 with h | h
      · have h9 := (f4 r h).2.2.1; rw [hhn, List.length_append] at h9; unfold inRange at hr2; omega
      · rcases List.mem_cons.1 h with rfl | h
        · unfold inRange at hr2; simp only at hr2; omega
        · exact h
    have seen : ∀ (id : Nat) (blk : Blk), (lateM (W i) A ((Region.before ops).getD i 0) (rr i) (hh i))[id]? = some (some blk) → (lateF D (ll ops.size) (maskF D (rr ops.size) (hh ops.size)))[id]? = some (some blk) := by
      intro id blk hb
      unfold lateM at hb
      have hW : id ∉ W i := fun h => (killL_get (W i) _ id).2.1 h blk hb
      rw [(killL_get (W i) _ id).2.2 hW] at hb
      obtain ⟨q1, q2⟩ := maskF_live hb
      have hid := (List.getElem?_eq_some_iff.1 q2).1
      rw [lateF_other, maskF_of fun r hr1 hr2 => ?_]
      · rw [f1, hhn, List.getElem?_append_left (by simp; omega), List.getElem?_append_left hid]; exact q2
      · have := q1 r (early r hr1 id hr2 hid) hr2
        simp only [Bool.and_eq_true] at this
        exact hdep _ this.1
      · intro e he1 he2
        rw [z3] at he1
        obtain ⟨_, _, _, y1, _⟩ := z5 e he1
        rw [he2] at y1
        rcases y1 with y1 | ⟨r, y1, y2, y3⟩
        · rcases y1 i hlt with y2 | y2
          · exact (hW y2).elim
          · cases hDe : D e.1 with
            | false => rfl
            | true => rw [hi.clo e.1 i hDe y2] at hD; cases hD
        · exfalso
          have := q1 r (early r y1 id y3 hid) y3
          simp [y2] at this
    have hsub := HR_sub hi.heap seen (by rw [hml]; exact kb)
    rw [hml] at hsub
    have hnm' : SR ι n (restrS (namesOf ops o) s0) a := hnm.congr (fun t => by rw [restrS_get, restrS_get, k0])
    refine .inl (ko _ base w a (hnm'.below ks) hsub _ _ fun v' w' ⟨ι1, q⟩ => ?_)
    simp only [Bool.false_eq_true, if_false] at q
    generalize hmk : lateM (W i) A ((Region.before ops).getD i 0) (rr i) (hh i) = mk at *
    have domN : ∀ (id : Nat) (l : Loc), ι1 id = some l → id < mk.length + N.length := fun id l hl => by have := (q.hr.dom id l hl).1; rwa [List.length_append] at this
    have le1 : Map.le ι1 (ι.mix ι1 mk.length N.length) := by
      intro id l hl
      have h2 := domN id l hl
      simp only [Map.mix]
      by_cases h3 : mk.length ≤ id
      · rw [if_pos ⟨h3, h2⟩]; exact hl
      · rw [if_neg (by omega)]
        rcases q.new id l hl with h | ⟨h, _⟩
        · exact Map.below_le _ _ _ _ h
        · omega
    have rin : (i, (hh i).length, N.length) ∈ rr ops.size := by rw [f2, hrn]; exact List.mem_append_right _ (List.mem_cons_self ..)
    have le2 : Map.le ι (ι.mix ι1 mk.length N.length) := by
      intro id l hl
      simp only [Map.mix]
      by_cases h3 : mk.length ≤ id ∧ id < mk.length + N.length
      · exfalso
        rw [hi.none _ rin hD id (by unfold inRange; simp only; omega)] at hl
        cases hl
      · rw [if_neg h3]; exact hl
    have new1 : ∀ (id : Nat) (l : Loc), mk.length ≤ id → ι1 id = some l → w.heap.size ≤ l.b := by
      intro id l h3 hl
      rcases q.new id l hl with h | ⟨_, h | h⟩
      · simp only [Map.below] at h
        rw [if_neg (by omega)] at h
        cases h
      · exact h
      · exact h.elim
    have hHH : ∀ (id : Nat) (blk : Blk), (lateF (upd D i) (ll ops.size) (maskF (upd D i) (rr ops.size) (hh ops.size)))[id]? = some (some blk) → ((mk.length ≤ id ∧ id < mk.length + N.length) ∧ (mk ++ N)[id]? = some (some blk)) ∨ (¬ (mk.length ≤ id ∧ id < mk.length + N.length) ∧ (lateF D (ll ops.size) (maskF D (rr ops.size) (hh ops.size)))[id]? = some (some blk)) := by
      intro id blk hb
      rw [lateF_congr cl] at hb
      rcases lateF_live hb with ⟨e, e1, e2, e3, e4⟩ | ⟨e1, e2⟩
      · refine .inr ⟨fun h3 => ?_, ?_⟩
        · have := hi.hit e e1 e3 _ rin (by rw [e2]; unfold inRange; simp only; omega)
          simp only at this
          rw [hD] at this; cases this
        · rw [lateF_base (h' := maskF (upd D i) (rr ops.size) (hh ops.size)) (by rw [maskF_len, maskF_len]) e1 e2 e3]; exact hb
      · obtain ⟨y1, y2⟩ := maskF_live e2
        by_cases h3 : mk.length ≤ id ∧ id < mk.length + N.length
        · refine .inl ⟨h3, ?_⟩
          rw [f1, hhn, List.getElem?_append_left (by simp; omega), List.getElem?_append_right (by omega)] at y2
          rw [List.getElem?_append_right h3.1, hml]
          exact y2
        · refine .inr ⟨h3, ?_⟩
          rw [lateF_other e1, maskF_of fun r hr1 hr2 => ?_]
          · exact y2
          · have := y1 r hr1 hr2
            rw [upd_true] at this
            rcases this with h | h
            · exact h
            · exfalso
              rw [rzi r hr1 h] at hr2
              unfold inRange at hr2
              simp only at hr2
              omega
    have hHR' := HR_merge hi.heap q.hr q.fr le1 le2 new1 (HD' := lateF (upd D i) (ll ops.size) (maskF (upd D i) (rr ops.size) (hh ops.size))) (by rw [lateF_len, lateF_len, maskF_len, maskF_len]) (by rw [lateF_len, maskF_len]; omega) hHH
    refine hK _ _ w' ⟨cloD, hHR', fun r hr1 hr2 id hid => ?_, fun e e1 e2 r hr1 hr2 => ?_, Inv.put_size hi.size, Inv.put_defers hi.defers,
      hi.slots_upd hk he le2 ho hD (by rw [hsn]; exact kl) (q.vr.mono le1), Map.le_trans hi.le le2, fun id l hl => ?_, hi.fr.trans q.fr (fun _ _ h => h.elim), fun b' hb' hlt' => ?_⟩
    · obtain ⟨d1, d2⟩ := upd_false.1 hr2
      have hnot : ¬ (mk.length ≤ id ∧ id < mk.length + N.length) := by
        rw [f2, hrn] at hr1
        unfold inRange at hid
        rcases List.mem_append.1 hr1 with h | h
        · have h9 := (f4 r h).2.2.1; rw [hhn, List.length_append] at h9; omega
        · rcases List.mem_cons.1 h with rfl | h
          · exact (d2 rfl).elim
          · rw [g2] at h; have := (g4 r h).2.2.2; omega
      simp only [Map.mix]
      rw [if_neg hnot]
      exact hi.none r hr1 d1 id hid
    · rw [cl e e1] at e2
      rw [upd_true]
      exact .inl (hi.hit e e1 e2 r hr1 hr2)
    · by_cases h3 : mk.length ≤ id ∧ id < mk.length + N.length
      · simp only [Map.mix] at hl
        rw [if_pos h3] at hl
        have := new1 id l h3.1 hl
        have := hi.fr.size
        exact .inr ⟨by omega, .inl (by omega)⟩
      · simp only [Map.mix] at hl
        rw [if_neg h3] at hl
        exact hi.new id l hl
    · obtain ⟨id, blk, l, hb, hown, hl, rfl⟩ := hb'
      rcases hHH id blk hb with ⟨h3, h4⟩ | ⟨h3, h4⟩
      · simp only [Map.mix] at hl
        rw [if_pos h3] at hl
        have := new1 id l h3.1 hl
        have := hi.fr.size
        omega
      · simp only [Map.mix] at hl
        rw [if_neg h3] at hl
        exact hi.mo _ ⟨id, blk, l, h4, hown, hl, rfl⟩ hlt'
  | late k0 kw kob kown kid kdis ks kb kp ko knb klen kl =>
    rename_i s0 v h' id ob nb
    rw [if_pos (kw ι a hnm)]
    have hnm' : SR ι n (restrS (namesOf ops o) s0) a := hnm.congr (fun t => by rw [restrS_get, restrS_get, k0])
    obtain ⟨lid, hlid⟩ := kp ι a hnm'
    have hidl := (List.getElem?_eq_some_iff.1 kob).1
    rw [lateF_len] at hidl
    have cr : ∀ r ∈ rr ops.size, upd D i r.1 = D r.1 := by
      intro r hr1
      have : r.1 ≠ i := by
        rw [f2, hrn, g2] at hr1
        rcases List.mem_append.1 hr1 with h | h
        · have := (f4 r h).1; omega
        · have := (g4 r h).2.1; omega
      simp [upd, this]
    have inD : ∀ r ∈ rr ops.size, inRange r id → D r.1 = true := by
      intro r hr1 hr2
      cases hx : D r.1 with
      | true => rfl
      | false => rw [hi.none r hr1 hx id hr2] at hlid; cases hlid
    have ein : (i, id, nb) ∈ ll ops.size := by rw [f3, hln]; exact List.mem_append_right _ (List.mem_cons_self ..)
    have newer : ∀ e ∈ F, e.2.1 = id → D e.1 = false := by
      intro e he1 he2
      cases hDe : D e.1 with
      | false => rfl
      | true =>
        have := (f5 e he1).2.2.2.2.1 (i, id, nb) (by rw [hln]; exact List.mem_cons_self ..) he2.symm
        rw [hi.clo e.1 i hDe this] at hD; cases hD
    have older : ∀ e ∈ ll i, e.2.1 = id → D e.1 = true := fun e he1 he2 => hdep _ (kdis e he1 he2)
    have eidx : ∀ e ∈ ll ops.size, e.1 = i → e = (i, id, nb) := by
      intro e he1 he2
      rw [f3, hln, g3] at he1
      rcases List.mem_append.1 he1 with h | h
      · have := (f5 e h).1; omega
      · rcases List.mem_cons.1 h with rfl | h
        · rfl
        · have := (g5 e h).2.1; omega
    have hHD : (lateF D (ll ops.size) (maskF D (rr ops.size) (hh ops.size)))[id]? = some (some ob) := by
      rw [f3, hln, lateF_app newer]
      simp only [lateF, hD, cond_false]
      rw [lateF_same (keep' := fun _ => true) (h' := hh i) (by rw [maskF_len, f1, hhn, List.length_append]; omega) hidl (by rw [maskF_of fun r hr1 hr2 => inD r hr1 hr2, f1, hhn, List.getElem?_append_left hidl]) older]
      exact kob
    have hsub := HR_sub hi.heap (h1 := onlyB (lateF (fun _ => true) (ll i) (hh i)) id) (fun j blk hb => by obtain ⟨rfl, e2⟩ := onlyB_live hb; rw [kob] at e2; cases e2; exact hHD) (by rw [onlyB_len, lateF_len]; exact kb)
    rw [onlyB_len, lateF_len] at hsub
    refine .inl (ko _ base w a (hnm'.below ks) hsub _ _ fun v' w' ⟨ι1, q⟩ => ?_)
    simp only [if_true] at q
    have same1 : Map.le ι1 (ι.below (hh i).length) := by
      intro j l hl
      rcases q.new j l hl with h | ⟨h, _⟩
      · exact h
      · have := (q.hr.dom j l hl).1
        rw [onlyB_len, lateF_len] at h
        omega
    have bl : Map.le ι1 ι := Map.le_trans same1 (Map.below_le _ _)
    have hlid1 : ι1 id = ι id := by
      have : (ι.below (hh i).length) id = some lid := by simp only [Map.below]; rw [if_pos hidl]; exact hlid
      rw [q.le _ _ this, hlid]
    have hHH : ∀ (j : Nat) (blk : Blk), (lateF (upd D i) (ll ops.size) (maskF (upd D i) (rr ops.size) (hh ops.size)))[j]? = some (some blk) → (j = id ∧ blk = nb) ∨ (j ≠ id ∧ (lateF D (ll ops.size) (maskF D (rr ops.size) (hh ops.size)))[j]? = some (some blk)) := by
      intro j blk hb
      rw [maskF_congr cr] at hb
      by_cases hj : j = id
      · subst hj
        rw [f3, hln, lateF_app (fun e he1 he2 => upd_false.2 ⟨newer e he1 he2, by have := (f5 e he1).1; omega⟩)] at hb
        simp only [lateF, show upd D i i = true by rw [upd_true]; exact .inr rfl, cond_true] at hb
        rw [List.getElem?_set_self (by rw [lateF_len, maskF_len, f1, hhn, List.length_append]; omega)] at hb
        cases hb
        exact .inl ⟨rfl, rfl⟩
      · refine .inr ⟨hj, ?_⟩
        have hjl := (List.getElem?_eq_some_iff.1 hb).1
        rw [lateF_len] at hjl
        rw [lateF_same (keep' := upd D i) hjl hjl rfl (fun e he1 he2 => ?_)]
        · exact hb
        · have : e.1 ≠ i := fun h => by have := eidx e he1 h; subst this; exact hj he2.symm
          simp [upd, this]
    have modsW : ∀ b', mods (ι.below (hh i).length) (onlyB (lateF (fun _ => true) (ll i) (hh i)) id) b' → mods ι (lateF D (ll ops.size) (maskF D (rr ops.size) (hh ops.size))) b' := by
      rintro b' ⟨j, blk, l, hb, hown, hl, rfl⟩
      obtain ⟨rfl, e2⟩ := onlyB_live hb
      rw [kob] at e2
      cases e2
      exact ⟨_, _, l, hHD, hown, Map.below_le _ _ _ _ hl, rfl⟩
    have hHR' := HR_late hi.heap hHD kown q.fr (fun j blk hb => (onlyB_live hb).1) (κ := ι.below (hh i).length) (Map.below_le _ _) (by simp only [Map.below]; rw [if_pos hidl]) (h2 := h') (nb := nb)
      (by
        have : ι1 = ι.below (hh i).length := by
          funext j
          cases hx : ι1 j with
          | some l => exact (same1 j l hx).symm
          | none =>
            cases hy : (ι.below (hh i).length) j with
            | none => rfl
            | some l => rw [q.le j l hy] at hx; cases hx
        rw [← this]; exact q.hr) knb (H' := lateF (upd D i) (ll ops.size) (maskF (upd D i) (rr ops.size) (hh ops.size))) (by rw [lateF_len, lateF_len, maskF_len, maskF_len]) hHH
    refine hK ι _ w' ⟨cloD, hHR', fun r hr1 hr2 => hi.none r hr1 (upd_false.1 hr2).1, fun e e1 e2 r hr1 hr2 => ?_, Inv.put_size hi.size, Inv.put_defers hi.defers,
      hi.slots_upd hk he (Map.le_refl _) ho hD (by rw [hsn]; exact kl) (q.vr.mono bl), hi.le, hi.new, hi.fr.trans q.fr (fun b' hb' hm => hi.mo b' (modsW b' hm) hb'), fun b' hb' hlt' => ?_⟩
    · rw [upd_true] at e2 ⊢
      rcases e2 with e2 | e2
      · exact .inl (hi.hit e e1 e2 r hr1 hr2)
      · have := eidx e e1 e2
        subst this
        exact .inl (inD r hr1 hr2)
    · obtain ⟨j, blk, l, hb, hown, hl, rfl⟩ := hb'
      rcases hHH j blk hb with ⟨rfl, rfl⟩ | ⟨_, h4⟩
      · exact hi.mo _ ⟨j, ob, l, hHD, kown, hl, rfl⟩ hlt'
      · exact hi.mo _ ⟨j, blk, l, h4, hown, hl, rfl⟩ hlt'

/-- Every order comes to the same. -/
theorem InvL.any (hr : RunL P n ops (Region.before ops) W A ss hh rr ll) (h0 : rr 0 = []) (hl0 : ll 0 = []) (hk : slotsOK ops (Region.before ops) = true) (he : edgesOK ops = true) {ι0 : Map} {base : Nat} {w0 : World} {Q : Exit → Act → World → Prop}
    (hQ : ∀ a' w', StepS ι0 n base (hh 0) w0 (ss ops.size) (lateF (fun _ => true) (ll ops.size) (hh ops.size)) a' w' → Q .normal a' w') :
    ∀ (fuel : Nat) (listed : Array Bool) (ι : Map) (a : Act) (w : World), listed.size = ops.size → left (fun i => listed.getD i false) ops.size ≤ fuel →
      InvL n ops (Region.before ops) ss (hh 0) (hh ops.size) (rr ops.size) (ll ops.size) (fun i => listed.getD i false) ι0 base w0 ι a w → wpAny P .any ops Q fuel listed a w := by
  intro fuel listed ι a w hsz hfu hi
  obtain ⟨Mz, Ez, Fz, z1, z2, z3, z4, z5, z6⟩ := hr.begins (i := 0) (m := ops.size) (by omega)
  rw [Nat.zero_add] at z1 z2 z3 z4 z5 z6
  rw [h0, List.append_nil] at z2
  rw [hl0, List.append_nil] at z3
  have key : ∀ i, i ∈ Region.ready .any ops listed → (∃ o, ops[i]? = some o) ∧ listed.getD i false = false ∧ ∀ k, ((Region.before ops).getD i 0).testBit k = true → listed.getD k false = true := by
    intro i hm
    obtain ⟨q1, o, q2, q3⟩ := mem_ready.1 hm
    have hlt := (Array.getElem?_eq_some_iff.1 q2).1
    refine ⟨⟨o, q2⟩, ?_, fun k hkb => ?_⟩
    · rw [Array.getD_eq_getD_getElem?, Array.getElem?_eq_getElem (by omega)] at q1 ⊢
      exact q1
    · obtain ⟨e, e1, e2, e3⟩ := before_spec ops i k o q2 hkb
      have hon := q3 e e1 e2
      rcases e3 with e3 | ⟨_, e3⟩
      · rw [← e3]; exact hon
      · exact hi.clo e.on k hon e3
  have fin : (∀ i, i < ops.size → listed.getD i false = true) → Q .normal a w := by
    intro all
    have eH : lateF (fun i => listed.getD i false) (ll ops.size) (maskF (fun i => listed.getD i false) (rr ops.size) (hh ops.size)) = lateF (fun _ => true) (ll ops.size) (hh ops.size) := by
      rw [lateF_congr (keep' := fun _ => true) (fun e he1 => by rw [z3] at he1; exact all _ (by have := (z5 e he1).2.1; omega))]
      congr 1
      apply List.ext_getElem?
      intro j
      exact maskF_of fun r hr1 _ => all _ (by rw [z2] at hr1; have := (z4 r hr1).2.1; omega)
    refine hQ a w ⟨ι, hi.le, hi.new, by rw [← eH]; exact hi.heap, ⟨hi.size, hi.defers, fun t v hv => hi.slots t v ?_⟩, hi.fr, fun b' hb' hlt => hi.mo b' (by rw [eH]; exact hb') hlt, by rw [lateF_len, z1]; simp⟩
    rw [sv_textL hr (Nat.le_refl _) (fun i hi1 _ => all i hi1)]
    exact hv
  have some_ready : Region.ready .any ops listed = [] → ∀ i, i < ops.size → listed.getD i false = true := by
    intro hn i
    induction i using Nat.strongRecOn with
    | _ i ih =>
      intro hi1
      cases hD : listed.getD i false with
      | true => rfl
      | false =>
        exfalso
        have : i ∈ Region.ready .any ops listed := by
          refine mem_ready.2 ⟨?_, ops[i], Array.getElem?_eq_getElem hi1, fun e e1 e2 => ?_⟩
          · rw [Array.getD_eq_getD_getElem?, Array.getElem?_eq_getElem (by omega)] at hD ⊢
            exact hD
          · have := edges_spec he (Array.getElem?_eq_getElem hi1) e1 e2
            exact ih e.on this (by omega)
        rw [hn] at this
        cases this
  cases fuel with
  | zero =>
    have all := left_zero (D := fun i => listed.getD i false) (m := ops.size) (by omega)
    refine ⟨?_, fin all⟩
    cases hrd : Region.ready .any ops listed with
    | nil => rfl
    | cons i l =>
      exfalso
      obtain ⟨⟨o, ho⟩, h1, _⟩ := key i (by rw [hrd]; exact List.mem_cons_self ..)
      have h2 := all i (Array.getElem?_eq_some_iff.1 ho).1
      rw [h1] at h2
      cases h2
  | succ fuel =>
    refine ⟨fun hn => fin (some_ready hn), fun i hm => ?_⟩
    obtain ⟨⟨o, ho⟩, hD, hdep⟩ := key i hm
    have hlt := (Array.getElem?_eq_some_iff.1 ho).1
    have hup : upd (fun i => listed.getD i false) i = fun k => (listed.setIfInBounds i true).getD k false := by
      funext k
      simp only [upd]
      by_cases e : k = i
      · subst e
        rw [Array.getD_eq_getD_getElem? (xs := listed.setIfInBounds k true), Array.getElem?_setIfInBounds_self_of_lt (by omega)]
        simp
      · rw [Array.getD_eq_getD_getElem? (xs := listed.setIfInBounds i true), Array.getElem?_setIfInBounds_ne (fun h => e h.symm), ← Array.getD_eq_getD_getElem?, show (k == i) = false by simp [e], Bool.or_false]
    refine hi.step hr h0 hl0 hk he ho hD hdep fun ι' a' w' hi' => ?_
    rw [hup] at hi'
    refine InvL.any hr h0 hl0 hk he hQ fuel (listed.setIfInBounds i true) ι' a' w' (by simp [hsz]) ?_ hi'
    rw [← hup]
    have := left_upd (D := fun i => listed.getD i false) hD hlt
    omega

/-- A region whose order is open. -/
theorem drawL_region {S : Spec} {out : Res} (hS : SpecOK P S) (hm : P.follows .mixedOrders = true) {id : Nat} {s : Slots} {h : Heap} {k : Slots → Heap → Out} (hok : (slotsOK ops (Region.before ops) && edgesOK ops) = true) (hk : drawL P S n ops (Region.before ops) W A ops.toList 0 s h [] [] (fun s h ls => k s (lateF (fun _ => true) ls h)) = some out) :
    ∃ s' h', k s' h' = some out ∧ ∀ (ι : Map) (base : Nat) (w : World) (a : Act) (Q : Exit → Act → World → Prop), SR ι n s a → HR ι base h w → (∀ a' w', StepS ι n base h w s' h' a' w' → Q .normal a' w') → (Code.region id ops true).wp P Q a w := by
  rw [Bool.and_eq_true] at hok
  obtain ⟨hsl, hed⟩ := hok
  obtain ⟨ss, hh, rr, ll, rfl, rfl, e3, e3b, e4, e5⟩ := drawL_trace hS hk (fun i => by simp)
  simp only [Array.length_toList, Nat.zero_add] at e4 e5
  have hr : RunL P n ops (Region.before ops) W A ss hh rr ll := fun i o h1 h2 => e5 i o (Nat.zero_le _) h1 h2
  refine ⟨_, _, e4, fun ι base w a Q hs hhr hq => wp_region_any hm ?_⟩
  obtain ⟨M, E, F, f1, f2, f3, f4, f5, f6⟩ := hr.begins (i := 0) (m := ops.size) (by omega)
  rw [Nat.zero_add] at f1 f2 f3 f4 f5 f6
  rw [e3, List.append_nil] at f2
  rw [e3b, List.append_nil] at f3
  have nofalse : ∀ i, (Array.replicate ops.size false).getD i false = false := by
    intro i
    rw [Array.getD_eq_getD_getElem?, Array.getElem?_replicate]
    split <;> rfl
  have hDf : (fun i => (Array.replicate ops.size false).getD i false) = fun _ => false := funext nofalse
  refine InvL.any hr e3 e3b hsl hed (w0 := w) hq ops.size _ ι a _ (by simp) (left_le _ _) ?_
  rw [hDf]
  have live : ∀ (id : Nat) (blk : Blk), (lateF (fun _ => false) (ll ops.size) (maskF (fun _ => false) (rr ops.size) (hh ops.size)))[id]? = some (some blk) → (hh 0)[id]? = some (some blk) := by
    intro id blk hb
    rw [lateF_other (fun _ _ _ => rfl)] at hb
    obtain ⟨g1, g2⟩ := maskF_live hb
    have hidl := (List.getElem?_eq_some_iff.1 g2).1
    by_cases hid : id < (hh 0).length
    · rw [f1, List.getElem?_append_left hid] at g2; exact g2
    · exfalso
      obtain ⟨r, hr1, hr2⟩ := f6 id (by omega) hidl
      have := g1 r (by rw [f2]; exact hr1) hr2
      cases this
  refine ⟨fun j i hj => (by cases hj), ?_, fun r hr1 _ id hid => ?_, fun e _ he2 => (by cases he2), hs.1, hs.2.1, fun t u hu => ?_, Map.le_refl _, fun id l hl => .inl hl, ?_, fun b' hb' _ => mods_live live hb'⟩
  · exact HR_ext (HR.sameHeap (w := w) (w' := { w with drawn := w.drawn + 1 }) rfl hhr) live (by rw [lateF_len, maskF_len, f1]; simp)
  · rw [f2] at hr1
    have := (f4 r hr1).2.2.1
    exact hhr.fresh (by unfold inRange at hid; omega)
  · have : ∀ j, sv ops ss (fun _ => false) j t = getS (ss 0) t := by
      intro j
      induction j with
      | zero => rfl
      | succ j ih => simp only [sv]; rw [if_neg (by simp)]; exact ih
    rw [this] at hu
    exact hs.2.2 t u hu
  · exact ⟨Nat.le_refl _, fun b _ _ => rfl, rfl, rfl, rfl⟩
end
end Go.Proofs.Ytcjjngdkkihgjaa.VC

/- Regions that only read some blocks. -/
namespace Go.Proofs.Ytcjjngdkkihgjaa.VC
open Go

theorem killL_live {R : List Nat} {h : Heap} {id : Nat} {blk : Blk} (hb : (killL R h)[id]? = some (some blk)) : id ∉ R ∧ h[id]? = some (some blk) := by
  obtain ⟨_, h2, h3⟩ := killL_get R h id
  by_cases hm : id ∈ R
  · exact (h2 hm blk hb).elim
  · exact ⟨hm, by rw [← h3 hm]; exact hb⟩
theorem HR_killL {ι : Map} {base : Nat} {h : Heap} {w : World} : ∀ (R : List Nat), HR ι base h w → HR ι base (killL R h) w := by
  intro R hr
  refine ⟨fun id blk hi => hr.live id blk (killL_live hi).2, fun id l hl => ?_, fun id id' blk blk' l l' hi hi' => hr.inj id id' blk blk' l l' (killL_live hi).2 (killL_live hi').2, fun id blk l hi => hr.own id blk l (killL_live hi).2, hr.base_le⟩
  rw [(killL_get R h id).1]
  exact hr.dom id l hl
theorem memN_iff {x : Nat} {l : List Nat} : memN x l = true ↔ x ∈ l := by
  refine ⟨memN_mem, fun h => ?_⟩
  cases hc : memN x l with
  | true => rfl
  | false => exact (memN_false hc h).elim
theorem stillH_live {R : List Nat} {h : Heap} {id : Nat} {blk : Blk} (hb : (stillH R h)[id]? = some (some blk)) : id ∈ R ∧ blk.own = false ∧ ∃ b0 : Blk, h[id]? = some (some b0) ∧ b0.es = blk.es ∧ b0.segs = blk.segs := by
  unfold stillH at hb
  rw [List.getElem?_mapIdx] at hb
  cases hx : h[id]? with
  | none => rw [hx] at hb; cases hb
  | some b =>
    rw [hx] at hb
    simp only [Option.map_some, Option.some.injEq] at hb
    cases hm : memN id R with
    | false => rw [hm] at hb; cases hb
    | true =>
      rw [hm] at hb
      simp only [cond_true] at hb
      cases b with
      | none => cases hb
      | some b0 => cases hb; exact ⟨memN_iff.1 hm, rfl, b0, rfl, rfl, rfl⟩
theorem stillAt_of {ι : Map} {base : Nat} {h : Heap} {w : World} (R : List Nat) (hr : HR ι base h w) : StillAt ι w (stillH R h) (killL R h) := by
  refine ⟨by rw [(killL_get R h 0).1, stillH, List.length_mapIdx]; exact Nat.le_refl _, fun id blk hb => ?_⟩
  obtain ⟨hm, ho, b0, h0, he, hs⟩ := stillH_live hb
  refine ⟨ho, ?_⟩
  rcases hr.live id b0 h0 with ⟨p1, p2, p3⟩ | ⟨l, p1, hrel⟩
  · exact .inl ⟨p1, hs ▸ p2, hs ▸ p3⟩
  · refine .inr ⟨l, p1, (by
      rcases hrel with ⟨c, T, fr, q1, q2, q3, q4, q5, q6⟩ | ⟨es, k, ents, q1, q2, q3, q4⟩
      · exact .inl ⟨c, T, fr, q1, q2, he ▸ q3, hs ▸ q4, hs ▸ q5, fun h => by rw [ho] at h; cases h⟩
      · exact .inr ⟨es, k, ents, q1, hs ▸ q2, he ▸ q3, q4⟩), fun ⟨id', blk', l', r1, r2, r3, r4⟩ => ?_⟩
    obtain ⟨hm', r1⟩ := killL_live r1
    exact hr.inj id' id blk' b0 l' l r1 h0 r2 (fun e => hm' (e ▸ hm)) r3 p1 r4
theorem backH_live {R : List Nat} {h h' : Heap} {id : Nat} {blk : Blk} (hb : (backH R h h')[id]? = some (some blk)) : (id ∈ R ∧ h[id]? = some (some blk)) ∨ (id ∉ R ∧ h'[id]? = some (some blk)) := by
  unfold backH at hb
  rw [List.getElem?_mapIdx] at hb
  cases hx : h'[id]? with
  | none => rw [hx] at hb; cases hb
  | some b =>
    rw [hx] at hb
    simp only [Option.map_some, Option.some.injEq] at hb
    cases hm : memN id R with
    | false => rw [hm] at hb; simp only [cond_false] at hb; exact .inr ⟨memN_false hm, by rw [hb]⟩
    | true =>
      rw [hm] at hb
      simp only [cond_true] at hb
      refine .inl ⟨memN_iff.1 hm, ?_⟩
      cases hy : h[id]? with
      | none => rw [hy] at hb; cases hb
      | some c => rw [hy] at hb; exact congrArg some hb
theorem liveLe_spec {h h' : Heap} (hl : liveLe h h' = true) {id : Nat} {blk : Blk} (hi : id < h.length) (hb : h'[id]? = some (some blk)) : ∃ b0 : Blk, h[id]? = some (some b0) := by
  have := List.all_eq_true.1 hl id (List.mem_range.2 hi)
  rw [hb, List.getElem?_eq_getElem hi] at this
  cases hx : h[id] with
  | none => rw [hx] at this; cases this
  | some b0 => exact ⟨b0, by rw [List.getElem?_eq_getElem hi, hx]⟩
theorem StepS.back {ι : Map} {n base : Nat} {h h' : Heap} {w w' : World} {s' : Slots} {a' : Act} {R : List Nat} (hr : HR ι base h w) (hle : liveLe (killL R h) h' = true) (st : StepS ι n base (killL R h) w s' h' a' w') : StepS ι n base h w s' (backH R h h') a' w' := by
  obtain ⟨ι', q⟩ := st
  have hkl : (killL R h).length = h.length := (killL_get R h 0).1
  have mo0 : ∀ b', mods ι (killL R h) b' → mods ι h b' := fun b' hm => mods_live (fun id blk hb => (killL_live hb).2) hm
  -- a block that came back is apart from the others
  have apart : ∀ (id id' : Nat) (blk blk' : Blk) (l l' : Loc), id ∈ R → h[id]? = some (some blk) → (id' ∉ R ∧ h'[id']? = some (some blk')) → ι' id = some l → ι' id' = some l' → (blk.own = true ∨ blk'.own = true) → l.b ≠ l'.b := by
    intro id id' blk blk' l l' hm hb ⟨hm', hb'⟩ hl hl' ho
    have hid : id < h.length := (List.getElem?_eq_some_iff.1 hb).1
    have hl0 : ι id = some l := by
      rcases q.new id l hl with h1 | ⟨h1, _⟩
      · exact h1
      · rw [hkl] at h1; omega
    have hlt : l.b < w.heap.size := (hr.dom id l hl0).2
    have nomod : ¬ mods ι (killL R h) l.b := fun ⟨j, bj, lj, r1, r2, r3, r4⟩ => by
      obtain ⟨hmj, r1⟩ := killL_live r1
      exact hr.inj j id bj blk lj l r1 hb r2 (fun e => hmj (e ▸ hm)) r3 hl0 r4
    by_cases hi' : id' < h.length
    · have hl0' : ι id' = some l' := by
        rcases q.new id' l' hl' with h1 | ⟨h1, _⟩
        · exact h1
        · rw [hkl] at h1; omega
      obtain ⟨b0, hb0⟩ := liveLe_spec hle (by rw [hkl]; exact hi') hb'
      obtain ⟨_, hb0⟩ := killL_live hb0
      by_cases ho1 : blk.own = true
      · exact hr.inj id id' blk b0 l l' hb hb0 ho1 (fun e => hm' (e ▸ hm)) hl0 hl0'
      · rcases ho with ho | ho
        · exact (ho1 ho).elim
        · -- it may be written: then it was so before, or is new
          intro e
          exact nomod (q.mo l.b ⟨id', blk', l', hb', ho, hl', e.symm⟩ hlt)
    · intro e
      rcases q.new id' l' hl' with h1 | ⟨_, h1 | h1⟩
      · have := (hr.dom id' l' h1).1; omega
      · omega
      · rw [← e] at h1; exact nomod h1
  have hlen : h.length ≤ h'.length := by have := q.len; rw [hkl] at this; exact this
  refine ⟨ι', q.le, fun id l hl => ?_, ⟨fun id blk hb => ?_, fun id l hl => ?_, fun id id' blk blk' l l' hb hb' ho hne hl hl' => ?_, fun id blk l hb ho hl => ?_, q.hr.base_le⟩, q.sr, q.fr.mono mo0, fun b' hm hlt => ?_, ?_⟩
  · rcases q.new id l hl with h1 | ⟨h1, h2⟩
    · exact .inl h1
    · exact .inr ⟨by rw [hkl] at h1; exact h1, h2.imp (fun x => x) (mo0 _)⟩
  · rcases backH_live hb with ⟨hm, hb⟩ | ⟨hm, hb⟩
    · have hid : id < h.length := (List.getElem?_eq_some_iff.1 hb).1
      rcases hr.live id blk hb with ⟨p1, p2⟩ | ⟨l, p1, p2⟩
      · refine .inl ⟨?_, p2⟩
        cases hx : ι' id with
        | none => rfl
        | some l =>
          rcases q.new id l hx with h1 | ⟨h1, _⟩
          · rw [p1] at h1; cases h1
          · rw [hkl] at h1; omega
      · refine .inr ⟨l, q.le _ _ p1, (p2.same (q.fr.same _ p2.lt ?_)).mono q.le⟩
        intro ⟨j, bj, lj, r1, r2, r3, r4⟩
        obtain ⟨hmj, r1⟩ := killL_live r1
        exact hr.inj j id bj blk lj l r1 hb r2 (fun e => hmj (e ▸ hm)) r3 p1 r4
    · exact q.hr.live id blk hb
  · have := q.hr.dom id l hl
    rw [backH, List.length_mapIdx]
    exact this
  · rcases backH_live hb with ⟨hm, hb⟩ | ⟨hm, hb⟩ <;> rcases backH_live hb' with ⟨hm', hb'⟩ | ⟨hm', hb'⟩
    · have f : ∀ {j : Nat} {x : Loc} {bj : Blk}, h[j]? = some (some bj) → ι' j = some x → ι j = some x := by
        intro j x bj hj hx
        have hid : j < h.length := (List.getElem?_eq_some_iff.1 hj).1
        rcases q.new j x hx with h1 | ⟨h1, _⟩
        · exact h1
        · rw [hkl] at h1; omega
      exact hr.inj id id' blk blk' l l' hb hb' ho hne (f hb hl) (f hb' hl')
    · exact apart id id' blk blk' l l' hm hb ⟨hm', hb'⟩ hl hl' (.inl ho)
    · exact (apart id' id blk' blk l' l hm' hb' ⟨hm, hb⟩ hl' hl (.inr ho)).symm
    · exact q.hr.inj id id' blk blk' l l' hb hb' ho hne hl hl'
  · rcases backH_live hb with ⟨hm, hb⟩ | ⟨hm, hb⟩
    · have hid : id < h.length := (List.getElem?_eq_some_iff.1 hb).1
      rcases q.new id l hl with h1 | ⟨h1, _⟩
      · exact hr.own id blk l hb ho h1
      · rw [hkl] at h1; omega
    · exact q.hr.own id blk l hb ho hl
  · obtain ⟨id, blk, l, hb, ho, hl, rfl⟩ := hm
    rcases backH_live hb with ⟨hm, hb⟩ | ⟨hm, hb⟩
    · have hid : id < h.length := (List.getElem?_eq_some_iff.1 hb).1
      rcases q.new id l hl with h1 | ⟨h1, _⟩
      · exact ⟨id, blk, l, hb, ho, h1, rfl⟩
      · rw [hkl] at h1; omega
    · exact mo0 _ (q.mo _ ⟨id, blk, l, hb, ho, hl, rfl⟩ hlt)
  · rw [backH, List.length_mapIdx]; exact hlen
end Go.Proofs.Ytcjjngdkkihgjaa.VC
