/- Slicing. -/
import Derived.Test.YtfgehfnlkakioaaV11
namespace Go.Proofs.Ytfgehfnlkakioaa.VC
open Go

section
variable {P : Program} {S : Spec} {n : Nat} {s : Slots} {h : Heap} {o : Oper} {k : Value → Heap → Out} {out : Res}

/-- What is shown of slicing. -/
def SlS (P : Program) (h : Heap) (t : TypeId) (v : Value) (lo hi mx : Option Int) (v2 : Value) : Prop :=
  ∀ (ι : Map) (base : Nat) (w : World) (v' : Value) (lo' hi' mx' : Option Value), HR ι base h w → VR ι v v' → BR lo lo' → BR hi hi' → BR mx mx' →
    ∃ v2', (Instr.sliceAt t v' lo' hi' mx').run P w = .ok v2' w ∧ VR ι v2 v2'

theorem BR.none_inv {v : Option Value} (hb : BR none v) : v = none := by
  rcases hb with ⟨_, e⟩ | ⟨_, _, e, _⟩
  · exact e
  · cases e

theorem sl_string {t : TypeId} {str : ByteArray} {lo hi : Option Int} (hu : P.underlying t = some .string) (a0 : 0 ≤ lo.getD 0) (a1 : lo.getD 0 ≤ hi.getD str.size) (a2 : hi.getD str.size ≤ str.size) :
    SlS P h t (.string str) lo hi none (.string (str.extract (lo.getD 0).toNat (hi.getD str.size).toNat)) := by
  intro ι base w v' lo' hi' mx' hr hv h1 h2 h3
  obtain ⟨rfl, hs⟩ := hv.string_inv
  have := h3.none_inv
  subst this
  have hb := run_sliceBounds (P := P) (w := w) (isSlice := false) (len := str.size) (cap := str.size) h1 h2 (.inl ⟨rfl, rfl⟩ : BR none none) (fun x => (x rfl).elim) (Nat.le_refl _) a0 a1 a2 (Int.le_refl _)
  refine ⟨_, ?_, .string _ (by rw [ByteArray.size_extract]; omega)⟩
  simp only [Instr.sliceAt, Instr.slice, Sem.run_bind, run_underlying hu, Result.andThen_ok, Option.isSome_none, Bool.false_eq_true, if_false, Sem.run_pure, hb]

theorem sl_nil {t elem : TypeId} {inf : TypeInfo} {lo hi : Option Int} (hu : P.underlying t = some (.slice elem)) (hi' : P.info? elem = some inf) (a0 : lo.getD 0 = 0) (a1 : hi.getD 0 = 0) : SlS P h t (.slice none 0 0) lo hi none (.slice none 0 0) := by
  intro ι base w v' lo' hi2 mx' hr hv h1 h2 h3
  rw [hv.slNil_inv.1]
  have := h3.none_inv
  subst this
  have hb := run_sliceBounds (P := P) (w := w) (isSlice := true) (len := 0) (cap := 0) h1 h2 (.inl ⟨rfl, rfl⟩ : BR none none) (fun x => (x rfl).elim) (Nat.le_refl _) (by omega) (by simp; omega) (by simp; omega) (Int.le_refl _)
  refine ⟨.slice none 0 0, ?_, .slNil⟩
  simp only [Instr.sliceAt, Instr.slice, Sem.run_bind, run_underlying hu, Result.andThen_ok, hb, run_sizeOf hi', Sem.run_pure]
  have e : hi.getD ((0 : Nat) : Int) = 0 := a1
  rw [a0, e]
  simp

theorem sl_arr {t elem : TypeId} {inf : TypeInfo} {m id off : Nat} {lo hi : Option Int} (hu : P.underlying t = some (.array m elem)) (hi' : P.info? elem = some inf) (a0 : 0 ≤ lo.getD 0) (a1 : lo.getD 0 ≤ hi.getD m) (a2 : hi.getD m ≤ m)
    (a3 : m ≤ 4611686018427387904) : SlS P h t (.pointer (some ⟨id, off, none⟩)) lo hi none (.slice (some ⟨id, off + (lo.getD 0).toNat * inf.size, none⟩) (hi.getD m - lo.getD 0).toNat 2) := by
  intro ι base w v' lo' hi2 mx' hr hv h1 h2 h3
  obtain ⟨l, hl, rfl⟩ := hv.ptr_inv
  have := h3.none_inv
  subst this
  have hb := run_sliceBounds (P := P) (w := w) (isSlice := false) (len := m) (cap := m) h1 h2 (.inl ⟨rfl, rfl⟩ : BR none none) (fun x => (x rfl).elim) (Nat.le_refl _) a0 a1 a2 (Int.le_refl _)
  have hrun : (Instr.sliceAt t (.pointer (some ⟨l.b, l.o + off, none⟩)) lo' hi2 none).run P w = .ok (.slice (some (if m = (lo.getD 0).toNat then ⟨l.b, l.o + off, none⟩ else ⟨l.b, l.o + off + (lo.getD 0).toNat * inf.size, none⟩))
      ((hi.getD m).toNat - (lo.getD 0).toNat) (m - (lo.getD 0).toNat)) w := by
    simp only [Instr.sliceAt, Instr.sureAddr, Sem.run_bind, run_underlying hu, Result.andThen_ok, hb, run_sizeOf hi', Sem.run_pure, addr_add, Option.getD_none, Int.toNat_natCast]
  refine ⟨_, hrun, ?_⟩
  rw [show (hi.getD m - lo.getD 0).toNat = (hi.getD m).toNat - (lo.getD 0).toNat by omega]
  by_cases hz : m = (lo.getD 0).toNat
  · rw [if_pos hz, show (hi.getD m).toNat - (lo.getD 0).toNat = 0 by omega, show m - (lo.getD 0).toNat = 0 by omega]
    exact .slZero _
  · rw [if_neg hz, Nat.add_assoc]
    exact .sl hl (by omega) (by omega) (fun e => by cases e) (fun e => by cases e)

theorem sl_sl {t elem : TypeId} {inf : TypeInfo} {id off len c c2 : Nat} {lo hi mx : Option Int} (hu : P.underlying t = some (.slice elem)) (hi' : P.info? elem = some inf) (a0 : 0 ≤ lo.getD 0) (a1 : lo.getD 0 ≤ hi.getD len) (a2 : hi.getD len ≤ len)
    (hm1 : mx = none ∨ (mx = some (hi.getD len) ∧ hi ≠ none)) (hm2 : c2 = 0 → (mx = some (hi.getD len)) ∨ (mx = none ∧ hi = none ∧ c = 0)) (hm3 : c2 = 1 → mx = none ∧ c = 1 ∧ ∃ b, h[id]? = some (some b) ∧ b.es = inf.size) :
    SlS P h t (.slice (some ⟨id, off, none⟩) len c) lo hi mx (.slice (some ⟨id, off + (lo.getD 0).toNat * inf.size, none⟩) (hi.getD len - lo.getD 0).toNat c2) := by
  intro ι base w v' lo' hi2 mx' hr hv h1 h2 h3
  have hmh : mx ≠ none → hi ≠ none := by
    rcases hm1 with rfl | ⟨_, e⟩
    · intro x; exact (x rfl).elim
    · intro _; exact e
  rcases hv.sl_inv with ⟨ad, rfl, rfl⟩ | ⟨lc, c', hl, hlen, hcap, ht, ha, rfl⟩
  · have z2 : hi.getD ((0 : Nat) : Int) = 0 := by omega
    have z1 : lo.getD 0 = 0 := by omega
    have z3 : mx.getD ((0 : Nat) : Int) = 0 := by
      rcases hm1 with rfl | ⟨rfl, _⟩
      · rfl
      · exact z2
    have hb := run_sliceBounds (P := P) (w := w) (isSlice := true) (len := 0) (cap := 0) h1 h2 h3 hmh (Nat.le_refl _) (by omega) (by omega) (by omega) (by omega)
    refine ⟨.slice ad 0 0, ?_, ?_⟩
    · simp only [Instr.sliceAt, Instr.slice, Sem.run_bind, run_underlying hu, Result.andThen_ok, hb, run_sizeOf hi', Sem.run_pure]
      rw [z1, z2, z3]
      simp
    · rw [show (hi.getD ((0 : Nat) : Int) - lo.getD 0).toNat = 0 by omega]
      exact .slZero ad
  · have hmc : hi.getD len ≤ mx.getD c' ∧ mx.getD c' ≤ c' := by
      rcases hm1 with rfl | ⟨rfl, _⟩
      · simp only [Option.getD_none]; omega
      · simp only [Option.getD_some]; omega
    have hb := run_sliceBounds (P := P) (w := w) (isSlice := true) (len := len) (cap := c') h1 h2 h3 hmh hcap a0 a1 hmc.1 hmc.2
    have hrun : (Instr.sliceAt t (.slice (some ⟨lc.b, lc.o + off, none⟩) len c') lo' hi2 mx').run P w = .ok (.slice (if (mx.getD c').toNat = (lo.getD 0).toNat then some ⟨lc.b, lc.o + off, none⟩ else some ⟨lc.b, lc.o + off + (lo.getD 0).toNat * inf.size, none⟩)
        ((hi.getD len).toNat - (lo.getD 0).toNat) ((mx.getD c').toNat - (lo.getD 0).toNat)) w := by
      simp only [Instr.sliceAt, Instr.slice, Sem.run_bind, run_underlying hu, Result.andThen_ok, hb, run_sizeOf hi', Sem.run_pure, Option.map_some, addr_add]
    refine ⟨_, hrun, ?_⟩
    rw [show (hi.getD len - lo.getD 0).toNat = (hi.getD len).toNat - (lo.getD 0).toNat by omega]
    by_cases hz : (mx.getD c').toNat = (lo.getD 0).toNat
    · rw [if_pos hz, show (hi.getD len).toNat - (lo.getD 0).toNat = 0 by omega, show (mx.getD c').toNat - (lo.getD 0).toNat = 0 by omega]
      exact .slZero _
    · rw [if_neg hz, Nat.add_assoc]
      refine .sl hl (by omega) (by omega) (fun e => ?_) (fun e => ?_)
      · rcases hm2 e with rfl | ⟨rfl, rfl, rfl⟩
        · simp only [Option.getD_some]
        · have := ht rfl
          simp only [Option.getD_none]; omega
      · obtain ⟨rfl, rfl, b, hb, hes⟩ := hm3 e
        have hroom := ha rfl
        rcases hr.live id b hb with ⟨p1, _⟩ | ⟨l', p1, cc, T, fr, q1, q2, q3, q4, q5, q6⟩
        · rw [hl] at p1; cases p1
        · rw [hl] at p1
          simp only [Option.some.injEq] at p1
          subst p1
          rw [← hes, q3]
          simp only [Option.getD_none, Int.toNat_natCast] at hz hmc ⊢
          have h9 : (lo.getD 0).toNat ≤ c' := by omega
          have : (lo.getD 0).toNat * lc.es + (c' - (lo.getD 0).toNat) * lc.es = c' * lc.es := by rw [← Nat.add_mul]; congr 1; omega
          omega

theorem bif_some {x y : Out} {q : Bool} (hq : (bif q then x else y) = some out) : (q = true ∧ x = some out) ∨ (q = false ∧ y = some out) := by
  cases q
  · exact .inr ⟨rfl, hq⟩
  · exact .inl ⟨rfl, hq⟩

theorem bif_none {x : Out} {q : Bool} (hq : (bif q then x else none) = some out) : q = true ∧ x = some out := by
  cases q
  · cases hq
  · exact ⟨rfl, hq⟩

theorem sliceK_some {t : TypeId} {v : Value} {lo hi mx : Option Int} {kk : Value → Out} (hk : sliceK P h t v lo hi mx kk = some out) : ∃ v2, kk v2 = some out ∧ SlS P h t v lo hi mx v2 := by
  unfold sliceK at hk
  split at hk
  · rename_i str hu
    split at hk
    · cases hk
    · obtain ⟨hc, hk⟩ := bif_none hk
      simp only [Bool.and_eq_true, decide_eq_true_eq] at hc
      exact ⟨_, hk, sl_string hu hc.1.1 hc.1.2 hc.2⟩
  · rename_i elem id off len c hu
    split at hk
    · cases hk
    · rename_i inf hi'
      obtain ⟨hc, hk⟩ := bif_none hk
      simp only [Bool.and_eq_true, decide_eq_true_eq] at hc
      have app : (Nat.beq c 1 && (match getB h id with | some b => Nat.beq b.es inf.size | none => false)) = true → c = 1 ∧ ∃ b, h[id]? = some (some b) ∧ b.es = inf.size := by
        intro hq
        rw [Bool.and_eq_true] at hq
        refine ⟨beq_true hq.1, ?_⟩
        have := hq.2
        split at this
        · rename_i b hb; exact ⟨b, getB_some hb, beq_true this⟩
        · cases this
      split at hk
      · split at hk
        · obtain ⟨e, hk⟩ := bif_none hk
          simp only [decide_eq_true_eq] at e
          exact ⟨_, hk, sl_sl hu hi' hc.1.1 hc.1.2 hc.2 (.inr ⟨congrArg some e, by simp⟩) (fun _ => .inl (congrArg some e)) (fun x => by cases x)⟩
        · cases hk
      · split at hk
        · rcases bif_some hk with ⟨e, hk⟩ | ⟨_, hk⟩
          · exact ⟨_, hk, sl_sl hu hi' hc.1.1 hc.1.2 hc.2 (.inl rfl) (fun _ => .inr ⟨rfl, rfl, beq_true e⟩) (fun x => by cases x)⟩
          · rcases bif_some hk with ⟨e, hk⟩ | ⟨_, hk⟩
            · obtain ⟨q1, q2⟩ := app e
              exact ⟨_, hk, sl_sl hu hi' hc.1.1 hc.1.2 hc.2 (.inl rfl) (fun x => by cases x) (fun _ => ⟨rfl, q1, q2⟩)⟩
            · exact ⟨_, hk, sl_sl hu hi' hc.1.1 hc.1.2 hc.2 (.inl rfl) (fun x => by cases x) (fun x => by cases x)⟩
        · rcases bif_some hk with ⟨e, hk⟩ | ⟨_, hk⟩
          · obtain ⟨q1, q2⟩ := app e
            exact ⟨_, hk, sl_sl hu hi' hc.1.1 hc.1.2 hc.2 (.inl rfl) (fun x => by cases x) (fun _ => ⟨rfl, q1, q2⟩)⟩
          · exact ⟨_, hk, sl_sl hu hi' hc.1.1 hc.1.2 hc.2 (.inl rfl) (fun x => by cases x) (fun x => by cases x)⟩
  · rename_i elem hu
    split at hk
    · cases hk
    · rename_i inf hi'
      split at hk
      · cases hk
      · obtain ⟨hc, hk⟩ := bif_none hk
        simp only [Bool.and_eq_true, decide_eq_true_eq] at hc
        exact ⟨_, hk, sl_nil hu hi' hc.1 hc.2⟩
  · rename_i m2 elem id off hu
    split at hk
    · cases hk
    · rename_i inf hi'
      split at hk
      · cases hk
      · obtain ⟨hc, hk⟩ := bif_none hk
        simp only [Bool.and_eq_true, decide_eq_true_eq] at hc
        exact ⟨_, hk, sl_arr hu hi' hc.1.1.1 hc.1.1.2 hc.1.2 hc.2⟩
  · cases hk

theorem op_slice {t : TypeId} {x : Operand} {lo hi mx : Option Operand} (ho : o.op = .slice t x lo hi mx) (hk : opK P S s h (.slice t x lo hi mx) k = some out) : OpOut P S n s h o k out := by
  simp only [opK] at hk
  split at hk
  · rename_i v l hh m h1 h2 h3 h4
    split at hk
    · rename_i l hh m h5 h6 h7
      obtain ⟨v2, q1, q2⟩ := sliceK_some hk
      refine .pure q1 fun ι base w a hs hr => ?_
      obtain ⟨v2', p1, p2⟩ := q2 ι base w _ _ _ _ hr (opnd_VR hs h1) (boundI_BR h5 (opnd?_VR hs h2)) (boundI_BR h6 (opnd?_VR hs h3)) (boundI_BR h7 (opnd?_VR hs h4))
      exact ⟨v2', by simp only [execOp, ho, Sem.run_bind, p1, Result.andThen_ok, Sem.run_pure], p2⟩
    · cases hk
  · cases hk
end
end Go.Proofs.Ytfgehfnlkakioaa.VC
