/- Operations: the rest of those on values, and slices. -/
import Derived.Test.YtfgehfnlkakioaaV9
namespace Go.Proofs.Ytfgehfnlkakioaa.VC
open Go

section
variable {P : Program} {S : Spec} {n : Nat} {s : Slots} {h : Heap} {o : Oper} {k : Value → Heap → Out} {out : Res}

theorem op_binOp {op : BinOp} {t u : TypeId} {x y : Operand} (ho : o.op = .binOp op t x y u) (hk : opK P S s h (.binOp op t x y u) k = some out) : OpOut P S n s h o k out := by
  simp only [opK] at hk
  split at hk
  · rename_i a b h1 h2
    obtain ⟨v, q1, q2⟩ := binK_some hk
    refine .pure q1 fun ι base w ac hs hr => ?_
    obtain ⟨p1, p2, p3⟩ := q2 ι _ _ x y w (opnd_VR hs h1) (opnd_VR hs h2)
    exact ⟨v, by simp [execOp, ho, p1, p2], p3⟩
  · cases hk

theorem op_unOp {op : UnOp} {t : TypeId} {x : Operand} (ho : o.op = .unOp op t x) (hk : opK P S s h (.unOp op t x) k = some out) : OpOut P S n s h o k out := by
  simp only [opK] at hk
  split at hk
  · rename_i a h1
    unfold unK at hk
    split at hk
    · refine .pure hk fun ι base w ac hs hr => ⟨_, ?_, .int _ _ (wrap_within _ _)⟩
      simp [execOp, ho, (opnd_VR hs h1).int_inv.1, Op.unary, Op.intArith]
    · refine .pure hk fun ι base w ac hs hr => ⟨_, ?_, .int _ _ (bits_within _ _ _ _)⟩
      simp [execOp, ho, (opnd_VR hs h1).int_inv.1, Op.unary, Op.intBits, Go.bits]
    · refine .pure hk fun ι base w ac hs hr => ⟨_, ?_, .bool _⟩
      simp [execOp, ho, (opnd_VR hs h1).bool_inv, Op.unary]
    · cases hk
  · cases hk

theorem op_convert {src dst : TypeId} {x : Operand} (ho : o.op = .convert src dst x) (hk : opK P S s h (.convert src dst x) k = some out) : OpOut P S n s h o k out := by
  simp only [opK] at hk
  split at hk
  · rename_i a h1
    unfold convK at hk
    split at hk
    · rename_i d ik k2 m hu hd
      refine .pure hk fun ι base w ac hs hr => ⟨_, ?_, .int _ _ (wrap_within _ _)⟩
      cases d <;> simp [execOp, ho, (opnd_VR hs h1).int_inv.1, convert, run_underlying hu, run_underlying hd, Conv.intToInt]
    · rename_i d str hu hd
      refine .pure hk fun ι base w ac hs hr => ⟨.string str, ?_, .string _ (opnd_VR hs h1).string_inv.2⟩
      cases d <;> simp [execOp, ho, (opnd_VR hs h1).string_inv.1, convert, run_underlying hu, run_underlying hd]
    · cases hk
  · cases hk

/-! ### parts put together -/
theorem fold_VR {ι : Map} {off : Nat} : ∀ (l l' : List Value) (j : Nat) (cs cs' : Array Value), VRs ι l l' → VRs ι cs.toList cs'.toList →
    VRs ι ((l.zipIdx j).foldl (fun cs (p : Value × Nat) => cs.setIfInBounds (off + p.2) p.1) cs).toList ((l'.zipIdx j).foldl (fun cs (p : Value × Nat) => cs.setIfInBounds (off + p.2) p.1) cs').toList
  | [], [], j, cs, cs', _, hc => by simpa using hc
  | [], y :: ys, j, cs, cs', hl, _ => by simp [VRs] at hl
  | x :: xs, [], j, cs, cs', hl, _ => by simp [VRs] at hl
  | x :: xs, y :: ys, j, cs, cs', hl, hc => by
    simp only [List.zipIdx_cons, List.foldl_cons]
    refine fold_VR xs ys (j + 1) _ _ hl.tail ⟨by simpa using hc.1, fun i v v' h1 h2 => ?_⟩
    rw [Array.getElem?_toList] at h1 h2
    by_cases e : off + j = i
    · subst e
      rw [Array.getElem?_setIfInBounds] at h1 h2
      simp only [if_true] at h1 h2
      split at h1
      · split at h2
        · cases h1; cases h2; exact hl.head
        · cases h2
      · cases h1
    · rw [Array.getElem?_setIfInBounds_ne e] at h1 h2
      exact hc.2 i v v' (by simpa using h1) (by simpa using h2)

/-- Parts at places, abstract and real. -/
def PRs (ι : Map) (l l' : List (Nat × Value)) : Prop := l.map (·.1) = l'.map (·.1) ∧ VRs ι (l.map (·.2)) (l'.map (·.2))

theorem fill_VR {ι : Map} {place : Nat → Option (Nat × Nat)} : ∀ {l l' : List (Nat × Value)} {cs cs' cs1 : Array Value}, Instr.fill place cs l = some cs1 → PRs ι l l' → VRs ι cs.toList cs'.toList →
    ∃ cs1', Instr.fill place cs' l' = some cs1' ∧ VRs ι cs1.toList cs1'.toList
  | [], [], cs, cs', cs1, hf, _, hc => by simp [Instr.fill] at hf; subst hf; exact ⟨cs', rfl, hc⟩
  | [], y :: ys, cs, cs', cs1, hf, hl, _ => by simp [PRs] at hl
  | x :: xs, [], cs, cs', cs1, hf, hl, _ => by simp [PRs] at hl
  | (i, v) :: xs, (i', v') :: ys, cs, cs', cs1, hf, hl, hc => by
    obtain ⟨h1, h2⟩ := hl
    simp only [List.map_cons, List.cons.injEq] at h1 h2
    obtain ⟨rfl, h1⟩ := h1
    have hv := h2.head.cells
    have hvs : v.cells.size = v'.cells.size := by simpa using hv.1
    have hcs : cs.size = cs'.size := by simpa using hc.1
    simp only [Instr.fill] at hf ⊢
    split at hf
    · cases hf
    · rename_i off size hp
      split at hf
      · cases hf
      · rename_i hno
        rw [if_neg (by rw [← hvs, ← hcs]; exact hno)]
        refine fill_VR hf ⟨h1, h2.tail⟩ ?_
        have := fold_VR (off := off) v.cells.toList v'.cells.toList 0 cs cs' hv hc
        rw [← Array.foldl_toList, ← Array.foldl_toList, Array.toList_zipIdx, Array.toList_zipIdx]
        exact this

theorem partsV_PRs {ι : Map} {a : Act} (hs : SR ι n s a) : ∀ {l : List (Nat × Operand)} {ps : List (Nat × Value)}, partsV s l = some ps → PRs ι ps (l.map fun (i, x) => (i, a.eval x))
  | [], ps, hp => by simp [partsV] at hp; subst hp; exact ⟨rfl, VRs.nil⟩
  | (i, x) :: r, ps, hp => by
    simp only [partsV] at hp
    split at hp
    · rename_i v hv
      split at hp
      · rename_i l hl
        simp only [Option.some.injEq] at hp; subst hp
        obtain ⟨g1, g2⟩ := partsV_PRs hs hl
        exact ⟨by simpa using g1, by simpa using VRs.cons (opnd_VR hs hv) g2⟩
      · cases hp
    · cases hp

theorem sizesOf_run {w : World} : ∀ {l : List Field} {pl : List (Nat × Nat)}, sizesOf P l = some pl → (l.mapM fun f => (do pure (f.offset, ← sizeOf f.type) : Sem (Nat × Nat))).run P w = .ok pl w
  | [], pl, hp => by simp [sizesOf] at hp; subst hp; simp
  | f :: r, pl, hp => by
    simp only [sizesOf] at hp
    split at hp
    · rename_i i hi
      split at hp
      · rename_i l hl
        simp only [Option.some.injEq] at hp; subst hp
        have := sizesOf_run (w := w) hl
        simp [List.mapM_cons, run_sizeOf hi] at this ⊢
        rw [this]
        rfl
      · cases hp
    · cases hp

theorem plain_refl (ι : Map) {z : Value} (hz : z.cells.toList.all (plainV 6) = true) : VRs ι z.cells.toList z.cells.toList :=
  ⟨rfl, fun i v v' h1 h2 => by
    rw [h1] at h2
    cases h2
    exact plainV_VR ι 6 (List.all_eq_true.1 hz v (List.mem_of_getElem? h1))⟩

theorem op_build {t : TypeId} {parts : Array (Nat × Operand)} (ho : o.op = .build t parts) (hk : opK P S s h (.build t parts) k = some out) : OpOut P S n s h o k out := by
  simp only [opK] at hk
  split at hk
  · rename_i i ps hi hps
    split at hk
    · rename_i z fs hz hu
      split at hk
      · rename_i pl hpl
        cases hpz : z.cells.toList.all (plainV 6) with
        | false => rw [hpz] at hk; cases hk
        | true =>
          rw [hpz, cond_true] at hk
          split at hk
          · rename_i cs hcs
            refine .pure hk fun ι base w a hs hr => ?_
            obtain ⟨cs', f1, f2⟩ := fill_VR hcs (partsV_PRs hs hps) (plain_refl ι hpz)
            have hm : (fs.mapM fun f => (do pure (f.offset, ← sizeOf f.type) : Sem (Nat × Nat))).run P w = .ok pl.toArray w := by
              rw [← Array.toArray_toList (xs := fs), List.mapM_toArray, Sem.run_map, sizesOf_run (w := w) hpl]
              rfl
            refine ⟨.agg cs', ?_, VRs.agg f2⟩
            have f1' : Instr.fill (fun x => pl.toArray[x]?) z.cells ((parts.map fun (i, x) => (i, a.eval x)).toList) = some cs' := by
              rw [Array.toList_map]; exact f1
            simp only [execOp, ho, Instr.build, Sem.run_bind, run_zeroValue hi hz, Result.andThen_ok, run_underlying hu, hm, f1', Sem.run_pure]
          · cases hk
      · cases hk
    · rename_i z m elem hz hu
      split at hk
      · rename_i ie hie
        cases hpz : z.cells.toList.all (plainV 6) with
        | false => rw [hpz] at hk; cases hk
        | true =>
          rw [hpz, cond_true] at hk
          split at hk
          · rename_i cs hcs
            refine .pure hk fun ι base w a hs hr => ?_
            obtain ⟨cs', f1, f2⟩ := fill_VR hcs (partsV_PRs hs hps) (plain_refl ι hpz)
            refine ⟨.agg cs', ?_, VRs.agg f2⟩
            have f1' : Instr.fill (fun j => some (j * ie.size, ie.size)) z.cells ((parts.map fun (i, x) => (i, a.eval x)).toList) = some cs' := by
              rw [Array.toList_map]; exact f1
            simp only [execOp, ho, Instr.build, Sem.run_bind, run_zeroValue hi hz, Result.andThen_ok, run_underlying hu, run_sizeOf hie, f1', Sem.run_pure]
          · cases hk
      · cases hk
    · cases hk
  · cases hk

end
end Go.Proofs.Ytfgehfnlkakioaa.VC
