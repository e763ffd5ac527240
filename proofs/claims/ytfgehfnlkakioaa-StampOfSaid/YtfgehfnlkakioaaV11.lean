/- Slices. -/
import Derived.Test.YtfgehfnlkakioaaV10
import Derived.Laws.Append
namespace Go.Proofs.Ytfgehfnlkakioaa.VC
open Go

section
variable {P : Program} {S : Spec} {n : Nat} {s : Slots} {h : Heap} {o : Oper} {k : Value → Heap → Out} {out : Res}

theorem op_buildSlice {t : TypeId} {len : Nat} {parts : Array (Nat × Operand)} (ho : o.op = .buildSlice t len parts) (hk : opK P S s h (.buildSlice t len parts) k = some out) : OpOut P S n s h o k out := by
  simp only [opK] at hk
  split at hk
  · rename_i elem ps hu hps
    split at hk
    · rename_i ie hie
      split at hk
      · rename_i z hz
        cases hc : z.cells.toList.all (fun v => plainV 6 v && isCell v) && decide (len * ie.size ≤ 2 ^ 24) && Nat.ble 1 ie.size && Nat.beq z.cells.size ie.size && ps.all (fun q => q.2.cells.toList.all isCell) with
        | false => rw [hc] at hk; cases hk
        | true =>
          rw [hc, cond_true] at hk
          simp only [Bool.and_eq_true, decide_eq_true_eq] at hc
          obtain ⟨⟨⟨⟨hp, hl⟩, h1⟩, hzs⟩, _⟩ := hc
          have h1 := ble_true h1
          have hzs := beq_true hzs
          split at hk
          · rename_i cs hcs
            refine ⟨_, _, hk, OpS_push fun ι base w a hs hr => ?_, by simp, fun _ => ⟨_, rfl⟩⟩
            have hz0 : VRs ι ((Array.range (len * ie.size)).map (z.cells[· % z.cells.size]!)).toList ((Array.range (len * ie.size)).map (z.cells[· % z.cells.size]!)).toList := by
              refine ⟨rfl, fun i v v' x1 x2 => ?_⟩
              rw [x1] at x2
              cases x2
              rw [Array.getElem?_toList, Array.getElem?_map] at x1
              obtain ⟨j, _, rfl⟩ := Option.map_eq_some_iff.1 x1
              have hj : j % z.cells.size < z.cells.size := Nat.mod_lt _ (by omega)
              have e : z.cells[j % z.cells.size]! = z.cells[j % z.cells.size] := by simp [hj]
              rw [e]
              have hm : z.cells[j % z.cells.size] ∈ z.cells.toList := by simp
              have := List.all_eq_true.1 hp _ hm
              rw [Bool.and_eq_true] at this
              exact plainV_VR ι 6 this.1
            obtain ⟨cs', f1, f2⟩ := fill_VR hcs (partsV_PRs hs hps) hz0
            obtain ⟨g1, g2⟩ := group_cells f2
            have f1' : Instr.fill (fun i => some (i * ie.size, ie.size)) ((Array.range (len * ie.size)).map (z.cells[· % z.cells.size]!)) ((parts.map fun (i, x) => (i, a.eval x)).toList) = some cs' := by
              rw [Array.toList_map]; exact f1
            refine ⟨.slice (some ⟨w.heap.size, 0, none⟩) len len, cs', elem, { w with heap := w.heap.push (.cells cs' elem) }, ?_, rfl, ⟨rfl, rfl, rfl⟩, g1, g2, fun ι' hl' => ?_⟩
            · have hA : ∀ (zero : Array Value), (len * ie.size = 0 ∨ zero = z.cells) → (Array.range (len * ie.size)).map (zero[· % zero.size]!) = (Array.range (len * ie.size)).map (z.cells[· % z.cells.size]!) := by
                rintro zero (e | rfl)
                · exact Array.ext (by simp) (fun i h => by simp [e] at h)
                · rfl
              simp only [execOp, ho, Instr.buildSlice, Sem.run_bind, run_underlying hu, Result.andThen_ok, run_sizeOf hie]
              rw [if_neg (by omega)]
              by_cases h0 : len * ie.size = 0
              · rw [if_pos h0]
                simp only [Sem.run_bind, Sem.run_pure, Result.andThen_ok]
                rw [hA #[] (.inl h0), f1']
                rfl
              · rw [if_neg h0]
                simp only [Sem.run_bind, Sem.run_pure, Result.andThen_ok, run_zeroValue hie hz]
                rw [f1']
                rfl
            · have hle : len ≤ len * ie.size := Nat.le_mul_of_pos_right _ (by omega)
              have h24 : (2 : Nat) ^ 24 = 16777216 := by decide
              exact .sl (l := ⟨w.heap.size, 0, cs'.size, ie.size⟩) hl' (by omega) (Nat.le_refl _) (fun _ => rfl) (fun h => by omega)
          · cases hk
      · cases hk
    · cases hk
  · cases hk

theorem run_sliceBound {w : World} {k : IntKind} {i : Int} {y : Nat} {code : BoundsCode} (hh : 0 ≤ i ∧ i ≤ y) : (Instr.sliceBound (.int k i) y code).run P w = .ok i.toNat w := by
  simp [Instr.sliceBound, asIntOf, hh.1, hh.2]

/-- An end of a range, abstract and real. -/
def BR (i : Option Int) (v : Option Value) : Prop := (i = none ∧ v = none) ∨ ∃ k x, i = some x ∧ v = some (.int k x)

theorem run_sliceBounds {w : World} {isSlice : Bool} {len cap : Nat} {lo hi mx : Option Int} {lo' hi' mx' : Option Value} (h1 : BR lo lo') (h2 : BR hi hi') (h3 : BR mx mx') (hm : mx ≠ none → hi ≠ none)
    (_hl : len ≤ cap) (a0 : 0 ≤ lo.getD 0) (a1 : lo.getD 0 ≤ hi.getD len) (a2 : hi.getD len ≤ mx.getD cap) (a3 : mx.getD cap ≤ cap) :
    (Instr.sliceBounds isSlice len cap lo' hi' mx').run P w = .ok ((lo.getD 0).toNat, (hi.getD len).toNat, (mx.getD cap).toNat) w := by
  unfold Instr.sliceBounds
  rcases h3 with ⟨rfl, rfl⟩ | ⟨k3, x3, rfl, rfl⟩ <;> rcases h2 with ⟨rfl, rfl⟩ | ⟨k2, x2, rfl, rfl⟩ <;> rcases h1 with ⟨rfl, rfl⟩ | ⟨k1, x1, rfl, rfl⟩ <;>
    simp only [Option.getD_none, Option.getD_some] at a0 a1 a2 a3 ⊢
  · simp
  · simp only [Sem.run_bind, Sem.run_pure, Result.andThen_ok, run_sliceBound (show 0 ≤ x1 ∧ x1 ≤ (len : Int) by omega)]
    simp
  · simp only [Sem.run_bind, Sem.run_pure, Result.andThen_ok, run_sliceBound (show 0 ≤ x2 ∧ x2 ≤ (cap : Int) by omega)]
    simp
  · simp only [Sem.run_bind, Sem.run_pure, Result.andThen_ok, run_sliceBound (show 0 ≤ x2 ∧ x2 ≤ (cap : Int) by omega), run_sliceBound (show 0 ≤ x1 ∧ x1 ≤ ((x2.toNat : Nat) : Int) by omega)]
    simp
  · exact (hm (by simp) rfl).elim
  · exact (hm (by simp) rfl).elim
  · simp only [Sem.run_bind, Sem.run_pure, Result.andThen_ok, run_sliceBound (show 0 ≤ x3 ∧ x3 ≤ (cap : Int) by omega), run_sliceBound (show 0 ≤ x2 ∧ x2 ≤ ((x3.toNat : Nat) : Int) by omega)]
    simp
  · simp only [Sem.run_bind, Sem.run_pure, Result.andThen_ok, run_sliceBound (show 0 ≤ x3 ∧ x3 ≤ (cap : Int) by omega), run_sliceBound (show 0 ≤ x2 ∧ x2 ≤ ((x3.toNat : Nat) : Int) by omega),
      run_sliceBound (show 0 ≤ x1 ∧ x1 ≤ ((x2.toNat : Nat) : Int) by omega)]

theorem boundI_BR {v : Option Value} {i : Option Int} (hv : boundI v = some i) {ι : Map} {x : Option Operand} {a : Act} (hx : (x = none ∧ v = none) ∨ ∃ o u, x = some o ∧ v = some u ∧ VR ι u (a.eval o)) :
    BR i (x.map a.eval) := by
  rcases hx with ⟨rfl, rfl⟩ | ⟨o, u, rfl, rfl, hu⟩
  · simp [boundI] at hv; exact .inl ⟨hv.symm, rfl⟩
  · cases u <;> simp [boundI] at hv
    subst hv
    exact .inr ⟨_, _, rfl, congrArg some hu.int_inv.1⟩

end
end Go.Proofs.Ytfgehfnlkakioaa.VC
