/- The document's numbers: words, bits. -/
import Derived.Test.YtfgehfnlkakioaaR1
namespace Go.Proofs.Ytfgehfnlkakioaa.VC
open Go Go.Proofs

/-- A read-only block of words. -/
abbrev wb (n : Nat) (xs : List Int) : Option Blk := some ⟨false, 1, [.ints .u64 n xs]⟩
abbrev sl (id n c : Nat) : Value := .slice (some ⟨id, 0, none⟩) n c

/-- The word at a place of the first n numbers. -/
def wordAt (n : Nat) (xs : List Int) (p : Int) : Int := if p < n then xs.getD p.toNat 0 else 0

def F95 : FSpec := fun args h k => match args, h with
  | [.slice (some ⟨0, 0, none⟩) n _, .int .i64 p], [some ⟨false, 1, [.ints .u64 m xs]⟩] =>
    bif Nat.ble n m && decide (0 ≤ p) then k (.int .u64 (wordAt n xs p)) [some ⟨false, 1, [.ints .u64 m xs]⟩] else none
  | _, _ => none

--CF cf95 (n c m : Nat) (xs : List Int) (p : Int) :: fnK Try.prog (mkS []) noL Try.f95 [sl 0 n c, .int .i64 p] [wb m xs]
theorem cf95 (n c m : Nat) (xs : List Int) (p : Int) : fnK Try.prog (mkS []) noL Try.f95 [sl 0 n c, .int .i64 p] [wb m xs] =
    (bif decide (p < ↑n) then
       bif decide (0 ≤ p) && decide (p < ↑n) then
         bif (0 + p.toNat * 1).blt m then
           some
             (Res.ret (Value.int IntKind.u64 (xs.getD (0 + p.toNat * 1) 0))
               [some { own := false, es := 1, segs := [Seg.ints IntKind.u64 m xs] }])
         else none
       else none
     else some (Res.ret (Value.int IntKind.u64 0) [some { own := false, es := 1, segs := [Seg.ints IntKind.u64 m xs] }])) := by kernel_rfl
--CFEND

theorem segs1 {args : List Value} {h : Heap} (hr : RealA args h) {i : Nat} {own : Bool} {es n : Nat} {k : IntKind} {xs : List Int} (hb : h[i]? = some (some ⟨own, es, [.ints k n xs]⟩)) : xs.length = n ∧ ∀ x ∈ xs, k.min ≤ x ∧ x ≤ k.max :=
  hr.segs hb _ (List.mem_cons_self ..)

theorem ok95 : EntryOK Try.prog 95 F95 := by
  refine EntryOK.of_fn (mkS_nil _) follows_ok Try.func95 (by kernel_rfl) (by kernel_rfl) ?_
  intro args h k out hF
  unfold F95 at hF
  split at hF
  · rename_i n c p m xs
    cases hb : (Nat.ble n m && decide (0 ≤ p)) with
    | false => rw [hb] at hF; cases hF
    | true =>
      rw [hb] at hF
      simp only [Bool.and_eq_true, decide_eq_true_eq] at hb
      obtain ⟨hb1, hb2⟩ := hb
      have hb1 := ble_true hb1
      refine ⟨_, _, hF, fun real => ⟨noL, noL_ok, ?_⟩⟩
      rw [cf95]
      unfold wordAt
      refine dc (fun c1 => ?_) (fun c1 => ?_)
      · rw [decide_eq_true hb2, decide_eq_true c1]
        have e : p.toNat.blt m = true := Nat.ble_eq_true_of_le (by omega)
        simp only [Bool.and_self, cond_true, Nat.zero_add, Nat.mul_one, e, if_pos c1]
      · rw [if_neg c1]
  · cases hF
end Go.Proofs.Ytfgehfnlkakioaa.VC
