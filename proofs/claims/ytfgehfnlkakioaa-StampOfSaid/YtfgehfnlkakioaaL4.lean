/- The law SatLaws. -/
import Derived.Test.YtfgehfnlkakioaaS2
namespace Go.Proofs.Ytfgehfnlkakioaa.VC
open Go Go.Proofs

def Ssat : Spec := mkS [(19, false, F19), (21, false, F21), (23, false, F23), (24, false, F24), (25, false, F25), (26, false, F26)]
theorem Ssat_ok : SpecOK Try.prog Ssat := mkS_cons ok19 (mkS_cons ok21 (mkS_cons ok23 (mkS_cons ok24 (mkS_cons ok25 (mkS_cons ok26 (mkS_nil _))))))
--CF cf4 (a b d : Int) :: fnK Try.prog Ssat noL Try.f4 [.int .i64 a, .int .i64 b, .int .i64 d] []
theorem cf4 (a b d : Int) : fnK Try.prog Ssat noL Try.f4 [.int .i64 a, .int .i64 b, .int .i64 d] [] =
    (bif hold (a + b) != hold (b + a) then some (Res.ret (Value.bool false) [])
     else
       bif hold (a * b) != hold (b * a) then some (Res.ret (Value.bool false) [])
       else
         bif hold (a - a) != 0 then some (Res.ret (Value.bool false) [])
         else
           bif downI a b d != downI b a d then some (Res.ret (Value.bool false) [])
           else
             bif upI a b d != downI a b d then
               bif upI a b d != IntKind.i64.wrap (downI a b d + 1) then some (Res.ret (Value.bool false) [])
               else
                 bif decide (d > 0) then
                   bif downI a d d != a then some (Res.ret (Value.bool false) [])
                   else
                     bif decide (d > 0) then
                       bif upI a d d != a then some (Res.ret (Value.bool false) [])
                       else
                         bif upI a b d == hold (-downI (hold (-a)) b d) then some (Res.ret (Value.bool true) [])
                         else
                           bif a == -9223372036854775808 then some (Res.ret (Value.bool true) [])
                           else
                             bif upI a b d == -9223372036854775808 then some (Res.ret (Value.bool true) [])
                             else some (Res.ret (Value.bool (upI a b d == 9223372036854775807)) [])
                     else
                       bif upI a b d == hold (-downI (hold (-a)) b d) then some (Res.ret (Value.bool true) [])
                       else
                         bif a == -9223372036854775808 then some (Res.ret (Value.bool true) [])
                         else
                           bif upI a b d == -9223372036854775808 then some (Res.ret (Value.bool true) [])
                           else some (Res.ret (Value.bool (upI a b d == 9223372036854775807)) [])
                 else
                   bif decide (d > 0) then
                     bif upI a d d != a then some (Res.ret (Value.bool false) [])
                     else
                       bif upI a b d == hold (-downI (hold (-a)) b d) then some (Res.ret (Value.bool true) [])
                       else
                         bif a == -9223372036854775808 then some (Res.ret (Value.bool true) [])
                         else
                           bif upI a b d == -9223372036854775808 then some (Res.ret (Value.bool true) [])
                           else some (Res.ret (Value.bool (upI a b d == 9223372036854775807)) [])
                   else
                     bif upI a b d == hold (-downI (hold (-a)) b d) then some (Res.ret (Value.bool true) [])
                     else
                       bif a == -9223372036854775808 then some (Res.ret (Value.bool true) [])
                       else
                         bif upI a b d == -9223372036854775808 then some (Res.ret (Value.bool true) [])
                         else some (Res.ret (Value.bool (upI a b d == 9223372036854775807)) [])
             else
               bif decide (d > 0) then
                 bif downI a d d != a then some (Res.ret (Value.bool false) [])
                 else
                   bif decide (d > 0) then
                     bif upI a d d != a then some (Res.ret (Value.bool false) [])
                     else
                       bif upI a b d == hold (-downI (hold (-a)) b d) then some (Res.ret (Value.bool true) [])
                       else
                         bif a == -9223372036854775808 then some (Res.ret (Value.bool true) [])
                         else
                           bif upI a b d == -9223372036854775808 then some (Res.ret (Value.bool true) [])
                           else some (Res.ret (Value.bool (upI a b d == 9223372036854775807)) [])
                   else
                     bif upI a b d == hold (-downI (hold (-a)) b d) then some (Res.ret (Value.bool true) [])
                     else
                       bif a == -9223372036854775808 then some (Res.ret (Value.bool true) [])
                       else
                         bif upI a b d == -9223372036854775808 then some (Res.ret (Value.bool true) [])
                         else some (Res.ret (Value.bool (upI a b d == 9223372036854775807)) [])
               else
                 bif decide (d > 0) then
                   bif upI a d d != a then some (Res.ret (Value.bool false) [])
                   else
                     bif upI a b d == hold (-downI (hold (-a)) b d) then some (Res.ret (Value.bool true) [])
                     else
                       bif a == -9223372036854775808 then some (Res.ret (Value.bool true) [])
                       else
                         bif upI a b d == -9223372036854775808 then some (Res.ret (Value.bool true) [])
                         else some (Res.ret (Value.bool (upI a b d == 9223372036854775807)) [])
                 else
                   bif upI a b d == hold (-downI (hold (-a)) b d) then some (Res.ret (Value.bool true) [])
                   else
                     bif a == -9223372036854775808 then some (Res.ret (Value.bool true) [])
                     else
                       bif upI a b d == -9223372036854775808 then some (Res.ret (Value.bool true) [])
                       else some (Res.ret (Value.bool (upI a b d == 9223372036854775807)) [])) := by kernel_rfl
--CFEND

theorem bc {b : Bool} {α : Type} {x y z : α} (h1 : b = true → x = z) (h2 : b = false → y = z) : (bif b then x else y) = z := by
  cases b
  · exact h2 rfl
  · exact h1 rfl

theorem hold_id {z : Int} (h : -9223372036854775808 ≤ z ∧ z ≤ 9223372036854775807) : hold z = z := by unfold hold; (repeat' split) <;> omega

/-- The fixed parts of the law. -/
theorem laws_plain {a b d : Int} (ha : -9223372036854775808 ≤ a ∧ a ≤ 9223372036854775807) :
    (upI a b d = downI a b d ∨ upI a b d = IntKind.i64.wrap (downI a b d + 1)) ∧ (d > 0 → downI a d d = a ∧ upI a d d = a) ∧
    (upI a b d = hold (-downI (hold (-a)) b d) ∨ a = -9223372036854775808 ∨ upI a b d = -9223372036854775808 ∨ upI a b d = 9223372036854775807) := by
  refine ⟨?_, fun hd => ?_, ?_⟩
  · unfold upI downI
    by_cases hd : d ≤ 0
    · rw [if_pos hd, if_pos hd]; exact .inl rfl
    · rw [if_neg hd, if_neg hd, neg_ediv' (by omega)]
      generalize a * b / d = x
      generalize a * b % d = r
      rw [wi64e]
      unfold hold
      (repeat' split) <;> omega
  · unfold upI downI
    rw [if_neg (by omega), if_neg (by omega), Int.mul_ediv_cancel _ (by omega), ← Int.neg_mul, Int.mul_ediv_cancel _ (by omega), Int.neg_neg]
    exact ⟨hold_id ha, hold_id ha⟩
  · by_cases hm : a = -9223372036854775808
    · exact .inr (.inl hm)
    · rw [show hold (-a) = -a from hold_id (by omega)]
      unfold upI downI
      by_cases hd : d ≤ 0
      · rw [if_pos hd, if_pos hd]; exact .inl rfl
      · rw [if_neg hd, if_neg hd, Int.neg_mul]
        generalize -(a * b) / d = w
        unfold hold
        (repeat' split) <;> omega

theorem law4 {a b d : Int} (ha : -9223372036854775808 ≤ a ∧ a ≤ 9223372036854775807) : fnK Try.prog Ssat noL Try.f4 [.int .i64 a, .int .i64 b, .int .i64 d] [] = some (.ret (.bool true) []) := by
  obtain ⟨p1, p2, p3⟩ := @laws_plain a b d ha
  have last : (bif upI a b d == hold (-downI (hold (-a)) b d) then some (Res.ret (Value.bool true) [])
      else bif a == -9223372036854775808 then some (Res.ret (Value.bool true) [])
      else bif upI a b d == -9223372036854775808 then some (Res.ret (Value.bool true) [])
      else some (Res.ret (Value.bool (upI a b d == 9223372036854775807)) [])) = some (.ret (.bool true) []) := by
    refine bc (fun _ => rfl) (fun c1 => bc (fun _ => rfl) (fun c2 => bc (fun _ => rfl) (fun c3 => ?_)))
    rw [beq_eq_false_iff_ne] at c1 c2 c3
    rcases p3 with h | h | h | h
    · exact (c1 h).elim
    · exact (c2 h).elim
    · exact (c3 h).elim
    · rw [h]; rfl
  have nope : ∀ {x y : Int} {z : Out}, x = y → (x != y) = true → some (Res.ret (Value.bool false) []) = z := fun e h => by rw [e] at h; simp at h
  have ab : downI a b d = downI b a d := by unfold downI; rw [Int.mul_comm]
  have tails : (bif decide (d > 0) then
        bif upI a d d != a then some (Res.ret (Value.bool false) [])
        else
          bif upI a b d == hold (-downI (hold (-a)) b d) then some (Res.ret (Value.bool true) [])
          else bif a == -9223372036854775808 then some (Res.ret (Value.bool true) [])
          else bif upI a b d == -9223372036854775808 then some (Res.ret (Value.bool true) [])
          else some (Res.ret (Value.bool (upI a b d == 9223372036854775807)) [])
      else
        bif upI a b d == hold (-downI (hold (-a)) b d) then some (Res.ret (Value.bool true) [])
        else bif a == -9223372036854775808 then some (Res.ret (Value.bool true) [])
        else bif upI a b d == -9223372036854775808 then some (Res.ret (Value.bool true) [])
        else some (Res.ret (Value.bool (upI a b d == 9223372036854775807)) [])) = some (.ret (.bool true) []) :=
    dc (fun c => bc (nope (p2 c).2) (fun _ => last)) (fun _ => last)
  rw [cf4]
  refine bc (nope (by rw [Int.add_comm])) (fun _ => ?_)
  refine bc (nope (by rw [Int.mul_comm])) (fun _ => ?_)
  refine bc (nope (by rw [Int.sub_self]; rfl)) (fun _ => ?_)
  refine bc (nope ab) (fun _ => ?_)
  refine bc (fun c1 => ?_) (fun c1 => ?_)
  · refine bc (fun c2 => ?_) (fun _ => ?_)
    · rw [bne_iff_ne] at c1 c2
      rcases p1 with h | h
      · exact (c1 h).elim
      · exact (c2 h).elim
    · exact dc (fun c => bc (nope (p2 c).1) (fun _ => tails)) (fun _ => tails)
  · exact dc (fun c => bc (nope (p2 c).1) (fun _ => tails)) (fun _ => tails)

def F4 : FSpec := fun args h k => match args, h with
  | [.int .i64 _, .int .i64 _, .int .i64 _], [] => k (.bool true) []
  | _, _ => none
theorem ok4 : EntryOK Try.prog 4 F4 := by
  refine EntryOK.of_fn Ssat_ok follows_ok Try.func4 (by kernel_rfl) (by kernel_rfl) ?_
  intro args h k out hF
  unfold F4 at hF
  split at hF
  · exact ⟨_, _, hF, fun real => ⟨noL, noL_ok, law4 (i64r real 0 rfl)⟩⟩
  · cases hF

/-- A law, from its entry. -/
theorem law_of {P : Program} {g : FuncId} {F : FSpec} (he : EntryOK P g F) {args : Array Value} (hF : ∀ k, F args.toList [] k = k (.bool true) []) (hp : ∀ ι, VRs ι args.toList args.toList) (w : World)
    (hb : (P.funcs[g]?).any (fun fn => fn.body.isSome && !(fn.name == "runtime.NumGoroutine")) = true) : Calls P g args w fun e w' => e = .returned (.bool true) ∧ RowKit.Grown w w' := by
  obtain ⟨v, h', e, hc⟩ := he args.toList [] (fun v h => some (.ret v h)) _ (hF _)
  cases e
  exact law_plain hc hp w hb

theorem VRs.self {l : List Value} (h : ∀ v ∈ l, ∀ ι, VR ι v v) : ∀ ι, VRs ι l l := fun ι => ⟨rfl, fun i v v' a b => by
  rw [a] at b
  cases b
  exact h v (List.mem_of_getElem? a) ι⟩

theorem lit_i64 {a : Int} (w : (Lit.int .i64 a).wf = true) : IntKind.i64.min ≤ a ∧ a ≤ IntKind.i64.max := by
  simpa [Lit.wf] using w
theorem lit_u64 {a : Int} (w : (Lit.int .u64 a).wf = true) : IntKind.u64.min ≤ a ∧ a ≤ IntKind.u64.max := by
  simpa [Lit.wf] using w
end Go.Proofs.Ytfgehfnlkakioaa.VC
