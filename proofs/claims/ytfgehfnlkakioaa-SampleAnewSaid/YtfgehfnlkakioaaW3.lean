/- sample: Offer. -/
import Derived.Test.YtfgehfnlkakioaaW2
namespace Go.Proofs.Ytfgehfnlkakioaa.VC
open Go Go.Proofs

abbrev o3 (v : Int) (c : Value) (e : Int) : Value := .tuple ⟨[.int .u8 v, c, w63 e]⟩
noncomputable def mayO (r e t b n sc st se need : Int) : Bool := chk (1 ≤ r ∧ r ≤ 500 ∧ readB e t b = true ∧ sampB sc st se = true ∧ 1 ≤ need ∧ need ≤ 100 ∧ 0 ≤ n ∧ n ≤ 1000)
noncomputable def takenB (e t b st se : Int) : Bool := chk (e = 7 ∨ e = 9 ∨ (e ≠ 10 ∧ ((t - st).natAbs : Int) ≤ b + se))
noncomputable def F60 : FSpec := fun args h k => match args, h with
  | [.int .i64 r, .agg ⟨[.int .i64 e, .int .i64 t, .int .i64 b]⟩, .agg ⟨[.int .i64 n, .int .i64 cc, .int .i64 ct]⟩, .agg ⟨[.int .i64 sc, .int .i64 st, .int .i64 se]⟩, .int .i64 need], [] =>
    bif mayO r e t b n sc st se need then
      (bif takenB e t b st se then k (o3 1 (a3 0 0 0) 0) []
      else bif e == 10 then k (o3 2 (a3 n cc ct) 0) []
      else bif followsB r n cc ct sc st se then (bif decide (n + 1 ≥ need) then k (o3 3 (a3 0 0 0) 0) [] else k (o3 2 (a3 (n + 1) sc st) 0) [])
      else (bif decide (1 ≥ need) then k (o3 3 (a3 0 0 0) 0) [] else k (o3 2 (a3 1 sc st) 0) []))
    else k (o3 0 (a3 0 0 0) 2) []
  | _, _ => none
theorem S60_ok : SpecOK Try.prog S60 := mkS_cons ok23 (mkS_cons ok25 (mkS_cons ok38 (mkS_cons ok61 (mkS_cons ok103 (mkS_cons ok104 (mkS_nil _))))))

theorem ok60 : EntryOK Try.prog 60 F60 := by
  refine EntryOK.of_fn S60_ok follows_ok Try.func60 (by kernel_rfl) (by kernel_rfl) ?_
  intro args h k out hF
  unfold F60 at hF
  split at hF
  · rename_i r e t b n cc ct sc st se need
    cases hm : mayO r e t b n sc st se need with
    | false =>
      rw [hm, condF] at hF
      refine ⟨_, _, hF, fun _ => ⟨noL, noL_ok, ?_⟩⟩
      refine (cf60 r e t b n cc ct sc st se need).trans ?_
      refine dc (fun _ => rfl) (fun c1 => dc (fun _ => rfl) (fun c2 => ?_))
      cases hr : readB e t b with
      | false => rfl
      | true =>
        cases hs : sampB sc st se with
        | false => rfl
        | true =>
          simp only [Bool.not_true, condF]
          refine dc (fun _ => rfl) (fun c3 => dc (fun _ => rfl) (fun c4 => dc (fun _ => rfl) (fun c5 => dc (fun _ => rfl) (fun c6 => ?_))))
          have := chk_t (p := 1 ≤ r ∧ r ≤ 500 ∧ readB e t b = true ∧ sampB sc st se = true ∧ 1 ≤ need ∧ need ≤ 100 ∧ 0 ≤ n ∧ n ≤ 1000) ⟨by omega, by omega, hr, hs, by omega, by omega, by omega, by omega⟩
          rw [show chk _ = mayO r e t b n sc st se need from rfl, hm] at this
          cases this
    | true =>
      rw [hm, condT] at hF
      obtain ⟨r1, r2, hr, hs, q1, q2, n1, n2⟩ := chk_iff.1 hm
      have hs2 := chk_iff.1 hs
      have hr2 := chk_iff.1 hr
      have cf := cf60 r e t b n cc ct sc st se need
      rw [dec_f (show ¬ r < 1 by omega), dec_f (show ¬ r > 500 by omega), hr, hs, dec_f (show ¬ need < 1 by omega), dec_f (show ¬ need > 100 by omega), dec_f (show ¬ n < 0 by omega), dec_f (show ¬ n > 1000 by omega), chk_t (show 0 ≤ se ∧ se ≤ 1152921504606846976 by omega), swrap (x := n + 1) (by omega) (by omega)] at cf
      simp only [Bool.not_true, condT, condF] at cf
      have n7 : e ≠ 7 → (e == 7) = false := beq_eq_false_iff_ne.2
      have n9 : e ≠ 9 → (e == 9) = false := beq_eq_false_iff_ne.2
      have n10 : e ≠ 10 → (e == 10) = false := beq_eq_false_iff_ne.2
      by_cases h7 : e = 7
      · have ht : takenB e t b st se = true := chk_t (.inl h7)
        rw [ht, condT] at hF
        subst h7
        simp only [beq_self_eq_true, condT] at cf
        exact ⟨_, _, hF, fun _ => ⟨noL, noL_ok, cf⟩⟩
      by_cases h9 : e = 9
      · have ht : takenB e t b st se = true := chk_t (.inr (.inl h9))
        rw [ht, condT] at hF
        rw [n7 h7] at cf
        subst h9
        simp only [beq_self_eq_true, condT, condF] at cf
        exact ⟨_, _, hF, fun _ => ⟨noL, noL_ok, cf⟩⟩
      rw [n7 h7, n9 h9] at cf
      simp only [condF] at cf
      by_cases h10 : e = 10
      · have ht : takenB e t b st se = false := chk_f (fun h => by rcases h with h | h | h; exact h7 h; exact h9 h; exact h.1 h10)
        rw [ht, condF] at hF
        subst h10
        simp only [beq_self_eq_true, condT] at cf hF
        exact ⟨_, _, hF, fun _ => ⟨noL, noL_ok, cf⟩⟩
      rw [n10 h10] at cf hF
      simp only [condF] at cf hF
      have h0 : e = 0 ∧ 0 ≤ t ∧ t ≤ 6000000000000000000 ∧ 0 ≤ b ∧ b ≤ 4611686018427387904 := by
        rcases hr2 with h | h | h | h
        · exact (h7 h).elim
        · exact (h9 h).elim
        · exact (h10 h).elim
        · exact h
      have hd : decide (hold (sizeI (hold (t - st))) ≤ hold (b + se)) = takenB e t b st se := by
        unfold takenB
        rw [chk_eq, hold_id (z := t - st) (by omega), hold_id (z := b + se) (by omega)]
        unfold sizeI
        rw [hold_id (by omega)]
        exact decide_eq_decide.2 ⟨fun h => .inr (.inr ⟨h10, h⟩), fun h => by rcases h with h | h | h; exact (h7 h).elim; exact (h9 h).elim; exact h.2⟩
      rw [hd] at cf
      cases ht : takenB e t b st se with
      | true =>
        rw [ht, condT] at cf hF
        exact ⟨_, _, hF, fun _ => ⟨noL, noL_ok, cf⟩⟩
      | false =>
        rw [ht, condF] at cf hF
        cases hf : followsB r n cc ct sc st se with
        | true =>
          rw [hf, condT] at cf hF
          cases hq : decide (n + 1 ≥ need) with
          | true => rw [hq, condT] at cf hF; exact ⟨_, _, hF, fun _ => ⟨noL, noL_ok, cf⟩⟩
          | false => rw [hq, condF] at cf hF; exact ⟨_, _, hF, fun _ => ⟨noL, noL_ok, cf⟩⟩
        | false =>
          rw [hf, condF] at cf hF
          cases hq : decide (1 ≥ need) with
          | true => rw [hq, condT] at cf hF; exact ⟨_, _, hF, fun _ => ⟨noL, noL_ok, cf⟩⟩
          | false => rw [hq, condF] at cf hF; exact ⟨_, _, hF, fun _ => ⟨noL, noL_ok, cf⟩⟩
  · cases hF
noncomputable def S13 : Spec := mkS [(59, false, F22), (60, false, F60)]
--CF cf13 (r n cc ct at1 off bound e o need : Int) :: fnK Try.prog S13 noL Try.f13 [w63 r, a3 n cc ct, w63 at1, w63 off, w63 bound, w63 e, w63 o, w63 need] []
theorem cf13 (r n cc ct at1 off bound e o need : Int) : fnK Try.prog S13 noL Try.f13 [w63 r, a3 n cc ct, w63 at1, w63 off, w63 bound, w63 e, w63 o, w63 need] [] =
     (bif decide (r < 1) then some (Res.ret (Value.bool true) []) else bif decide (r > 500) then some (Res.ret (Value.bool true) []) else bif decide (at1 < 2305843009213693952) then some (Res.ret
     (Value.bool true) []) else bif decide (at1 > 4611686018427387904) then some (Res.ret (Value.bool true) []) else bif decide (bound < 0) then some (Res.ret (Value.bool true) []) else bif decide (bound >
     1152921504606846976) then some (Res.ret (Value.bool true) []) else bif decide (off < IntKind.i64.wrap (0 - bound)) then some (Res.ret (Value.bool true) []) else bif decide (off > bound) then some
     (Res.ret (Value.bool true) []) else bif decide (e < 0) then some (Res.ret (Value.bool true) []) else bif decide (e > 1000000000) then some (Res.ret (Value.bool true) []) else bif decide (o <
     IntKind.i64.wrap (0 - e)) then some (Res.ret (Value.bool true) []) else bif decide (o > e) then some (Res.ret (Value.bool true) []) else bif decide (n < 0) then some (Res.ret (Value.bool true) [])
     else bif decide (n > 1000) then some (Res.ret (Value.bool true) []) else bif decide (need < 1) then some (Res.ret (Value.bool true) []) else bif decide (need > 100) then some (Res.ret (Value.bool
     true) []) else bif mayO r 0 (IntKind.i64.wrap (at1 + off)) bound n 1 (IntKind.i64.wrap (at1 + o)) e need then bif takenB 0 (IntKind.i64.wrap (at1 + off)) bound (IntKind.i64.wrap (at1 + o)) e then some
     (Res.ret (Value.bool true) []) else bif followsB r n cc ct 1 (IntKind.i64.wrap (at1 + o)) e then bif decide (n + 1 ≥ need) then some (Res.ret (Value.bool false) []) else some (Res.ret (Value.bool
     false) []) else bif decide (1 ≥ need) then some (Res.ret (Value.bool false) []) else some (Res.ret (Value.bool false) []) else some (Res.ret (Value.bool false) [])) := by kernel_rfl
--CFEND
end Go.Proofs.Ytfgehfnlkakioaa.VC
