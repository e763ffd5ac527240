/- PacketControl: the law. -/
import Derived.Test.YtidhpjgebbimdaaDoorKD1
namespace Go.Proofs.YtidhpjgebbimdaaDoor.VC
open Go Go.Proofs

theorem okS3K (t : Ct) (n : Nat) (xs : List Int) : SpecOK Tryd.prog (S3K t n xs) := mkS_cons okKnX (mkS_cons okCt (mkS_cons okCr (mkS_cons (okDcB t n xs) (mkS_cons (okSc t) (mkS_nil _)))))
theorem okS3R : SpecOK Tryd.prog S3R := mkS_cons okKnX (mkS_cons okCtE (mkS_cons okCrE (mkS_nil _)))
def F3 : FSpec := fun args h k => match args, h with
  | [.agg ⟨[.int .u8 _, .int .u8 _, .bool _, .bool _, .bool _, .int .u16 _, .int .u16 _, .int .u16 _, .int .u16 _, .slice (some ⟨0, 0, none⟩) n 2]⟩], [some ⟨false, 1, [.ints .u8 N xs]⟩] => bif Nat.beq N n then k (.bool true) [rU N xs] else none
  | _, _ => none
theorem ok3 : EntryOK Tryd.prog 3 F3 := by
  refine EntryOK.of_paths (fn := Tryd.f3) follows_ok Tryd.func3 (by kernel_rfl) (by kernel_rfl) ?_
  intro args h k out hF
  unfold F3 at hF
  split at hF
  · rename_i v op r e m sq st ac oc n N xs
    obtain ⟨hb, hF2⟩ := bif_t hF
    obtain rfl := beq_true hb
    refine ⟨_, _, hF2, fun real => ?_⟩
    have hl := (real.segs (i := 0) rfl rfl _ (List.mem_cons_self ..)).1
    have hr : CtR ⟨v, op, r, e, m, sq, st, ac, oc⟩ := real_ct (t := ⟨v, op, r, e, m, sq, st, ac, oc⟩) real
    by_cases c0 : (N : Int) > 1000
    · exact ⟨_, noL, okS3R.on _, noL_ok, p3N ⟨v, op, r, e, m, sq, st, ac, oc⟩ N xs c0⟩
    · by_cases c1 : ctOK ⟨v, op, r, e, m, sq, st, ac, oc⟩ N
      · have h12 := up4_12 N
        have hle := up4_le N
        have hu3 : up4 N ≤ N + 3 := by unfold up4; omega
        have hm4 : up4 (12 + N) % 4 = 0 := by unfold up4; omega
        have key := @p3K ⟨v, op, r, e, m, sq, st, ac, oc⟩ N xs
        have e1 : kap (up4 (12 + N)) (up4 (12 + N)) = true := chk_t rfl
        have e2 : (if ((up4 (12 + N) : Nat) : Int) - 1 > 0 then ((up4 (12 + N) : Nat) : Int) - 1 else 0) = ((up4 (12 + N) : Nat) : Int) - 1 := if_pos (by omega)
        have e3 : (((up4 (12 + N) : Nat) : Int) - 1 - 0).toNat = up4 (12 + N) - 1 := by omega
        have e4 : kap (up4 (12 + N) - 1) (up4 (12 + N)) = false := chk_f (by omega)
        rw [e1, e2, e3, e4] at key
        exact ⟨_, noL, (okS3K _ _ _).on _, noL_ok, key (by omega) c0 ⟨rfl, c1⟩ (by omega) (by omega) (by rw [beq_self_eq_true]) ⟨rfl, .inl rfl, rfl, hr, c1, hl⟩ (by omega) (by omega) ⟨rfl, .inr (by omega), rfl, hr, c1, hl⟩ rfl rfl
          (by show (((up4 (12 + N) : Nat) : Int)).tmod 4 = 0; rw [Int.tmod_eq_emod_of_nonneg (by omega)]; omega) rfl ⟨rfl, rfl, rfl, rfl, by omega⟩⟩
      · exact ⟨_, noL, okS3R.on _, noL_ok, p3R ⟨v, op, r, e, m, sq, st, ac, oc⟩ N xs c0 ⟨rfl, by omega, c1⟩⟩
  · cases hF
theorem top3 {v op : Int} {r e m : Bool} {sq st ac oc : Int} {n : Nat} {xs : List Int} {k : Value → Heap → Out} : F3 [.agg #[.int .u8 v, .int .u8 op, .bool r, .bool e, .bool m, .int .u16 sq, .int .u16 st, .int .u16 ac, .int .u16 oc, sl 0 n 2]] [rU n xs] k = k (.bool true) [rU n xs] := by
  show (bif Nat.beq n n then k (.bool true) [rU n xs] else none) = _
  rw [beq_t rfl]
  exact condT
end Go.Proofs.YtidhpjgebbimdaaDoor.VC
