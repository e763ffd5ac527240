/- PacketControl: DecodeControl, SameControl: what they are. -/
import Derived.Test.YtidhpjgebbimdaaDoorKC7
namespace Go.Proofs.YtidhpjgebbimdaaDoor.VC
open Go Go.Proofs

theorem fin_rng {x : Int} (h : 0 ≤ x ∧ x ≤ 255) : ∃ a : Fin 256, x = (a.val : Int) := ⟨⟨x.toNat, by omega⟩, by show x = (x.toNat : Int); omega⟩
theorem and128 {x : Int} (h : 0 ≤ x ∧ x ≤ 255) : (bits .and .u8 x 128 != 0) = decide (x / 128 % 2 = 1) := by
  obtain ⟨a, rfl⟩ := fin_rng h
  revert a
  decide +kernel
theorem and64 {x : Int} (h : 0 ≤ x ∧ x ≤ 255) : (bits .and .u8 x 64 != 0) = decide (x / 64 % 2 = 1) := by
  obtain ⟨a, rfl⟩ := fin_rng h
  revert a
  decide +kernel
theorem and32 {x : Int} (h : 0 ≤ x ∧ x ≤ 255) : (bits .and .u8 x 32 != 0) = decide (x / 32 % 2 = 1) := by
  obtain ⟨a, rfl⟩ := fin_rng h
  revert a
  decide +kernel
theorem ctF_rng {t : Ct} (hr : CtR t) (ho : t.op ≤ 31) : 0 ≤ ctF t ∧ ctF t ≤ 255 := by
  have := hr.op
  unfold ctF
  cases t.r <;> cases t.e <;> cases t.m <;> simp only [condT, condF] <;> omega
theorem ctF_r {t : Ct} (hr : CtR t) (ho : t.op ≤ 31) : (bits .and .u8 (ctF t) 128 != 0) = t.r ∧ (bits .and .u8 (ctF t) 64 != 0) = t.e ∧ (bits .and .u8 (ctF t) 32 != 0) = t.m ∧ bits .and .u8 (ctF t) 31 = t.op := by
  have h := ctF_rng hr ho
  have hop := hr.op
  rw [and128 h, and64 h, and32 h]
  have hl : bits .and .u8 (ctF t) 31 = ctF t % 32 := bits_low .u8 rfl 5 h.1 (by show ctF t < 256; omega) (by decide)
  rw [hl]
  unfold ctF at *
  cases hr : t.r <;> cases he : t.e <;> cases hm : t.m <;> simp only [hr, he, hm, condT, condF] at * <;> refine ⟨?_, ?_, ?_, ?_⟩ <;> first | omega | (simp only [decide_eq_true_eq, decide_eq_false_iff_not]; omega)
theorem val2 {x : Int} (h : 0 ≤ x ∧ x ≤ 65535) : valB [x / 256 % 256, x % 256] = x := by
  show (0 * 256 + x / 256 % 256) * 256 + x % 256 = x
  omega
theorem encC_drop {t : Ct} {d : Nat} {ys : List Int} (hl : ys.length = d) : List.drop 12 (encC t d ys) = ys ++ List.replicate (up4 (12 + d) - (12 + d)) 0 := by
  show List.drop 12 (padL (hdC t d ++ ys.take d) (12 + d)) = _
  rw [List.take_of_length_le (by omega)]
  unfold padL
  rw [List.append_assoc, List.drop_append_of_le_length (by rw [hdC_len]; exact Nat.le_refl _), List.drop_eq_nil_of_le (by rw [hdC_len]; exact Nat.le_refl _)]
  rfl
theorem encC_data {t : Ct} {d : Nat} {ys : List Int} (hl : ys.length = d) : List.take d (List.drop 12 (encC t d ys)) = ys := by
  rw [encC_drop hl, List.take_left' hl]
theorem encC_zeros {t : Ct} {d : Nat} {ys : List Int} (hl : ys.length = d) : zeros (encC t d ys) (12 + d) (up4 d - d) := by
  intro i hi
  have e : (encC t d ys).getD (12 + d + i) 0 = (List.drop 12 (encC t d ys)).getD (d + i) 0 := by
    rw [List.getD_eq_getElem?_getD, List.getD_eq_getElem?_getD, List.getElem?_drop, Nat.add_assoc]
  rw [e, encC_drop hl, List.getD_eq_getElem?_getD, List.getElem?_append_right (by omega), List.getElem?_replicate]
  split <;> rfl
noncomputable def FDcK (t : Ct) (d : Nat) (ys : List Int) : FSpec := fun args h k => match args, h with
  | [.slice (some ⟨0, 0, none⟩) n _], [some ⟨false, 1, [.ints .u8 N xs]⟩] =>
    bif chk (n = up4 (12 + d) ∧ N = n ∧ xs = encC t d ys ∧ CtR t ∧ ctOK t d ∧ ys.length = d) then k (.tuple #[ctv t (sl 1 d 2), w63 (up4 (12 + d) : Nat), w63 0]) [rU N xs, oU d ys] else none
  | _, _ => none
abbrev ct0 : Ct := ⟨0, 0, false, false, false, 0, 0, 0, 0⟩
noncomputable def FDcS (t : Ct) (d : Nat) (ys : List Int) : FSpec := fun args h k => match args, h with
  | [.slice (some ⟨0, 0, none⟩) n _], [some ⟨false, 1, [.ints .u8 N xs]⟩] =>
    bif chk (n + 1 = up4 (12 + d) ∧ N = n + 1 ∧ xs = encC t d ys ∧ CtR t ∧ ctOK t d ∧ ys.length = d) then k (.tuple #[ctv ct0 (.slice none 0 0), w63 0, w63 4]) [rU N xs] else none
  | _, _ => none
theorem SDc_ok : SpecOK Tryd.prog SDc := mkS_cons okGet (mkS_cons okFil (mkS_cons okTrm (mkS_cons okClone (mkS_nil _))))
theorem okDcS (t : Ct) (d : Nat) (ys : List Int) : EntryOK Tryd.prog 7 (FDcS t d ys) := by
  refine EntryOK.of_paths_cap (fn := Tryd.f7) follows_ok Tryd.func7 (by kernel_rfl) (by kernel_rfl) ?_
  intro args h k out hF
  unfold FDcS at hF
  split at hF
  · rename_i n c N xs
    obtain ⟨hb, hF2⟩ := bif_t hF
    obtain ⟨h1, rfl, rfl, hr, ⟨o1, o2, o3⟩, hl⟩ := chk_iff.1 hb
    refine ⟨_, _, hF2, fun _ => ?_⟩
    by_cases hd : (n : Int) < 12
    · exact ⟨_, noL, _, .cap _ _ _ _ .nil, SDc_ok.on _, noL_ok, pDcS1 n (n + 1) _ hd⟩
    · have hV : valB (List.take ((12 : Int) - 10).toNat (List.drop 10 (encC t d ys))) = (d : Int) := val2 (x := (d : Int)) (by omega)
      have h0 : (encC t d ys).getD 0 0 = t.v * 8 + 6 := rfl
      have key := @pDcS2 n (n + 1) (encC t d ys)
      have hv := hr.v
      have h12 := up4_12 d
      have hl7 : bits .and .u8 (t.v * 8 + 6) 7 = (t.v * 8 + 6) % 8 := bits_low .u8 rfl 3 (by omega) (by show t.v * 8 + 6 < 256; omega) (by decide)
      rw [hV, h0, Int.fdiv_eq_ediv_of_nonneg _ (by decide), hl7, Int.toNat_natCast] at key
      have hu : up4 d = d + (up4 d - d) := by have := up4_le d; omega
      have hu3 : up4 d ≤ d + 3 := by unfold up4; omega
      exact ⟨_, noL, _, .cap _ _ _ _ .nil, SDc_ok.on _, noL_ok, key (by omega) (by omega) hd (by omega) (by omega) ⟨by decide, by show 10 + 2 ≤ n + 1; omega⟩ ⟨by omega, by omega⟩ (by omega) (by omega) (by omega) (by omega) (by omega) (by omega)⟩
  · cases hF
theorem okDcK (t : Ct) (d : Nat) (ys : List Int) : EntryOK Tryd.prog 7 (FDcK t d ys) := by
  refine EntryOK.of_paths_cap (fn := Tryd.f7) follows_ok Tryd.func7 (by kernel_rfl) (by kernel_rfl) ?_
  intro args h k out hF
  unfold FDcK at hF
  split at hF
  · rename_i n c N xs
    obtain ⟨hb, hF2⟩ := bif_t hF
    obtain ⟨rfl, rfl, rfl, hr, ⟨o1, o2, o3⟩, hl⟩ := chk_iff.1 hb
    refine ⟨_, _, hF2, fun _ => ?_⟩
    have hV : valB (List.take ((12 : Int) - 10).toNat (List.drop 10 (encC t d ys))) = (d : Int) := val2 (x := (d : Int)) (by omega)
    have v2 : valB (List.take ((4 : Int) - 2).toNat (List.drop 2 (encC t d ys))) = t.sq := val2 hr.sq
    have v4 : valB (List.take ((6 : Int) - 4).toNat (List.drop 4 (encC t d ys))) = t.st := val2 hr.st
    have v6 : valB (List.take ((8 : Int) - 6).toNat (List.drop 6 (encC t d ys))) = t.ac := val2 hr.ac
    have v8 : valB (List.take ((10 : Int) - 8).toNat (List.drop 8 (encC t d ys))) = t.oc := val2 hr.oc
    have h0 : (encC t d ys).getD 0 0 = t.v * 8 + 6 := rfl
    have h1 : (encC t d ys).getD 1 0 = ctF t := rfl
    have key := @pDcK (up4 (12 + d)) (up4 (12 + d)) (encC t d ys)
    have hv := hr.v
    have h12 := up4_12 d
    have hle := up4_le d
    have hu3 : up4 d ≤ d + 3 := by unfold up4; omega
    have hl7 : bits .and .u8 (t.v * 8 + 6) 7 = (t.v * 8 + 6) % 8 := bits_low .u8 rfl 3 (by omega) (by show t.v * 8 + 6 < 256; omega) (by decide)
    obtain ⟨b1, b2, b3, b4⟩ := ctF_r hr o2
    have hsq := hr.sq
    have hst := hr.st
    have hac := hr.ac
    have hoc := hr.oc
    rw [hV, v2, v4, v6, v8, h0, h1, Int.fdiv_eq_ediv_of_nonneg _ (by decide), Int.fdiv_eq_ediv_of_nonneg _ (by decide), hl7, Int.toNat_natCast, b1, b2, b3, b4, wU16, wU16, wU16, wU16, show ((12 : Int) + (d : Int) - 12).toNat = d by omega, show ((12 : Int) + (d : Int)).toNat = 12 + d by omega,
      show ((12 : Int) + ((up4 d : Nat) : Int) - (12 + (d : Int))).toNat = up4 d - d by omega, encC_data hl, Int.emod_eq_of_lt (a := t.sq) (by omega) (by omega), Int.emod_eq_of_lt (a := t.st) (by omega) (by omega), Int.emod_eq_of_lt (a := t.ac) (by omega) (by omega), Int.emod_eq_of_lt (a := t.oc) (by omega) (by omega),
      show (t.v * 8 + 6) / 8 = t.v by omega, show (12 : Int) + ((up4 d : Nat) : Int) = ((up4 (12 + d) : Nat) : Int) by omega] at key
    refine ⟨_, noL, _, .cap _ _ _ _ .nil, SDc_ok.on _, noL_ok, key ?_ ?_ ?_ ?_ ?_ ?_ ?_ ?_ ?_ ?_ ?_ ?_ ?_ ?_ ?_ ?_ ?_ ?_ ?_ ?_ ?_ ?_ ?_ ?_ ?_ ?_ ?_ ?_ ?_ ?_ ?_ ?_ ?_ ?_ ?_⟩
    all_goals first | omega | (exact ⟨by omega, by omega, encC_zeros hl, rfl⟩) | (refine ⟨?_, ?_⟩ <;> first | decide | omega | (show _ + 2 ≤ _; omega))
  · cases hF
noncomputable def FSc (t : Ct) : FSpec := fun args h k => match args, h with
  | [a, b], [some ⟨false, 1, [.ints .u8 n xs]⟩, some ⟨false, 1, [.ints .u8 m ys]⟩] =>
    bif chk (a = ctv t (sl 0 n 2) ∧ b = ctv t (sl 1 n 2) ∧ n = m ∧ xs = ys ∧ n ≤ 1000000) then k (.bool true) [rU n xs, rU m ys] else none
  | _, _ => none
theorem okSc (t : Ct) : EntryOK Tryd.prog 8 (FSc t) := by
  refine EntryOK.of_paths (fn := Tryd.f8) follows_ok Tryd.func8 (by kernel_rfl) (by kernel_rfl) ?_
  intro args h k out hF
  unfold FSc at hF
  split at hF
  · rename_i a b n xs m ys
    obtain ⟨hb, hF2⟩ := bif_t hF
    obtain ⟨rfl, rfl, rfl, rfl, hn⟩ := chk_iff.1 hb
    refine ⟨_, _, hF2, fun _ => ⟨_, noL, mk0.on _, noL_ok, (pSc t n xs rfl rfl rfl rfl rfl rfl rfl rfl rfl).trans ?_⟩⟩
    rw [beq_self_eq_true]
  · cases hF
end Go.Proofs.YtidhpjgebbimdaaDoor.VC
