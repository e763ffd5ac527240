/- The document's numbers: Down, Up, Quotient, proved. -/
import Derived.Test.YtfgehfnlkakioaaR13
namespace Go.Proofs.Ytfgehfnlkakioaa.VC
open Go Go.Proofs

theorem pair_eq {i j u v : Nat} {z1 z2 : Int} {b1 b2 : Bool} {x y : Option Blk} (h1 : decide (z1 < 0) = b1) (h2 : z1.natAbs = u) (h3 : decide (z2 < 0) = b2) (h4 : z2.natAbs = v) :
    (some (Res.ret (.tuple ⟨[.agg ⟨[.bool b1, .slice (some ⟨i, 0, none⟩) (digits u).length 2]⟩, .agg ⟨[.bool b2, .slice (some ⟨j, 0, none⟩) (digits v).length 2]⟩]⟩) [x, y, ob (digits u).length (digits u), ob (digits v).length (digits v)]) : Out) =
    some (.ret (.tuple ⟨[zV i z1, zV j z2]⟩) [x, y, zB z1, zB z2]) := by subst h1 h2 h3 h4; rfl

theorem ok28 : EntryOK Try.prog 28 F28 := by
  refine EntryOK.of_fn S28_ok follows_ok Try.func28 (by kernel_rfl) (by kernel_rfl) ?_
  intro args h k out hF
  unfold F28 at hF
  split at hF
  · rename_i s n c t m d n1 xs m1 ys
    obtain ⟨hb, hF2⟩ := bif_t hF
    simp only [Bool.and_eq_true, Bool.not_eq_true'] at hb
    obtain ⟨⟨⟨⟨⟨⟨⟨hx, hy⟩, hn⟩, hm⟩, hn4⟩, hm4⟩, hpos⟩, ht⟩ := hb
    subst ht
    refine ⟨_, _, hF2, fun real => ⟨L28, loops28, ?_⟩⟩
    have hn5 := ble_true hn4
    have hm5 := ble_true hm4
    have hp := blt_true hpos
    have h1 := numW_lt hx
    have h2 := numW_lt hy
    have hQ : numW n xs / numW m ys < BB ^ n := Nat.lt_of_le_of_lt (Nat.div_le_self _ _) h1
    have hR : numW n xs % numW m ys < BB ^ m := Nat.lt_trans (Nat.mod_lt _ hp) h2
    have sQ := normB_le hQ (by omega)
    have sR := normB_le hR (by omega)
    have lQ := digits_len_le hQ
    have lR := digits_len_le hR
    have fl := floorNeg (a := numW n xs) hp
    have hml := Nat.mod_lt (numW n xs) hp
    have eo : normB 1 (digits 1) = true := normB_digits (v := 1) (by decide)
    rw [cf28, show n.ble (OfNat.ofNat 400000) = true from ble_t (b := 400000) (by omega), show m.ble (OfNat.ofNat 399999) = true from hm4, show m.ble (OfNat.ofNat 400000) = true from ble_t (b := 400000) (by omega), hpos, hx, hy, hn, hm, beq_self_eq_true]
    simp only [numW_digits]
    rw [sQ, sR, wordsB_norm sQ, wordsB_norm sR, eo,
      ble_t (Nat.le_refl (digits (numW n xs / numW m ys)).length), ble_t (Nat.le_refl (digits (numW n xs % numW m ys)).length), show (digits (numW n xs / numW m ys)).length.ble (OfNat.ofNat 400000) = true from ble_t (b := 400000) (by omega), show (digits (numW n xs % numW m ys)).length.ble (OfNat.ofNat 400000) = true from ble_t (b := 400000) (by omega)]
    simp only [Bool.and_self, condT]
    generalize hQe : numW n xs / numW m ys = Q at *
    generalize hRe : numW n xs % numW m ys = R at *
    have pos : (numW n xs : Int) / (numW m ys : Int) = (Q : Int) := by rw [← hQe]; exact (Int.natCast_ediv _ _).symm
    have pos2 : (numW n xs : Int) % (numW m ys : Int) = (R : Int) := by rw [← hRe]; exact (Int.natCast_emod _ _).symm
    cases s with
    | false =>
      simp only [condF, Bool.false_and, sgn, pos, pos2]
      exact pair_eq (dec_f (by omega)) (by omega) (dec_f (by omega)) (by omega)
    | true =>
      simp only [condT, Bool.true_and]
      by_cases hr : R = 0
      · subst hr
        rw [dec_f (show ¬ ((digits 0).length : Int) > 0 by rw [digits_zero]; simp)]
        simp only [condF, sgn, condT]
        rw [if_pos rfl] at fl
        rw [if_pos rfl] at fl
        rw [fl.1, fl.2]
        exact pair_eq (decide_eq_decide.2 (by omega)) (by omega) (dec_f (by omega)) (by omega)
      · rw [dec_t (show ((digits R).length : Int) > 0 by rw [digits_pos hr]; simp)]
        rw [if_neg hr, if_neg hr] at fl
        simp only [condT]
        rw [show sgn true (numW n xs) = -(numW n xs : Int) from rfl, fl.1, fl.2]
        have e1 : sgn (decide (0 < Q)) Q = -(Q : Int) := by
          unfold sgn
          by_cases h : 0 < Q
          · rw [dec_t h, condT]
          · rw [dec_f h, condF]; omega
        simp only [e1]
        have e2 : sgn false (numW m ys) - sgn false R = ((numW m ys - R : Nat) : Int) := by unfold sgn; simp only [condF]; omega
        simp only [e2]
  · cases hF

theorem S86_ok : SpecOK Try.prog S86 := mkS_cons ok28 (mkS_cons ok37 (mkS_nil _))
theorem div_abs_le {z : Int} {b : Nat} (hb : 0 < b) : (z / (b : Int)).natAbs ≤ z.natAbs := by
  rcases Int.lt_or_le z 0 with h | h
  · obtain ⟨a, rfl⟩ : ∃ a : Nat, z = -(a : Int) := ⟨z.natAbs, by omega⟩
    have fl := (floorNeg (a := a) hb).1
    have hdm := Nat.div_add_mod a b
    have hml := Nat.mod_lt a hb
    have hle : a / b ≤ b * (a / b) := Nat.le_mul_of_pos_left _ hb
    rw [fl]
    generalize a / b = q at *
    split <;> omega
  · obtain ⟨a, rfl⟩ := Int.eq_ofNat_of_zero_le h
    have : ((a : Int) / (b : Int)) = ((a / b : Nat) : Int) := (Int.natCast_ediv _ _).symm
    rw [this, Int.natAbs_natCast, Int.natAbs_natCast]
    exact Nat.div_le_self a b

theorem ok86 : EntryOK Try.prog 86 F86 := by
  refine EntryOK.of_fn S86_ok follows_ok Try.func86 (by kernel_rfl) (by kernel_rfl) ?_
  intro args h k out hF
  unfold F86 at hF
  split at hF
  · rename_i s n c t m d n1 xs m1 ys
    obtain ⟨hb, hF2⟩ := bif_t hF
    simp only [Bool.and_eq_true, Bool.not_eq_true'] at hb
    obtain ⟨⟨⟨⟨⟨⟨⟨hx, hy⟩, hn⟩, hm⟩, hn4⟩, hm4⟩, hpos⟩, ht⟩ := hb
    subst ht
    refine ⟨_, _, hF2, fun real => ⟨noL, noL_ok, ?_⟩⟩
    have hn5 := ble_true hn4
    have hp := blt_true hpos
    have h1 := numW_lt hx
    have ha : (-sgn s (numW n xs) / (numW m ys : Int)).natAbs < BB ^ n := Nat.lt_of_le_of_lt (div_abs_le hp) (by rw [Int.natAbs_neg, sgn_abs]; exact h1)
    have sA := normB_le ha (by omega)
    rw [cf86, normB_eq hx, sgn_neg, show n.ble (OfNat.ofNat 399999) = true from hn4, show m.ble (OfNat.ofNat 399999) = true from hm4, hpos, hx, hy, hn, hm, wordsB_norm hx, numW_digits, wordsB_norm sA, ble_t (Nat.le_refl _)]
    simp only [Bool.and_self, Bool.not_false, condT]
    generalize -sgn s (numW n xs) / (numW m ys : Int) = z at *
    have e1 : (-z).natAbs = z.natAbs := Int.natAbs_neg z
    refine retEq (zV_eq ?_ e1) (by rw [← zB_eq e1])
    by_cases hz : z < 0
    · rw [dec_t hz, dec_f (by omega)]; rfl
    · rw [dec_f hz]; exact decide_eq_decide.2 (by omega)
  · cases hF

theorem S20_ok : SpecOK Try.prog S20 := mkS_cons ok28 (mkS_cons ok29 (mkS_cons ok31 (mkS_cons ok32 (mkS_cons ok86 (mkS_nil _)))))
def F20 : FSpec := fun args h k => match args, h with
  | [.int .i64 a, .int .i64 b, .int .i64 d, .bool v], [] => k (w63 (bif v then upI a b d else downI a b d)) []
  | _, _ => none
theorem ok20 : EntryOK Try.prog 20 F20 := by
  refine EntryOK.of_fn S20_ok follows_ok Try.func20 (by kernel_rfl) (by kernel_rfl) ?_
  intro args h k out hF
  unfold F20 at hF
  split at hF
  · rename_i a b d v
    refine ⟨_, _, hF, fun real => ⟨noL, noL_ok, ?_⟩⟩
    have ha := i64r real 0 rfl
    have hb := i64r real 1 rfl
    have hd := i64r real 2 rfl
    have b4 : BB ^ 4 = 340282366920938463463374607431768211456 := rfl
    have hm := mul_abs (a := a) (b := b) (k := 9223372036854775808) (by omega) (by omega)
    rw [cf20]
    unfold downI upI
    refine dc (fun c => ?_) (fun c => ?_)
    · rw [if_pos c, if_pos c]; cases v <;> rfl
    · rw [if_neg c, if_neg c]
      obtain ⟨D, rfl⟩ : ∃ D : Nat, d = (D : Int) := ⟨d.natAbs, by omega⟩
      have hD : 0 < D := by omega
      have m1 : (a * b / (D : Int)).natAbs ≤ (a * b).natAbs := div_abs_le hD
      have m2 : (-(a * b) / (D : Int)).natAbs ≤ (a * b).natAbs := by have := div_abs_le (z := -(a * b)) hD; rwa [Int.natAbs_neg] at this
      have s1 := small128 (v := a.natAbs) (by rw [b4]; omega)
      have s2 := small128 (v := b.natAbs) (by rw [b4]; omega)
      have s3 := small128 (v := D) (by rw [b4]; omega)
      have s5 := small128 (v := (a * b).natAbs) (by rw [b4]; omega)
      have s6 := small128 (v := (a * b / (D : Int)).natAbs) (by rw [b4]; omega)
      have s7 := small128 (v := (-(-(a * b) / (D : Int))).natAbs) (by rw [b4, Int.natAbs_neg]; omega)
      have l1 := len128 (v := a.natAbs) (by rw [b4]; omega)
      have l2 := len128 (v := b.natAbs) (by rw [b4]; omega)
      have l9 : ∀ {v : Nat}, v < BB ^ 4 → (digits v).length.ble 399999 = true := fun h => ble_t (Nat.le_trans (digits_len_le h) (by decide))
      have l3 := l9 (v := D) (by rw [b4]; omega)
      have l5 := l9 (v := (a * b).natAbs) (by rw [b4]; omega)
      simp only [numW_digits, sgn_self, s1, s2, s3, s5, s6, s7, l1, l2, l3, l5, Int.natAbs_natCast, ble_t (Nat.le_refl _), Bool.and_self, condT,
        blt_t hD, dec_f (show ¬ (D : Int) < 0 by omega), Bool.not_false]
      cases v <;> simp only [condT, condF]
  · cases hF
end Go.Proofs.Ytfgehfnlkakioaa.VC
