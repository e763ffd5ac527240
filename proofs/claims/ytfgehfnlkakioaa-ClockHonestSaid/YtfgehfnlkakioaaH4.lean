/- ClockHonest: the rounds, the law. -/
import Derived.Test.YtfgehfnlkakioaaH3
namespace Go.Proofs.Ytfgehfnlkakioaa.VC
open Go Go.Proofs

theorem S17_ok : SpecOK Try.prog S17 := mkS_cons ok29 (mkS_cons ok32 (mkS_cons ok35 (mkS_cons ok36 (mkS_cons ok72 (mkS_cons ok73 (mkS_cons ok74 (mkS_cons ok75 (mkS_cons ok76 (mkS_nil _)))))))))
theorem cmpGt {a b : Int} : decide (cmpZ a b > 0) = decide (a > b) := by
  refine decide_eq_decide.2 ?_
  unfold cmpZ
  split
  · omega
  · split <;> omega
theorem cmpLt {a b : Int} : decide (cmpZ a b < 0) = decide (a < b) := by
  refine decide_eq_decide.2 ?_
  unfold cmpZ
  split
  · omega
  · split <;> omega
theorem chkFl {p : Prop} : chk (false = true → p) = true := chk_t (fun h => by cases h)
section
variable {n i : Nat} {xs : List Int} {rho R P Q F D C T E : Int}

/-- The round's begin, where there is one more. -/
theorem into17 (hi : i < n) {c last z : Int} {e : Exit} {s' : Slots} {h' : Heap}
    (hl : CodeT Try.prog Try.f17.ntmps 1 (sndC (sndC c17)) (zipS live17 (st17 c last n i)) (hp17 n xs rho R P Q F D C T E z) e s' h' ) : CodeT Try.prog Try.f17.ntmps 1 c17 (zipS live17 (st17 c last n i)) (hp17 n xs rho R P Q F D C T E z) e s' h' := by
  refine CodeT.seqF (s1 := zipS (live17x [64]) (st17 c last n i ++ [.bool true])) (h1 := hp17 n xs rho R P Q F D C T E z) (by kernel_rfl) (CodeT.piece S17_ok follows_ok (L := noL) noL_ok ?_) ?_
  · rw [cf17a, dec_t (show (i : Int) < n by omega)]; rfl
  · exact CodeT.seqF (s1 := zipS live17 (st17 c last n i)) (h1 := hp17 n xs rho R P Q F D C T E z) (by kernel_rfl) (CodeT.piece S17_ok follows_ok (L := noL) noL_ok (cf17b c last n i xs rho R P Q F D C T E z)) hl

theorem last17 (hi : ¬ i < n) {c last z : Int} : CodeT Try.prog Try.f17.ntmps 1 c17 (zipS live17 (st17 c last n i)) (hp17 n xs rho R P Q F D C T E z) (.exit 0) (zipS [6] [.bool false]) [rw2 n xs] := by
  refine CodeT.seqF (s1 := zipS (live17x [64]) (st17 c last n i ++ [.bool false])) (h1 := hp17 n xs rho R P Q F D C T E z) (by kernel_rfl) (CodeT.piece S17_ok follows_ok (L := noL) noL_ok ?_) ?_
  · rw [cf17a, dec_f (show ¬ (i : Int) < n by omega)]; rfl
  · exact CodeT.seqFE (by kernel_rfl) (fun h => by cases h) (CodeT.piece S17_ok follows_ok (L := noL) noL_ok (cf17b' c last n i xs rho R P Q F D C T E z))

theorem load17 (hi : i < n) {c last z : Int} : CodeT Try.prog Try.f17.ntmps 1 (fstC B17) (zipS live17 (st17 c last n i)) (hp17 n xs rho R P Q F D C T E z) .normal (zipS (live17x [11]) (st17 c last n i ++ [pt 4]))
    (hp17 n xs rho R P Q F D C T E z ++ [lB (xs.getD (i * 2) 0) (xs.getD (i * 2 + 1) 0)]) := by
  refine CodeT.piece S17_ok follows_ok (L := noL) noL_ok (live := live17x [11]) ?_
  rw [cf17c]
  simp only [Int.toNat_natCast, Nat.zero_add, dec_t (show (0 : Int) ≤ i by omega), dec_t (show (i : Int) < n by omega), blt_t (show i * 2 < n * 2 by omega), blt_t (show i * 2 + 1 < n * 2 by omega), Bool.and_self, condT]
  rfl

/-- A lapse that is not within the bounds ends it. -/
theorem bad17 (hi : i < n) (hr : 1 ≤ rho ∧ rho ≤ 500) {c last z : Int} (hb : (driftB rho (xs.getD (i * 2) 0) (xs.getD (i * 2 + 1) 0) && decide (xs.getD (i * 2) 0 ≤ 1125899906842624)) = false) :
    CodeT Try.prog Try.f17.ntmps 1 c17 (zipS live17 (st17 c last n i)) (hp17 n xs rho R P Q F D C T E z) .ret (zipS [6] [.bool true]) [rw2 n xs] := by
  have hB : CodeT Try.prog Try.f17.ntmps 1 B17 (zipS live17 (st17 c last n i)) (hp17 n xs rho R P Q F D C T E z) .ret (zipS [6] [.bool true]) [rw2 n xs] := by
    refine CodeT.seqF (by kernel_rfl) (load17 hi) (CodeT.seqFE (by kernel_rfl) (fun h => by cases h) (CodeT.piece S17_ok follows_ok (L := noL) noL_ok ?_))
    rw [cf17d', dec_t hr.1, dec_t hr.2]
    cases hd : driftB rho (xs.getD (i * 2) 0) (xs.getD (i * 2 + 1) 0) with
    | false => rfl
    | true =>
      rw [hd, Bool.true_and, decide_eq_false_iff_not] at hb
      rw [dec_t (show xs.getD (i * 2) 0 > 1125899906842624 by omega)]
      rfl
  exact into17 hi (CodeT.seqFE (by kernel_rfl) (fun h => by cases h) (CodeT.blkN (by kernel_rfl) (fun _ h => by cases h) hB))

/-- A lapse within the bounds. -/
theorem good17 (hi : i < n) (hn : n ≤ 60) (hr : 1 ≤ rho ∧ rho ≤ 500) (hE : 0 ≤ E ∧ E ≤ 2305843009213693952) (hC : 0 ≤ C ∧ C ≤ 1152921504606846976) {c last z t e : Int} (hd : driftB rho (xs.getD (i * 2) 0) (xs.getD (i * 2 + 1) 0) = true) (ht : xs.getD (i * 2) 0 ≤ 1125899906842624)
    (hc : C ≤ c ∧ c + xs.getD (i * 2 + 1) 0 ≤ 2305843009213693952) (hz : z.natAbs ≤ 18446744073709551616) (hrd : readZ rho R P Q F D true C T E (c + xs.getD (i * 2 + 1) 0) = (t, e, 0)) (htr : -9223372036854775808 ≤ t ∧ t ≤ 9223372036854775807) (he0 : e ≤ 4611686018427387904)
    (he1 : last ≤ e) (he2 : E ≤ e) (hdz : (z + xs.getD (i * 2) 0 - t).natAbs ≤ e) (hs : (c + xs.getD (i * 2 + 1) 0 - C) * rho ≤ (e - E) * 1000000) :
    CodeT Try.prog Try.f17.ntmps 1 c17 (zipS live17 (st17 c last n i)) (hp17 n xs rho R P Q F D C T E z) .normal (zipS live17 (st17 (c + xs.getD (i * 2 + 1) 0) e n (i + 1 : Nat))) (hp17 n xs rho R P Q F D C T E (z + xs.getD (i * 2) 0)) := by
  have hld := load17 (xs := xs) (rho := rho) (R := R) (P := P) (Q := Q) (F := F) (D := D) (C := C) (T := T) (E := E) hi (c := c) (last := last) (z := z)
  obtain ⟨g1, g2, g3, g4⟩ := chk_iff.1 hd
  generalize xs.getD (i * 2) 0 = tr at *
  generalize xs.getD (i * 2 + 1) 0 = co at *
  have hB : CodeT Try.prog Try.f17.ntmps 1 B17 (zipS live17 (st17 c last n i)) (hp17 n xs rho R P Q F D C T E z) .normal (zipS live17 (st17 (c + co) e n i)) (hp17 n xs rho R P Q F D C T E (z + tr)) := by
    refine CodeT.seqF (by kernel_rfl) hld ?_
    refine CodeT.seqF (s1 := zipS (live17x [11]) (st17 c last n i ++ [pt 4])) (h1 := hp17 n xs rho R P Q F D C T E z ++ [lB tr co]) (by kernel_rfl) (CodeT.piece S17_ok follows_ok (L := noL) noL_ok ?_) ?_
    · rw [cf17d, dec_t hr.1, dec_t hr.2, hd, dec_f (show ¬ tr > 1125899906842624 by omega)]
      rfl
    refine CodeT.seqF (s1 := zipS live17 (st17 (c + co) last n i)) (h1 := hp17 n xs rho R P Q F D C T E (z + tr)) (by kernel_rfl) (CodeT.piece S17_ok follows_ok (L := noL) noL_ok ?_) ?_
    · rw [cf17e, swrap (x := c + co) (by omega) (by omega)]
      simp (disch := omega) only [numW_digits, sgn_self, nb4, lb4, ble_self, Bool.and_self, condT]
      rfl
    have hz2 : (z + tr).natAbs ≤ 18446744073709551616 + 1125899906842624 := by omega
    have hc2 : C ≤ c + co := by omega
    generalize z + tr = z2 at *
    generalize c + co = c2 at *
    refine CodeT.seqF (s1 := zipS (live17x [12, 13, 14]) (st17 c2 last n i ++ [w63 t, w63 e, w63 0])) (h1 := hp17 n xs rho R P Q F D C T E z2) (by kernel_rfl) (CodeT.piece S17_ok follows_ok (L := noL) noL_ok ?_) ?_
    · rw [cf17f, hrd]
      rfl
    refine CodeT.seqF (s1 := zipS (live17x [12, 13]) (st17 c2 last n i ++ [w63 t, w63 e])) (h1 := hp17 n xs rho R P Q F D C T E z2) (by kernel_rfl) (CodeT.piece S17_ok follows_ok (L := noL) noL_ok ?_) ?_
    · rw [cf17g, dec_f (show ¬ e < last by omega), dec_f (show ¬ e < E by omega)]
      rfl
    refine CodeT.seqF (s1 := zipS (live17x [13, 15]) (st17 c2 last n i ++ [w63 e, pt 4])) (h1 := hp17 n xs rho R P Q F D C T E z2 ++ [zC 5 (z2 - t), zB (z2 - t)]) (by kernel_rfl) (CodeT.piece S17_ok follows_ok (L := noL) noL_ok ?_) ?_
    · rw [cf17h]
      simp (disch := omega) only [numW_digits, sgn_self, nb4, lb4, ble_self, Bool.and_self, condT]
      rfl
    generalize z2 - t = d at *
    refine CodeT.seqF (s1 := zipS (live17x [13, 15]) (st17 c2 last n i ++ [w63 e, pt 4])) (h1 := hp17 n xs rho R P Q F D C T E z2 ++ [zP 5 d, zB d]) (by kernel_rfl) (CodeT.piece S17_ok follows_ok (L := noL) noL_ok (cf17i c2 last n i xs rho R P Q F D C T E z2 e d)) ?_
    refine CodeT.seqF (s1 := zipS (live17x [13]) (st17 c2 last n i ++ [w63 e])) (h1 := hp17 n xs rho R P Q F D C T E z2) (by kernel_rfl) (CodeT.piece S17_ok follows_ok (L := noL) noL_ok ?_) ?_
    · rw [cf17j, swrap (x := e - E) (by omega) (by omega), swrap (x := c2 - C) (by omega) (by omega)]
      have hm := mul_abs (a := c2 - C) (b := rho) (k := 9223372036854775808) (by omega) (by omega)
      simp (disch := omega) only [numW_digits, sgn_self, sgnFl, nb4, lb4, nb6, ble_self, Bool.and_self, condT, chkz, chkFl, cmpGt, cmpLt]
      rw [dec_f (show ¬ (d.natAbs : Int) > e by omega), dec_f (show ¬ (e - E) * 1000000 < (c2 - C) * rho by omega)]
      rfl
    exact CodeT.piece S17_ok follows_ok (L := noL) noL_ok (live := live17) (vs := st17 c2 e n i) (cf17k c2 last n i xs rho R P Q F D C T E z2 e)
  refine into17 hi (CodeT.seqF (by kernel_rfl) (CodeT.blkN (by kernel_rfl) (fun _ h => by cases h) hB) (CodeT.piece S17_ok follows_ok (L := noL) noL_ok (live := live17) (vs := st17 (c + co) e n (i + 1 : Nat)) ?_))
  rw [cf17l, snat i (by omega)]
  rfl

theorem up_drop {l : List Int} {k : Nat} (h : k < l.length) : l.drop k = l.getD k 0 :: l.drop (k + 1) := getD_drop h
theorem loopT17 (hn : n ≤ 60) (hl : xs.length = n * 2) (hm : mayK rho R P Q F D true C T E = true) (hC : C ≤ 1152921504606846976) (hT : T ≤ 3000000000000000000) {off : Int} (ho : -E ≤ off ∧ off ≤ E) :
    ∀ (r i : Nat) (x y last : Int), i + r = n → 0 ≤ x → 0 ≤ y → y ≤ i * 1125899906842624 → (x - y) * 1000000 ≤ rho * y → (y - x) * 1000000 ≤ rho * y → last ≤ readE rho R E x →
      (goodL rho (xs.drop (i * 2)) = true → LoopT Try.prog Try.f17.ntmps 1 c17 (zipS live17 (st17 (C + x) last n i)) (hp17 n xs rho R P Q F D C T E (T + off + y)) (.exit 0) (zipS [6] [.bool false]) [rw2 n xs]) ∧
      (goodL rho (xs.drop (i * 2)) = false → LoopT Try.prog Try.f17.ntmps 1 c17 (zipS live17 (st17 (C + x) last n i)) (hp17 n xs rho R P Q F D C T E (T + off + y)) .ret (zipS [6] [.bool true]) [rw2 n xs]) := by
  obtain ⟨m1, m2, m3, m4, m5, m6, m7, _⟩ := may_iff.1 hm
  obtain ⟨i1, i2, i3, i4, i5⟩ := inB_iff.1 (m7 rfl)
  have hR : 1 ≤ R ∧ R ≤ 2147484 := by rw [m3]; exact upR ⟨m1, m2⟩
  intro r
  induction r with
  | zero =>
    intro i x y last hir h0 h1 h2 h3 h4 h5
    have : i = n := by omega
    subst this
    rw [List.drop_of_length_le (by omega)]
    exact ⟨fun _ => LoopT.last (fun h => by cases h) (last17 (by omega)), fun h => by cases h⟩
  | succ r ih =>
    intro i x y last hir h0 h1 h2 h3 h4 h5
    have hi : i < n := by omega
    have e1 : xs.drop (i * 2) = xs.getD (i * 2) 0 :: xs.getD (i * 2 + 1) 0 :: xs.drop ((i + 1) * 2) := by
      rw [up_drop (by omega), up_drop (k := i * 2 + 1) (by omega), show (i + 1) * 2 = i * 2 + 1 + 1 by omega]
    have eg : goodL rho (xs.drop (i * 2)) = (driftB rho (xs.getD (i * 2) 0) (xs.getD (i * 2 + 1) 0) && (decide (xs.getD (i * 2) 0 ≤ 1125899906842624) && goodL rho (xs.drop ((i + 1) * 2)))) := by rw [e1]; rfl
    rw [eg]
    cases hb : (driftB rho (xs.getD (i * 2) 0) (xs.getD (i * 2 + 1) 0) && decide (xs.getD (i * 2) 0 ≤ 1125899906842624)) with
    | false =>
      rw [← Bool.and_assoc, hb, Bool.false_and]
      exact ⟨fun h => (by cases h), fun _ => LoopT.last (fun h => by cases h) (bad17 hi ⟨m1, m2⟩ hb)⟩
    | true =>
      rw [← Bool.and_assoc, hb, Bool.true_and]
      simp only [Bool.and_eq_true, decide_eq_true_eq] at hb
      obtain ⟨hd, ht⟩ := hb
      obtain ⟨g1, g2, g3, g4⟩ := chk_iff.1 hd
      -- the numbers
      have k1 : rho * (y + xs.getD (i * 2) 0) = rho * y + rho * xs.getD (i * 2) 0 := Int.mul_add ..
      have k2 : rho * y ≤ 500 * y := Int.mul_le_mul_of_nonneg_right m2 h1
      have k3 : rho * xs.getD (i * 2) 0 ≤ 500 * xs.getD (i * 2) 0 := Int.mul_le_mul_of_nonneg_right m2 g1
      have hie : (i : Int) * 1125899906842624 ≤ 59 * 1125899906842624 := Int.mul_le_mul_of_nonneg_right (by omega) (by decide)
      have hx2 : 0 ≤ x + xs.getD (i * 2 + 1) 0 ∧ x + xs.getD (i * 2 + 1) 0 ≤ 144115188075855872 := by omega
      have ex := honest (F := F) (D := D) (T := T) (off := off) (y := y + xs.getD (i * 2) 0) ⟨m1, m2⟩ hR ⟨i4, i5⟩ ⟨i2, hT⟩ ho hx2 (by omega) (by omega) (by omega)
      obtain ⟨x1, x2, x3, x4, x5, x6⟩ := ex
      have hmono := readE_mono (E := E) ⟨m1, m2⟩ hR ⟨i4, i5⟩ h0 (show x ≤ x + xs.getD (i * 2 + 1) 0 by omega) hx2.2
      have hrd : readZ rho R P Q F D true C T E (C + x + xs.getD (i * 2 + 1) 0) = (readT R F D T (x + xs.getD (i * 2 + 1) 0), readE rho R E (x + xs.getD (i * 2 + 1) 0), 0) :=
        readZ_ok hm (by omega) (by congr 1; omega) (by congr 1; omega) (by omega) (by omega) (by omega)
      have st := good17 (xs := xs) (n := n) (i := i) (F := F) (D := D) (P := P) (Q := Q) hi hn ⟨m1, m2⟩ ⟨i4, i5⟩ ⟨i1, hC⟩ (c := C + x) (last := last) (z := T + off + y) hd ht (by omega) (by omega) hrd (by omega) x3 (by omega) x4
        (by rw [show T + off + y + xs.getD (i * 2) 0 = T + off + (y + xs.getD (i * 2) 0) by omega]; exact x5) (by rw [show C + x + xs.getD (i * 2 + 1) 0 - C = x + xs.getD (i * 2 + 1) 0 by omega]; exact x6)
      rw [show C + x + xs.getD (i * 2 + 1) 0 = C + (x + xs.getD (i * 2 + 1) 0) by omega, show T + off + y + xs.getD (i * 2) 0 = T + off + (y + xs.getD (i * 2) 0) by omega] at st
      obtain ⟨q1, q2⟩ := ih (i + 1) (x + xs.getD (i * 2 + 1) 0) (y + xs.getD (i * 2) 0) (readE rho R E (x + xs.getD (i * 2 + 1) 0)) (by omega) hx2.1 (by omega) (by rw [Int.natCast_add, Int.add_mul]; omega) (by omega) (by omega) (Int.le_refl _)
      exact ⟨fun h => LoopT.step st (q1 h), fun h => LoopT.step st (q2 h)⟩
end
theorem loopOK17 : LoopOK Try.prog Try.f17.ntmps 1 (loopOf Try.f17 0) live17 L17f := by
  refine LoopOK.of_T ?_
  intro vs h k out hk
  unfold L17f at hk
  split at hk
  · rename_i c n n' m xs rho R P Q F D C T E nb k1 k2 zs
    obtain ⟨hb, hk2⟩ := bif_t hk
    obtain ⟨rfl, rfl, h3, rfl, h5, h6, h7, z, rfl, rfl, rfl, rfl, h8, h9⟩ := chk_iff.1 hb
    cases hg : goodL rho xs with
    | true =>
      rw [hg] at hk2
      refine ⟨_, _, _, hk2, fun real => ?_⟩
      have hl := real.wseg (i := 0) rfl
      obtain ⟨_, m2, m3, _⟩ := may_iff.1 h5
      have hx0 : 0 ≤ readE rho R E 0 := by
        obtain ⟨m1, m2, m3, m4, m5, m6, m7, _⟩ := may_iff.1 h5
        obtain ⟨i1, i2, i3, i4, i5⟩ := inB_iff.1 (m7 rfl)
        rw [readE_eq ⟨m1, m2⟩ (by rw [m3]; exact upR ⟨m1, m2⟩) ⟨i4, i5⟩ (by omega)]
        omega
      have := (loopT17 (F := F) (D := D) (P := P) (Q := Q) h3 hl h5 h7 h6 (off := z - T) (by omega) n 0 0 0 0 (by omega) (by omega) (by omega) (by omega) (by omega) (by omega) hx0).1 (by rw [Nat.zero_mul, List.drop_zero]; exact hg)
      rw [Int.add_zero, show T + (z - T) + 0 = z by omega] at this
      exact this
    | false =>
      rw [hg] at hk2
      refine ⟨_, _, _, hk2, fun real => ?_⟩
      have hl := real.wseg (i := 0) rfl
      have hx0 : 0 ≤ readE rho R E 0 := by
        obtain ⟨m1, m2, m3, m4, m5, m6, m7, _⟩ := may_iff.1 h5
        obtain ⟨i1, i2, i3, i4, i5⟩ := inB_iff.1 (m7 rfl)
        rw [readE_eq ⟨m1, m2⟩ (by rw [m3]; exact upR ⟨m1, m2⟩) ⟨i4, i5⟩ (by omega)]
        omega
      have := (loopT17 (F := F) (D := D) (P := P) (Q := Q) h3 hl h5 h7 h6 (off := z - T) (by omega) n 0 0 0 0 (by omega) (by omega) (by omega) (by omega) (by omega) (by omega) hx0).2 (by rw [Nat.zero_mul, List.drop_zero]; exact hg)
      rw [Int.add_zero, show T + (z - T) + 0 = z by omega] at this
      exact this
  · cases hk
theorem loops17 : LoopsOK Try.prog L17 Try.f17.ntmps 1 (bodyOf Try.f17) := loops_one rfl (by kernel_rfl) loopOK17
theorem law17 {rho R P Q F D C T E off : Int} {s : Bool} {n : Nat} {xs : List Int} (hE : -9223372036854775808 ≤ E ∧ E ≤ 9223372036854775807) : fnK Try.prog S17 L17 Try.f17 [kV rho R P Q F D s C T E, w63 off, sl 0 n 2] [rw2 n xs] = some (.ret (.bool true) [rw2 n xs]) := by
  cases s with
  | false =>
    rw [cf17n]
    cases mayK rho R P Q F D false C T E <;> rfl
  | true =>
    refine (cf17 rho R P Q F D C T E off n xs).trans ?_
    refine bc (fun _ => rfl) (fun c1 => dc (fun _ => rfl) (fun c2 => dc (fun _ => rfl) (fun c3 => dc (fun _ => rfl) (fun c4 => ?_))))
    have hm : mayK rho R P Q F D true C T E = true := by simpa using c1
    obtain ⟨m1, m2, m3, m4, m5, m6, m7, _⟩ := may_iff.1 hm
    obtain ⟨i1, i2, i3, i4, i5⟩ := inB_iff.1 (m7 rfl)
    rw [swrap (x := 0 - E) (by omega) (by omega)]
    refine dc (fun _ => rfl) (fun c5 => dc (fun _ => rfl) (fun c6 => ?_))
    simp (disch := omega) only [numW_digits, sgn_self, nb4, lb4, ble_self, Bool.and_self, condT]
    rw [chk_t ⟨trivial, trivial, by omega, trivial, hm, by omega, by omega, T + off, rfl, rfl, trivial, rfl, by omega, by omega⟩, condT]
    cases goodL rho xs <;> rfl
def F17 : FSpec := fun args h k => match args, h with
  | [.agg ⟨[.int .i64 _, .int .i64 _, .int .u64 _, .int .u64 _, .int .i64 _, .int .i64 _, .bool _, .int .i64 _, .int .i64 _, .int .i64 _]⟩, .int .i64 _, .slice (some ⟨0, 0, none⟩) n 2], [some ⟨false, 2, [.ints .i64 m xs]⟩] =>
    bif Nat.beq m (n * 2) then k (.bool true) [some ⟨false, 2, [.ints .i64 m xs]⟩] else none
  | _, _ => none
theorem ok17 : EntryOK Try.prog 17 F17 := by
  refine EntryOK.of_fn S17_ok follows_ok Try.func17 (by kernel_rfl) (by kernel_rfl) ?_
  intro args h k out hF
  unfold F17 at hF
  split at hF
  · obtain ⟨hb, hF2⟩ := bif_t hF
    have := beq_true hb
    subst this
    exact ⟨_, _, hF2, fun real => ⟨L17, loops17, law17 (real.agg (i := 0) rfl (j := 9) rfl)⟩⟩
  · cases hF
theorem top17 {rho R P Q F D C T E off : Int} {s : Bool} {n : Nat} {xs : List Int} {k : Value → Heap → Out} : F17 [kV rho R P Q F D s C T E, w63 off, sl 0 n 2] [rw2 n xs] k = k (.bool true) [rw2 n xs] := by
  show (bif Nat.beq (n * 2) (n * 2) then k (.bool true) [rw2 n xs] else none) = _
  rw [beq_t rfl, condT]
end Go.Proofs.Ytfgehfnlkakioaa.VC
