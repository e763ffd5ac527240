/- The window of numbers: its functions. -/
import Derived.Test.YthdeanljgdjbhaaMX1
namespace Go.Proofs.Ythdeanljgdjbhaa.VC
open Go Go.Proofs

/-- A window: how many it may hold, the slice of what it holds. -/
abbrev mB (own : Bool) (n : Int) (v : Value) : Option Blk := some ⟨own, 2, [.ints .i64 1 [n], .vals [v]]⟩
abbrev rB (own : Bool) (k : Nat) (xs : List Int) : Option Blk := some ⟨own, 1, [.ints .i64 k xs]⟩
--CP cNewT (n : Int) :: fnK Try.prog ((mkS []).on [(9, false)]) noL Try.f9 [w63 n] []
theorem cNewT (n : Int)
    (h1 : ¬n < (1 : Int) := by first | omega | assumption | rfl)
    (h2 : ¬n > (15 : Int) := by first | omega | assumption | rfl) : fnK Try.prog ((mkS []).on [(9, false)]) noL Try.f9 [w63 n] [] =
     (some (Res.ret (Value.tuple (Array.mk [Value.pointer (some (Addr.mk (0 : Nat) (0 : Nat) none)), Value.int IntKind.i64 (0 : Int)])) [some (Blk.mk true (2 : Nat) [Seg.ints IntKind.i64 (1 : Nat) [n],
     Seg.vals [Value.slice none (0 : Nat) (0 : Nat)]])])) :=
  Eq.trans (by kernel_rfl) (go_f (dec_f h1) (go_f (dec_f h2) rfl))
--CFEND
--CF cAll0 . :: fnK Try.prog (mkS []) noL Try.f13 [.pointer none] []
theorem cAll0  : fnK Try.prog (mkS []) noL Try.f13 [.pointer none] [] =
     (some (Res.ret (Value.slice none 0 0) [])) := by kernel_rfl
--CFEND
--CF cAllN (n : Int) :: fnK Try.prog (mkS []) noL Try.f13 [pt 0] [mB false n (.slice none 0 0)]
theorem cAllN (n : Int) : fnK Try.prog (mkS []) noL Try.f13 [pt 0] [mB false n (.slice none 0 0)] =
     (some (Res.ret (Value.slice none 0 0) [some (Blk.mk false 2 [Seg.ints IntKind.i64 1 [n], Seg.vals [Value.slice none 0 0]])])) := by kernel_rfl
--CFEND
--CP cAllS (n : Int) (k c : Nat) (xs : List Int) :: fnK Try.prog ((mkS []).on [(13, false)]) noL Try.f13 [pt 0] [mB false n (sl 1 k c), rB false k xs]
theorem cAllS (n : Int) (k c : Nat) (xs : List Int)
    (h1 : (↑k : Int) ≠ (0 : Int) := by first | omega | assumption | rfl)
    (h2 : (0 : Int) ≤ (↑k : Int) := by first | omega | assumption | rfl)
    (h3 : (↑k : Int) ≤ (↑k : Int) := by first | omega | assumption | rfl)
    (h4 : (8 : Int) * (↑k : Int) ≤ (281474976710656 : Int) := by first | omega | assumption | rfl)
    (h5 : (↑k : Int) ≤ (4611686018427387904 : Int) := by first | omega | assumption | rfl)
    (h6 : k ≤ k := by first | omega | assumption | rfl) : fnK Try.prog ((mkS []).on [(13, false)]) noL Try.f13 [pt 0] [mB false n (sl 1 k c), rB false k xs] =
     (bif k.beq (0 : Nat) then some (Res.ret (Value.slice (some (Addr.mk (2 : Nat) (0 : Nat) none)) k (bif decide ((↑k : Int) = (↑k : Int)) then (0 : Nat) else (1 : Nat))) [some (Blk.mk false (2 : Nat)
     [Seg.ints IntKind.i64 (1 : Nat) [n], Seg.vals [Value.slice (some (Addr.mk (1 : Nat) (0 : Nat) none)) k c]]), some (Blk.mk false (1 : Nat) [Seg.ints IntKind.i64 k xs]), some (Blk.mk true (1 : Nat)
     [Seg.ints IntKind.i64 k (List.replicate k (0 : Int))])]) else bif k.ble (4611686018427387904 : Nat) && k.ble (4611686018427387904 : Nat) then bif k.ble k then bif k.ble k then some (Res.ret
     (Value.slice (some (Addr.mk (2 : Nat) (0 : Nat) none)) k (bif decide ((↑k : Int) = (↑k : Int)) then (0 : Nat) else (1 : Nat))) [some (Blk.mk false (2 : Nat) [Seg.ints IntKind.i64 (1 : Nat) [n],
     Seg.vals [Value.slice (some (Addr.mk (1 : Nat) (0 : Nat) none)) k c]]), some (Blk.mk false (1 : Nat) [Seg.ints IntKind.i64 k xs]), some (Blk.mk true (1 : Nat) [Seg.ints IntKind.i64 (k + (k - k))
     (List.take (0 : Nat) (List.replicate k (0 : Int)) ++ (List.take k xs ++ List.drop k (List.replicate k (0 : Int))))])]) else none else bif k.ble k then bif k.ble k then some (Res.ret (Value.slice (some
     (Addr.mk (2 : Nat) (0 : Nat) none)) k (bif decide ((↑k : Int) = (↑k : Int)) then (0 : Nat) else (1 : Nat))) [some (Blk.mk false (2 : Nat) [Seg.ints IntKind.i64 (1 : Nat) [n], Seg.vals [Value.slice
     (some (Addr.mk (1 : Nat) (0 : Nat) none)) k c]]), some (Blk.mk false (1 : Nat) [Seg.ints IntKind.i64 k xs]), some (Blk.mk true (1 : Nat) [Seg.ints IntKind.i64 (k + (k - k)) (List.take (0 : Nat)
     (List.replicate k (0 : Int)) ++ (List.take k (List.take k xs) ++ List.drop k (List.replicate k (0 : Int))))])]) else none else none else none) :=
  Eq.trans (b :=
     bif (↑k : Int) == (0 : Int) then none else bif decide ((0 : Int) ≤ (↑k : Int)) && decide ((↑k : Int) ≤ (↑k : Int)) && decide ((8 : Int) * (↑k : Int) ≤ (281474976710656 : Int)) && decide ((↑k : Int) ≤
     (4611686018427387904 : Int)) then bif (k * (1 : Nat)).ble k then bif (↑k : Int).toNat.beq (OfNat.ofNat (0 : Nat)) then some (Res.ret (Value.slice (some (Addr.mk (2 : Nat) (0 : Nat) none)) (↑k :
     Int).toNat (bif decide ((↑k : Int) = (↑k : Int)) then (0 : Nat) else (1 : Nat))) [some (Blk.mk false (2 : Nat) [Seg.ints IntKind.i64 (1 : Nat) [n], Seg.vals [Value.slice (some (Addr.mk (1 : Nat) (0 :
     Nat) none)) k c]]), some (Blk.mk false (1 : Nat) [Seg.ints IntKind.i64 k xs]), some (Blk.mk true (1 : Nat) [Seg.ints IntKind.i64 (↑k : Int).toNat (List.replicate (↑k : Int).toNat (0 : Int))])]) else
     bif k.ble (OfNat.ofNat (4611686018427387904 : Nat)) && (↑k : Int).toNat.ble (OfNat.ofNat (4611686018427387904 : Nat)) then bif k.ble (↑k : Int).toNat then bif ((0 : Nat) + k * (1 : Nat)).ble (↑k :
     Int).toNat then some (Res.ret (Value.slice (some (Addr.mk (2 : Nat) (0 : Nat) none)) (↑k : Int).toNat (bif decide ((↑k : Int) = (↑k : Int)) then (0 : Nat) else (1 : Nat))) [some (Blk.mk false (2 :
     Nat) [Seg.ints IntKind.i64 (1 : Nat) [n], Seg.vals [Value.slice (some (Addr.mk (1 : Nat) (0 : Nat) none)) k c]]), some (Blk.mk false (1 : Nat) [Seg.ints IntKind.i64 k xs]), some (Blk.mk true (1 : Nat)
     [Seg.ints IntKind.i64 ((0 : Nat) + (k * (1 : Nat) + ((↑k : Int).toNat - ((0 : Nat) + k * (1 : Nat))))) (List.take (0 : Nat) (List.replicate (↑k : Int).toNat (0 : Int)) ++ (List.take (k * (1 : Nat)) xs
     ++ List.drop ((0 : Nat) + k * (1 : Nat)) (List.replicate (↑k : Int).toNat (0 : Int))))])]) else none else bif ((↑k : Int).toNat * (1 : Nat)).ble (k * (1 : Nat)) then bif ((0 : Nat) + (↑k : Int).toNat
     * (1 : Nat)).ble (↑k : Int).toNat then some (Res.ret (Value.slice (some (Addr.mk (2 : Nat) (0 : Nat) none)) (↑k : Int).toNat (bif decide ((↑k : Int) = (↑k : Int)) then (0 : Nat) else (1 : Nat))) [some
     (Blk.mk false (2 : Nat) [Seg.ints IntKind.i64 (1 : Nat) [n], Seg.vals [Value.slice (some (Addr.mk (1 : Nat) (0 : Nat) none)) k c]]), some (Blk.mk false (1 : Nat) [Seg.ints IntKind.i64 k xs]), some
     (Blk.mk true (1 : Nat) [Seg.ints IntKind.i64 ((0 : Nat) + ((↑k : Int).toNat * (1 : Nat) + ((↑k : Int).toNat - ((0 : Nat) + (↑k : Int).toNat * (1 : Nat))))) (List.take (0 : Nat) (List.replicate (↑k :
     Int).toNat (0 : Int)) ++ (List.take ((↑k : Int).toNat * (1 : Nat)) (List.take (k * (1 : Nat)) xs) ++ List.drop ((0 : Nat) + (↑k : Int).toNat * (1 : Nat)) (List.replicate (↑k : Int).toNat (0 :
     Int))))])]) else none else none else none else none else none) (by kernel_rfl) (by simp only [-eq_self, Nat.mul_one, Int.toNat_natCast, Nat.zero_add]; exact (go_f (eqb_f h1) (go_t (and_t (and_t (and_t (dec_t h2) (dec_t h3)) (dec_t h4)) (dec_t h5)) (go_t (ble_t h6) rfl))))
--CFEND
--CP cMid (k c : Nat) (xs : List Int) :: fnK Try.prog (mkS []) noL Try.f33 [pt 0] [some ⟨false, 1, [.vals [sl 1 k c]]⟩, rB false k xs]
theorem cMid (k c : Nat) (xs : List Int)
    (w1 : -9223372036854775808 ≤ (↑k : Int) - (1 : Int) ∧ (↑k : Int) - (1 : Int) ≤ 9223372036854775807 := by omega)
    (w2 : -9223372036854775808 ≤ ((↑k : Int) - (1 : Int)).tdiv (2 : Int) ∧ ((↑k : Int) - (1 : Int)).tdiv (2 : Int) ≤ 9223372036854775807 := by omega)
    (h1 : (0 : Int) ≤ ((↑k : Int) - (1 : Int)).tdiv (2 : Int) := by first | omega | assumption | rfl)
    (h2 : ((↑k : Int) - (1 : Int)).tdiv (2 : Int) < (↑k : Int) := by first | omega | assumption | rfl)
    (h3 : (((↑k : Int) - (1 : Int)).tdiv (2 : Int)).toNat < k := by first | omega | assumption | rfl) : fnK Try.prog (mkS []) noL Try.f33 [pt 0] [some ⟨false, 1, [.vals [sl 1 k c]]⟩, rB false k xs] =
     (some (Res.ret (Value.int IntKind.i64 (xs.getD (((↑k : Int) - (1 : Int)).tdiv (2 : Int)).toNat (0 : Int))) [some (Blk.mk false (1 : Nat) [Seg.vals [Value.slice (some (Addr.mk (1 : Nat) (0 : Nat)
     none)) k c]]), some (Blk.mk false (1 : Nat) [Seg.ints IntKind.i64 k xs])])) :=
  Eq.trans (b :=
     bif decide ((0 : Int) ≤ IntKind.i64.wrap ((IntKind.i64.wrap ((↑k : Int) - (1 : Int))).tdiv (2 : Int))) && decide (IntKind.i64.wrap ((IntKind.i64.wrap ((↑k : Int) - (1 : Int))).tdiv (2 : Int)) < (↑k :
     Int)) then bif ((0 : Nat) + (IntKind.i64.wrap ((IntKind.i64.wrap ((↑k : Int) - (1 : Int))).tdiv (2 : Int))).toNat * (1 : Nat)).blt k then some (Res.ret (Value.int IntKind.i64 (xs.getD ((0 : Nat) +
     (IntKind.i64.wrap ((IntKind.i64.wrap ((↑k : Int) - (1 : Int))).tdiv (2 : Int))).toNat * (1 : Nat)) (0 : Int))) [some (Blk.mk false (1 : Nat) [Seg.vals [Value.slice (some (Addr.mk (1 : Nat) (0 : Nat)
     none)) k c]]), some (Blk.mk false (1 : Nat) [Seg.ints IntKind.i64 k xs])]) else none else none) (by kernel_rfl) (by simp only [-eq_self, Nat.mul_one, Nat.zero_add, swrap w1.1 w1.2, swrap w2.1 w2.2]; exact (go_t (and_t (dec_t h1) (dec_t h2)) (go_t (blt_t h3) rfl)))
--CFEND

def midI (k : Nat) : Nat := (((k : Int) - 1).tdiv 2).toNat
theorem midI_eq (k : Nat) (h : 1 ≤ k) : midI k = (k - 1) / 2 := by
  unfold midI
  rw [show ((k : Int) - 1) = ((k - 1 : Nat) : Int) by omega, Int.tdiv_eq_ediv_of_nonneg (by omega)]
  omega

/-- A slice of a whole block has its room in it. -/
theorem cap01 {ι : Map} {base : Nat} {h : Heap} {w : World} {id m : Nat} {v' : Value} {b : Blk} (hr : HR ι base h w) (hb : h[id]? = some (some b)) (hes : b.es = 1) (hm : 1 ≤ m) (hmp : isMp b.segs = false) (hc : (cell? b.segs (m - 1)).isSome = true)
    (hv : VR ι (sl id m 0) v') : VR ι (sl id m 1) v' := by
  cases hv with
  | slZero a => exact .slZero a
  | @sl _ _ _ _ c' l h h0 h1 ht ha =>
    refine .sl h h0 h1 (fun e => by cases e) (fun _ => ?_)
    rw [ht rfl]
    rcases hr.live id b hb with ⟨p1, _⟩ | ⟨l', p1, ⟨cs, T, fr, b1, b2, b3, b4, b5, b6⟩ | ⟨_, _, ents, _, b2, _⟩⟩
    · rw [h] at p1; cases p1
    · rw [h] at p1; cases p1
      obtain ⟨u, hu⟩ := Option.isSome_iff_exists.1 hc
      obtain ⟨u', hu', _⟩ := b5 _ _ hu
      have := (Array.getElem?_eq_some_iff.1 hu').1
      rw [← b3, hes]
      omega
    · rw [b2] at hmp; cases hmp
noncomputable def FAllN : FSpec := fun args h k => match args, h with
  | [.pointer (some ⟨0, 0, none⟩)], [some ⟨false, 2, [.ints .i64 1 [n], .vals [.slice none 0 0]]⟩] => k (.slice none 0 0) [mB false n (.slice none 0 0)]
  | _, _ => none
noncomputable def FAll : FSpec := fun args h k => match args, h with
  | [.pointer (some ⟨0, 0, none⟩)], [some ⟨false, 2, [.ints .i64 1 [n], .vals [.slice (some ⟨1, 0, none⟩) m c]]⟩, some ⟨false, 1, [.ints .i64 m2 xs]⟩] =>
    bif chk (1 ≤ m ∧ m ≤ 1000 ∧ m2 = m ∧ xs.length = m) then k (sl 2 m 1) [mB false n (sl 1 m c), rB false m xs, rB true m xs] else none
  | _, _ => none
noncomputable def FMid : FSpec := fun args h k => match args, h with
  | [.pointer (some ⟨0, 0, none⟩)], [some ⟨false, 1, [.vals [.slice (some ⟨1, 0, none⟩) m c]]⟩, some ⟨false, 1, [.ints .i64 m2 xs]⟩] =>
    bif chk (1 ≤ m ∧ m ≤ 1000 ∧ m2 = m ∧ xs.length = m) then k (w63 (xs.getD (midI m) 0)) [some ⟨false, 1, [.vals [sl 1 m c]]⟩, rB false m xs] else none
  | _, _ => none

theorem okAllN : EntryOK Try.prog 13 FAllN := by
  refine EntryOK.of_paths (fn := Try.f13) follows_ok Try.func13 (by kernel_rfl) (by kernel_rfl) ?_
  intro args h k out hF
  unfold FAllN at hF
  split at hF
  · exact ⟨_, _, hF, fun _ => ⟨_, noL, mk0, noL_ok, cAllN _⟩⟩
  · cases hF
theorem okMid : EntryOK Try.prog 33 FMid := by
  refine EntryOK.of_paths (fn := Try.f33) follows_ok Try.func33 (by kernel_rfl) (by kernel_rfl) ?_
  intro args h k out hF
  unfold FMid at hF
  split at hF
  · obtain ⟨hb, hF2⟩ := bif_t hF
    obtain ⟨h1, h2, rfl, h4⟩ := chk_iff.1 hb
    refine ⟨_, _, hF2, fun _ => ⟨_, noL, mk0, noL_ok, ?_⟩⟩
    rename_i c m2 xs _
    have e := midI_eq m2 h1
    have e2 : ((m2 : Int) - 1).tdiv 2 = (((m2 - 1) / 2 : Nat) : Int) := by rw [show ((m2 : Int) - 1) = ((m2 - 1 : Nat) : Int) by omega, Int.tdiv_eq_ediv_of_nonneg (by omega)]; omega
    exact cMid m2 c xs (by omega) (by rw [e2]; omega) (by rw [e2]; omega) (by rw [e2]; omega) (by rw [e2]; omega)
  · cases hF
theorem okAll : EntryOK Try.prog 13 FAll := by
  refine EntryOK.of_fn_weak (S := (mkS []).on [(13, false)]) (fn := Try.f13) mk0 follows_ok Try.func13 (by kernel_rfl) (by kernel_rfl) ?_
  intro args h k out hF
  unfold FAll at hF
  split at hF
  · obtain ⟨hb, hF2⟩ := bif_t hF
    obtain ⟨h1, h2, rfl, h4⟩ := chk_iff.1 hb
    rename_i n c m xs
    refine ⟨_, _, hF2, fun _ => ⟨noL, sl 2 m 0, _, noL_ok, ?_, ⟨fun _ _ _ x => x, fun ι base w v' hr x => cap01 (id := 2) (b := ⟨true, 1, [.ints .i64 m xs]⟩) hr rfl rfl h1 rfl (by simp [cell?, show m - 1 < m by omega]) x, fun _ _ x => x⟩⟩⟩
    rw [cAllS n m c xs (by omega)]
    have q1 : m.beq 0 = false := by
      cases hm : m.beq 0 with
      | false => rfl
      | true => have := beq_true hm; omega
    have q2 : m.ble 4611686018427387904 = true := Nat.ble_eq_true_of_le (by omega)
    have q3 : m.ble m = true := Nat.ble_eq_true_of_le (Nat.le_refl _)
    have q4 : (List.take 0 (List.replicate m (0 : Int)) ++ (List.take m xs ++ List.drop m (List.replicate m (0 : Int)))) = xs := by
      rw [List.take_zero, List.nil_append, List.take_of_length_le (by omega), List.drop_eq_nil_of_le (by simp), List.append_nil]
    rw [q1, q2, q3, q4, Nat.sub_self, Nat.add_zero]
    simp only [decide_true, cond_true, cond_false, Bool.and_self]
  · cases hF

noncomputable def S12 : Spec := mkS [(13, false, FAll), (34, true, FSrt), (33, false, FMid)]
--CP cVal (n : Int) (k c : Nat) (xs : List Int) :: fnK Try.prog (S12.on [(11, false)]) noL Try.f12 [pt 0] [mB false n (sl 1 k c), rB false k xs]
theorem cVal (n : Int) (k c : Nat) (xs : List Int)
    (h1 : (1 : Nat) ≤ k ∧ k ≤ (1000 : Nat) ∧ k = k ∧ xs.length = k := by first | omega | assumption | rfl | ((repeat' with_reducible apply And.intro) <;> first | rfl | assumption | omega))
    (h2 : (↑k : Int) ≠ (0 : Int) := by first | omega | assumption | rfl)
    (h3 : k = k := by first | omega | assumption | rfl)
    (h4 : (1 : Nat) ≤ k := by first | omega | assumption | rfl)
    (h5 : k ≤ (1000 : Nat) := by first | omega | assumption | rfl)
    (h6 : (1 : Nat) ≤ k ∧ k ≤ (1000 : Nat) ∧ k = k ∧ (srt xs).length = k := by first | omega | assumption | rfl | ((repeat' with_reducible apply And.intro) <;> first | rfl | assumption | omega)) : fnK Try.prog (S12.on [(11, false)]) noL Try.f12 [pt 0] [mB false n (sl 1 k c), rB false k xs] =
     (some (Res.ret (Value.tuple (Array.mk [Value.int IntKind.i64 ((srt xs).getD (midI k) (0 : Int)), Value.bool true])) [some (Blk.mk false (2 : Nat) [Seg.ints IntKind.i64 (1 : Nat) [n], Seg.vals
     [Value.slice (some (Addr.mk (1 : Nat) (0 : Nat) none)) k c]]), some (Blk.mk false (1 : Nat) [Seg.ints IntKind.i64 k xs])])) :=
  Eq.trans (by kernel_rfl) (go_t (chk_t h1) (go_f (eqb_f h2) (go_t (and_t (dec_t h3) (and_t (dec_t h4) (dec_t h5))) (go_t (chk_t h6) rfl))))
--CFEND
theorem S12_ok : SpecOK Try.prog S12 := mkS_cons okAll (mkS_cons okSort (mkS_cons okMid (mkS_nil _)))
/-- The middle one. -/
def mid (xs : List Int) : Int := (srt xs).getD (midI xs.length) 0
noncomputable def FVal : FSpec := fun args h k => match args, h with
  | [.pointer (some ⟨0, 0, none⟩)], [some ⟨false, 2, [.ints .i64 1 [n], .vals [.slice (some ⟨1, 0, none⟩) m c]]⟩, some ⟨false, 1, [.ints .i64 m2 xs]⟩] =>
    bif chk (1 ≤ m ∧ m ≤ 1000 ∧ m2 = m ∧ xs.length = m) then k (.tuple ⟨[w63 (mid xs), .bool true]⟩) [mB false n (sl 1 m c), rB false m xs] else none
  | _, _ => none
theorem okVal : EntryOK Try.prog 12 FVal := by
  refine EntryOK.of_paths (fn := Try.f12) follows_ok Try.func12 (by kernel_rfl) (by kernel_rfl) ?_
  intro args h k out hF
  unfold FVal at hF
  split at hF
  · obtain ⟨hb, hF2⟩ := bif_t hF
    obtain ⟨h1, h2, rfl, h4⟩ := chk_iff.1 hb
    refine ⟨_, _, hF2, fun _ => ⟨S12.on [(11, false)], noL, S12_ok, noL_ok, ?_⟩⟩
    rename_i n c m xs _
    have e : (srt xs).length = m := (srt_len xs).trans h4
    have := cVal n m c xs ⟨h1, h2, rfl, h4⟩ (by omega) rfl h1 h2 ⟨h1, h2, rfl, e⟩
    rw [show mid xs = (srt xs).getD (midI m) 0 by rw [mid, h4]]
    exact this
  · cases hF
--CP cVal0 . :: fnK Try.prog (mkS []) noL Try.f12 [.pointer none] []
theorem cVal0  : fnK Try.prog (mkS []) noL Try.f12 [.pointer none] [] =
     (none) :=
  Eq.trans (by kernel_rfl) rfl
--CFEND
--CP cValN (n : Int) :: fnK Try.prog (mkS [(13, false, FAllN)]) noL Try.f12 [pt 0] [mB false n (.slice none 0 0)]
theorem cValN (n : Int) : fnK Try.prog (mkS [(13, false, FAllN)]) noL Try.f12 [pt 0] [mB false n (.slice none 0 0)] =
     (some (Res.ret (Value.tuple (Array.mk [Value.int IntKind.i64 (0 : Int), Value.bool false])) [some (Blk.mk false (2 : Nat) [Seg.ints IntKind.i64 (1 : Nat) [n], Seg.vals [Value.slice none (0 : Nat) (0 :
     Nat)]])])) :=
  Eq.trans (by kernel_rfl) rfl
--CFEND
--CP cRes0 . :: fnK Try.prog (mkS []) noL Try.f11 [.pointer none] []
theorem cRes0  : fnK Try.prog (mkS []) noL Try.f11 [.pointer none] [] =
     (some (Res.ret (Value.tuple (Array.mk [])) [])) :=
  Eq.trans (by kernel_rfl) rfl
--CFEND
--CP cResN (n : Int) :: fnK Try.prog (mkS []) noL Try.f11 [pt 0] [mB true n (.slice none 0 0)]
theorem cResN (n : Int) : fnK Try.prog (mkS []) noL Try.f11 [pt 0] [mB true n (.slice none 0 0)] =
     (some (Res.ret (Value.tuple (Array.mk [])) [some (Blk.mk true (2 : Nat) [Seg.ints IntKind.i64 (1 : Nat) [n], Seg.vals [Value.slice none (0 : Nat) (0 : Nat)]])])) :=
  Eq.trans (by kernel_rfl) rfl
--CFEND
--CP cRes (n : Int) (k c : Nat) (xs : List Int) :: fnK Try.prog (mkS []) noL Try.f11 [pt 0] [mB true n (sl 1 k c), rB true k xs]
theorem cRes (n : Int) (k c : Nat) (xs : List Int) : fnK Try.prog (mkS []) noL Try.f11 [pt 0] [mB true n (sl 1 k c), rB true k xs] =
     (some (Res.ret (Value.tuple (Array.mk [])) [some (Blk.mk true (2 : Nat) [Seg.ints IntKind.i64 (1 : Nat) [n], Seg.vals [Value.slice none (0 : Nat) (0 : Nat)]]), some (Blk.mk true (1 : Nat) [Seg.ints
     IntKind.i64 k xs])])) :=
  Eq.trans (by kernel_rfl) rfl
--CFEND
--CP cCpy0 . :: fnK Try.prog (mkS []) noL Try.f10 [.pointer none] []
theorem cCpy0  : fnK Try.prog (mkS []) noL Try.f10 [.pointer none] [] =
     (some (Res.ret (Value.pointer none) [])) :=
  Eq.trans (by kernel_rfl) rfl
--CFEND
--CP cCpyN (n : Int) :: fnK Try.prog (mkS [(13, false, FAllN)]) noL Try.f10 [pt 0] [mB false n (.slice none 0 0)]
theorem cCpyN (n : Int) : fnK Try.prog (mkS [(13, false, FAllN)]) noL Try.f10 [pt 0] [mB false n (.slice none 0 0)] =
     (some (Res.ret (Value.pointer (some (Addr.mk (1 : Nat) (0 : Nat) none))) [some (Blk.mk false (2 : Nat) [Seg.ints IntKind.i64 (1 : Nat) [n], Seg.vals [Value.slice none (0 : Nat) (0 : Nat)]]), some
     (Blk.mk true (2 : Nat) [Seg.ints IntKind.i64 (1 : Nat) [n], Seg.vals [Value.slice none (0 : Nat) (0 : Nat)]])])) :=
  Eq.trans (by kernel_rfl) rfl
--CFEND
--CP cCpy (n : Int) (k c : Nat) (xs : List Int) :: fnK Try.prog (mkS [(13, false, FAll)]) noL Try.f10 [pt 0] [mB false n (sl 1 k c), rB false k xs]
theorem cCpy (n : Int) (k c : Nat) (xs : List Int)
    (h1 : (1 : Nat) ≤ k ∧ k ≤ (1000 : Nat) ∧ k = k ∧ xs.length = k := by first | omega | assumption | rfl | ((repeat' with_reducible apply And.intro) <;> first | rfl | assumption | omega)) : fnK Try.prog (mkS [(13, false, FAll)]) noL Try.f10 [pt 0] [mB false n (sl 1 k c), rB false k xs] =
     (some (Res.ret (Value.pointer (some (Addr.mk (2 : Nat) (0 : Nat) none))) [some (Blk.mk false (2 : Nat) [Seg.ints IntKind.i64 (1 : Nat) [n], Seg.vals [Value.slice (some (Addr.mk (1 : Nat) (0 : Nat)
     none)) k c]]), some (Blk.mk false (1 : Nat) [Seg.ints IntKind.i64 k xs]), some (Blk.mk true (2 : Nat) [Seg.ints IntKind.i64 (1 : Nat) [n], Seg.vals [Value.slice (some (Addr.mk (3 : Nat) (0 : Nat)
     none)) k (1 : Nat)]]), some (Blk.mk true (1 : Nat) [Seg.ints IntKind.i64 k xs])])) :=
  Eq.trans (by kernel_rfl) (go_t (chk_t h1) rfl)
--CFEND
--CP cAdd0 (x : Int) :: fnK Try.prog (mkS []) noL Try.f14 [.pointer none, w63 x] []
theorem cAdd0 (x : Int) : fnK Try.prog (mkS []) noL Try.f14 [.pointer none, w63 x] [] =
     (some (Res.ret (Value.int IntKind.i64 (0 : Int)) [])) :=
  Eq.trans (by kernel_rfl) rfl
--CFEND
noncomputable def S14 : Spec := mkS [(12, false, FVal), (35, true, FDel)]
--CP cAddN (n x : Int) :: fnK Try.prog (S14.on [(15, false), (35, false)]) noL Try.f14 [pt 0, w63 x] [mB true n (.slice none 0 0)]
theorem cAddN (n x : Int)
    (h1 : n ≠ (0 : Int) := by first | omega | assumption | rfl)
    (h2 : ¬(1 : Int) > n := by first | omega | assumption | rfl)
    (h3 : (1 : Nat) ≤ (1 : Nat) ∧ (1 : Nat) ≤ (1000 : Nat) ∧ (1 : Nat) = (1 : Nat) ∧ [x].length = (1 : Nat) := by first | omega | assumption | rfl | ((repeat' with_reducible apply And.intro) <;> first | rfl | assumption | omega)) : fnK Try.prog (S14.on [(15, false), (35, false)]) noL Try.f14 [pt 0, w63 x] [mB true n (.slice none 0 0)] =
     (some (Res.ret (Value.int IntKind.i64 (mid [x])) [some (Blk.mk true (2 : Nat) [Seg.ints IntKind.i64 (1 : Nat) [n], Seg.vals [Value.slice (some (Addr.mk (1 : Nat) (0 : Nat) none)) (1 : Nat) (1 :
     Nat)]]), some (Blk.mk true (1 : Nat) [Seg.ints IntKind.i64 (1 : Nat) [x]])])) :=
  Eq.trans (b :=
     bif n == (0 : Int) then none else bif decide ((1 : Int) > n) then none else bif chk ((1 : Nat) ≤ (1 : Nat) ∧ (1 : Nat) ≤ (1000 : Nat) ∧ (1 : Nat) = (1 : Nat) ∧ [x].length = (1 : Nat)) then some
     (Res.ret (Value.int IntKind.i64 (mid [x])) [some (Blk.mk true (2 : Nat) [Seg.ints IntKind.i64 (1 : Nat) [n], Seg.vals [Value.slice (some (Addr.mk (1 : Nat) (0 : Nat) none)) (1 : Nat) (1 : Nat)]]),
     some (Blk.mk true (1 : Nat) [Seg.ints IntKind.i64 (1 : Nat) [x]])]) else none) (by kernel_rfl) (by exact (go_f (eqb_f h1) (go_f (dec_f h2) (go_t (chk_t h3) rfl))))
--CFEND
--CP cAddS (n x : Int) (k : Nat) (xs : List Int) :: fnK Try.prog (S14.on [(15, false), (35, false)]) noL Try.f14 [pt 0, w63 x] [mB true n (sl 1 k 1), rB true k xs]
theorem cAddS (n x : Int) (k : Nat) (xs : List Int)
    (h1 : n ≠ (0 : Int) := by first | omega | assumption | rfl)
    (h2 : k ≤ k := by first | omega | assumption | rfl)
    (h3 : (k + (1 : Nat)) * (8 : Nat) ≤ (140737488355328 : Nat) := by first | omega | assumption | rfl)
    (h4 : k + (1 : Nat) ≤ (4611686018427387904 : Nat) := by first | omega | assumption | rfl)
    (h5 : k = k := by first | omega | assumption | rfl)
    (h6 : ¬(↑(k + (1 : Nat)) : Int) > n := by first | omega | assumption | rfl)
    (h7 : (1 : Nat) ≤ k + (1 : Nat) ∧ k + (1 : Nat) ≤ (1000 : Nat) ∧ k + (1 : Nat) = k + (1 : Nat) ∧ (List.take k xs ++ [x]).length = k + (1 : Nat) := by first | omega | assumption | rfl | ((repeat' with_reducible apply And.intro) <;> first | rfl | assumption | omega)) : fnK Try.prog (S14.on [(15, false), (35, false)]) noL Try.f14 [pt 0, w63 x] [mB true n (sl 1 k 1), rB true k xs] =
     (some (Res.ret (Value.int IntKind.i64 (mid (List.take k xs ++ [x]))) [some (Blk.mk true (2 : Nat) [Seg.ints IntKind.i64 (1 : Nat) [n], Seg.vals [Value.slice (some (Addr.mk (2 : Nat) (0 : Nat) none))
     (k + (1 : Nat)) (1 : Nat)]]), none, some (Blk.mk true (1 : Nat) [Seg.ints IntKind.i64 (k + (1 : Nat)) (List.take k xs ++ [x])])])) :=
  Eq.trans (b :=
     bif n == (0 : Int) then none else bif (k * (1 : Nat)).ble k then bif decide ((k + (1 : Nat)) * (8 : Nat) ≤ (140737488355328 : Nat)) && (k + (1 : Nat)).ble (OfNat.ofNat (4611686018427387904 : Nat))
     then bif ((0 : Nat) + k * (1 : Nat)).beq k && true then bif decide ((↑(k + (1 : Nat)) : Int) > n) then none else bif chk ((1 : Nat) ≤ k + (1 : Nat) ∧ k + (1 : Nat) ≤ (1000 : Nat) ∧ k * (1 : Nat) + (1
     : Nat) = k + (1 : Nat) ∧ (List.take (k * (1 : Nat)) xs ++ [x]).length = k + (1 : Nat)) then some (Res.ret (Value.int IntKind.i64 (mid (List.take (k * (1 : Nat)) xs ++ [x]))) [some (Blk.mk true (2 :
     Nat) [Seg.ints IntKind.i64 (1 : Nat) [n], Seg.vals [Value.slice (some (Addr.mk (2 : Nat) (0 : Nat) none)) (k + (1 : Nat)) (1 : Nat)]]), none, some (Blk.mk true (1 : Nat) [Seg.ints IntKind.i64 (k * (1
     : Nat) + (1 : Nat)) (List.take (k * (1 : Nat)) xs ++ [x])])]) else none else none else none else none) (by kernel_rfl) (by simp only [-eq_self, Nat.mul_one, Nat.zero_add]; exact (go_f (eqb_f h1) (go_t (ble_t h2) (go_t (and_t (dec_t h3) (ble_t h4)) (go_t (and_t (beq_t h5) rfl) (go_f (dec_f h6) (go_t (chk_t h7) rfl)))))))
--CFEND
--CP cAddF (n x : Int) (k : Nat) (xs : List Int) :: fnK Try.prog (S14.on [(15, false), (35, true)]) noL Try.f14 [pt 0, w63 x] [mB true n (sl 1 k 1), rB true k xs]
theorem cAddF (n x : Int) (k : Nat) (xs : List Int)
    (h1 : n ≠ (0 : Int) := by first | omega | assumption | rfl)
    (h2 : k ≤ k := by first | omega | assumption | rfl)
    (h3 : (k + (1 : Nat)) * (8 : Nat) ≤ (140737488355328 : Nat) := by first | omega | assumption | rfl)
    (h4 : k + (1 : Nat) ≤ (4611686018427387904 : Nat) := by first | omega | assumption | rfl)
    (h5 : k = k := by first | omega | assumption | rfl)
    (h6 : (↑(k + (1 : Nat)) : Int) > n := by first | omega | assumption | rfl)
    (h7 : k + (1 : Nat) = k + (1 : Nat) := by first | omega | assumption | rfl)
    (h8 : (1 : Nat) ≤ k + (1 : Nat) := by first | omega | assumption | rfl)
    (h9 : k + (1 : Nat) ≤ (1000 : Nat) := by first | omega | assumption | rfl)
    (h10 : (1 : Nat) ≤ k + (1 : Nat) - (1 : Nat) ∧ k + (1 : Nat) - (1 : Nat) ≤ (1000 : Nat) ∧ k + (1 : Nat) - (1 : Nat) = k + (1 : Nat) - (1 : Nat) ∧ (List.drop (1 : Nat) (List.take k xs ++ [x])).length = k + (1 : Nat) - (1 : Nat) := by first | omega | assumption | rfl | ((repeat' with_reducible apply And.intro) <;> first | rfl | assumption | omega)) : fnK Try.prog (S14.on [(15, false), (35, true)]) noL Try.f14 [pt 0, w63 x] [mB true n (sl 1 k 1), rB true k xs] =
     (some (Res.ret (Value.int IntKind.i64 (mid (List.drop (1 : Nat) (List.take k xs ++ [x])))) [some (Blk.mk true (2 : Nat) [Seg.ints IntKind.i64 (1 : Nat) [n], Seg.vals [Value.slice (some (Addr.mk (2 :
     Nat) (0 : Nat) none)) (k + (1 : Nat) - (1 : Nat)) (1 : Nat)]]), none, some (Blk.mk true (1 : Nat) [Seg.ints IntKind.i64 (k + (1 : Nat) - (1 : Nat)) (List.drop (1 : Nat) (List.take k xs ++ [x]))])])) :=
  Eq.trans (b :=
     bif n == (0 : Int) then none else bif (k * (1 : Nat)).ble k then bif decide ((k + (1 : Nat)) * (8 : Nat) ≤ (140737488355328 : Nat)) && (k + (1 : Nat)).ble (OfNat.ofNat (4611686018427387904 : Nat))
     then bif ((0 : Nat) + k * (1 : Nat)).beq k && true then bif decide ((↑(k + (1 : Nat)) : Int) > n) then bif decide (k + (1 : Nat) = k * (1 : Nat) + (1 : Nat)) && (decide ((1 : Nat) ≤ k + (1 : Nat)) &&
     decide (k + (1 : Nat) ≤ (1000 : Nat))) then bif chk ((1 : Nat) ≤ k + (1 : Nat) - (1 : Nat) ∧ k + (1 : Nat) - (1 : Nat) ≤ (1000 : Nat) ∧ k + (1 : Nat) - (1 : Nat) = k + (1 : Nat) - (1 : Nat) ∧
     (List.drop (1 : Nat) (List.take (k * (1 : Nat)) xs ++ [x])).length = k + (1 : Nat) - (1 : Nat)) then some (Res.ret (Value.int IntKind.i64 (mid (List.drop (1 : Nat) (List.take (k * (1 : Nat)) xs ++
     [x])))) [some (Blk.mk true (2 : Nat) [Seg.ints IntKind.i64 (1 : Nat) [n], Seg.vals [Value.slice (some (Addr.mk (2 : Nat) (0 : Nat) none)) (k + (1 : Nat) - (1 : Nat)) (1 : Nat)]]), none, some (Blk.mk
     true (1 : Nat) [Seg.ints IntKind.i64 (k + (1 : Nat) - (1 : Nat)) (List.drop (1 : Nat) (List.take (k * (1 : Nat)) xs ++ [x]))])]) else none else none else none else none else none else none) (by kernel_rfl) (by simp only [-eq_self, Nat.mul_one, Nat.zero_add]; exact (go_f (eqb_f h1) (go_t (ble_t h2) (go_t (and_t (dec_t h3) (ble_t h4)) (go_t (and_t (beq_t h5) rfl) (go_t (dec_t h6) (go_t (and_t (dec_t h7) (and_t (dec_t h8) (dec_t h9))) (go_t (chk_t h10) rfl))))))))
--CFEND
theorem S14_ok : SpecOK Try.prog S14 := mkS_cons okVal (mkS_cons okDelete (mkS_nil _))
/-- What is held behind another number. -/
def pushW (n : Int) (xs : List Int) (x : Int) : List Int := bif decide ((xs.length : Int) < n) then xs ++ [x] else xs.drop 1 ++ [x]
theorem pushW_len {n : Int} {xs : List Int} {x : Int} (h1 : 1 ≤ xs.length) (hn : (xs.length : Int) ≤ n) : 1 ≤ (pushW n xs x).length ∧ ((pushW n xs x).length : Int) ≤ n ∧ (pushW n xs x).length ≤ xs.length + 1 := by
  unfold pushW
  by_cases h : (xs.length : Int) < n
  · rw [decide_eq_true h]; simp only [cond_true, List.length_append, List.length_singleton]; omega
  · rw [decide_eq_false h]; simp only [cond_false, List.length_append, List.length_singleton, List.length_drop]; omega
noncomputable def FAddN : FSpec := fun args h k => match args, h with
  | [.pointer (some ⟨0, 0, none⟩), .int .i64 x], [some ⟨true, 2, [.ints .i64 1 [n], .vals [.slice none 0 0]]⟩] =>
    bif chk (1 ≤ n) then k (w63 x) [mB true n (sl 1 1 1), rB true 1 [x]] else none
  | _, _ => none
noncomputable def FAdd : FSpec := fun args h k => match args, h with
  | [.pointer (some ⟨0, 0, none⟩), .int .i64 x], [some ⟨true, 2, [.ints .i64 1 [n], .vals [.slice (some ⟨1, 0, none⟩) m c]]⟩, some ⟨true, 1, [.ints .i64 m2 xs]⟩] =>
    bif chk (1 ≤ m ∧ m ≤ 15 ∧ m2 = m ∧ xs.length = m ∧ c = 1 ∧ (m : Int) ≤ n) then
      k (w63 (mid (pushW n xs x))) [mB true n (sl 2 (pushW n xs x).length 1), none, rB true (pushW n xs x).length (pushW n xs x)] else none
  | _, _ => none
theorem mid_one (x : Int) : mid [x] = x := by
  rw [mid, srt, List.mergeSort_singleton, midI_eq _ (by simp)]; simp
theorem okAddN : EntryOK Try.prog 14 FAddN := by
  refine EntryOK.of_paths (fn := Try.f14) follows_ok Try.func14 (by kernel_rfl) (by kernel_rfl) ?_
  intro args h k out hF
  unfold FAddN at hF
  split at hF
  · obtain ⟨hb, hF2⟩ := bif_t hF
    have h1 := chk_iff.1 hb
    rename_i x n
    refine ⟨_, _, hF2, fun _ => ⟨S14.on [(15, false), (35, false)], noL, S14_ok, noL_ok, ?_⟩⟩
    have := cAddN n x (by omega) (by omega) ⟨by omega, by omega, rfl, rfl⟩
    rw [mid_one] at this
    exact this
  · cases hF
theorem okAdd : EntryOK Try.prog 14 FAdd := by
  refine EntryOK.of_paths (fn := Try.f14) follows_ok Try.func14 (by kernel_rfl) (by kernel_rfl) ?_
  intro args h k out hF
  unfold FAdd at hF
  split at hF
  · obtain ⟨hb, hF2⟩ := bif_t hF
    obtain ⟨h1, h2, rfl, h4, rfl, h5⟩ := chk_iff.1 hb
    rename_i x n m xs
    have e1 : xs.take m = xs := List.take_of_length_le (by omega)
    by_cases hlt : (m : Int) < n
    · have e2 : pushW n xs x = xs ++ [x] := by rw [pushW, h4, decide_eq_true hlt]; rfl
      refine ⟨_, _, hF2, fun _ => ⟨S14.on [(15, false), (35, false)], noL, S14_ok, noL_ok, ?_⟩⟩
      have e3 : (xs ++ [x]).length = m + 1 := by simp [h4]
      have := cAddS n x m xs (by omega) (by omega) (by omega) (by omega) rfl (by omega) ⟨by omega, by omega, rfl, by rw [e1, e3]⟩
      rw [e1] at this
      rw [e2, e3]
      exact this
    · have e2 : pushW n xs x = xs.drop 1 ++ [x] := by rw [pushW, h4, decide_eq_false hlt]; rfl
      refine ⟨_, _, hF2, fun _ => ⟨S14.on [(15, false), (35, true)], noL, S14_ok, noL_ok, ?_⟩⟩
      have e3 : (xs.drop 1 ++ [x]).length = m := by simp [h4]; omega
      have e4 : List.drop 1 (List.take m xs ++ [x]) = xs.drop 1 ++ [x] := by rw [e1, List.drop_append_of_le_length (by omega)]
      have := cAddF n x m xs (by omega) (by omega) (by omega) (by omega) rfl (by omega) rfl (by omega) (by omega) ⟨by omega, by omega, rfl, by rw [e4, e3]; omega⟩
      rw [e4, Nat.add_sub_cancel] at this
      rw [e2, e3]
      exact this
  · cases hF
end Go.Proofs.Ythdeanljgdjbhaa.VC
