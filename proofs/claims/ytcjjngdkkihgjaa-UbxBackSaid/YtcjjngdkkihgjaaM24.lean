/- sirf: the law of reading. -/
import Derived.Test.YtcjjngdkkihgjaaM23
namespace Go.Proofs.Ytcjjngdkkihgjaa.VC
open Go Go.Proofs

def decErr (n : Nat) (x : Int) : Int := bif Nat.beq n 0 then 4 else match layS x with
  | none => 7
  | some (len, _) => bif Nat.beq n len then 0 else 5
noncomputable def FDecE (e : Int) : FSpec := fun args h k => match args, h with
  | [.slice (some ⟨0, 0, none⟩) n _], [some ⟨false, 1, [.ints .u8 N xs]⟩] =>
    bif chk (n ≤ N ∧ N ≤ 1000000 ∧ decErr n (xs.getD 0 0) = e ∧ e ≠ 0) then k (.tuple #[.agg #[u8v 0, .slice none 0 0], w63 e]) [rU N xs] else none
  | _, _ => none
noncomputable def FDecV (fl : List Int) : FSpec := fun args h k => match args, h with
  | [.slice (some ⟨0, 0, none⟩) n _], [some ⟨false, 1, [.ints .u8 N xs]⟩] =>
    bif chk (n ≤ N ∧ N ≤ 1000000 ∧ n ≠ 0 ∧ layS (xs.getD 0 0) = some (n, fl)) then k (.tuple #[.agg #[u8v (xs.getD 0 0), sl 1 (fl.length / 2) 1], w63 0]) [rU N xs, oI (fl.length / 2) (decV xs 0 fl (fl.length / 2))] else none
  | _, _ => none
noncomputable def S6E (e : Int) : Spec := mkS [(24, false, FDecE e), (25, false, FDecE e), (26, false, FSsT), (23, false, FKnw)]
noncomputable def S6V (fl : List Int) : Spec := mkS [(24, false, FDecV fl), (25, false, FDecV fl), (26, false, FSsT), (23, false, FKnw)]
--CP p6N (e : Int) (n : Nat) (xs : List Int) :: fnK Try.prog ((S6E e).on [(10, true)]) noL Try.f6 [sl 0 n 2] [rU n xs]
theorem p6N (e : Int) (n : Nat) (xs : List Int)
    (h1 : (↑n : Int) > (1100 : Int) := by first | omega | assumption | rfl) : fnK Try.prog ((S6E e).on [(10, true)]) noL Try.f6 [sl 0 n 2] [rU n xs] =
     (some (Res.ret (Value.bool true) [some (Blk.mk false (1 : Nat) [Seg.ints IntKind.u8 n xs])])) :=
  Eq.trans (by kernel_rfl) (go_t (dec_t h1) rfl)
--CFEND
--CP p6E (e : Int) (n : Nat) (xs : List Int) :: fnK Try.prog ((S6E e).on [(10, false), (33, true), (40, true)]) noL Try.f6 [sl 0 n 2] [rU n xs]
theorem p6E (e : Int) (n : Nat) (xs : List Int)
    (h1 : ¬(↑n : Int) > (1100 : Int) := by first | omega | assumption | rfl)
    (h2 : n ≤ n := by first | omega | assumption | rfl)
    (h3 : n ≤ (140737488355328 : Nat) := by first | omega | assumption | rfl)
    (h4 : n ≤ (4611686018427387904 : Nat) := by first | omega | assumption | rfl)
    (h5 : n ≤ n ∧ n ≤ (1000000 : Nat) ∧ decErr n ((List.take n xs).getD (0 : Nat) (0 : Int)) = e ∧ e ≠ (0 : Int) := by first | omega | assumption | rfl | ((repeat' with_reducible apply And.intro) <;> first | rfl | assumption | omega))
    (h6 : n ≤ n ∧ n ≤ (1000000 : Nat) ∧ decErr n (xs.getD (0 : Nat) (0 : Int)) = e ∧ e ≠ (0 : Int) := by first | omega | assumption | rfl | ((repeat' with_reducible apply And.intro) <;> first | rfl | assumption | omega))
    (h7 : (0 : Int) = (0 : Int) := by first | omega | assumption | rfl)
    (h8 : e = e := by first | omega | assumption | rfl)
    (h9 : ((strOf (List.take n (List.take n xs))).toList == (strOf (List.take n xs)).toList) = true := by first | omega | assumption | rfl) : fnK Try.prog ((S6E e).on [(10, false), (33, true), (40, true)]) noL Try.f6 [sl 0 n 2] [rU n xs] =
     (some (Res.ret (Value.bool true) [some (Blk.mk false (1 : Nat) [Seg.ints IntKind.u8 n xs])])) :=
  Eq.trans (b :=
     bif decide ((↑n : Int) > (1100 : Int)) then none else bif (n * (1 : Nat)).ble n then bif decide (((0 : Nat) + n) * (1 : Nat) ≤ (140737488355328 : Nat)) && ((0 : Nat) + n).ble (OfNat.ofNat
     (4611686018427387904 : Nat)) then bif chk ((0 : Nat) + n ≤ n * (1 : Nat) ∧ n * (1 : Nat) ≤ (1000000 : Nat) ∧ decErr ((0 : Nat) + n) ((List.take (n * (1 : Nat)) xs).getD (0 : Nat) (0 : Int)) = e ∧ e ≠
     (0 : Int)) then bif chk (n ≤ n ∧ n ≤ (1000000 : Nat) ∧ decErr n (xs.getD (0 : Nat) (0 : Int)) = e ∧ e ≠ (0 : Int)) then bif chk ((0 : Int) = (0 : Int)) then bif e == e then bif (((0 : Nat) + n) * (1 :
     Nat)).ble (n * (1 : Nat)) then bif ((0 : Nat) + n).ble (OfNat.ofNat (4611686018427387904 : Nat)) then bif (n * (1 : Nat)).ble n then bif n.ble (OfNat.ofNat (4611686018427387904 : Nat)) then bif (strOf
     (List.take (((0 : Nat) + n) * (1 : Nat)) (List.take (n * (1 : Nat)) xs))).toList == (strOf (List.take (n * (1 : Nat)) xs)).toList then some (Res.ret (Value.bool true) [some (Blk.mk false (1 : Nat)
     [Seg.ints IntKind.u8 n xs])]) else none else none else none else none else none else none else none else none else none else none else none) (by kernel_rfl) (by simp only [-eq_self, Nat.mul_one, Nat.zero_add]; exact (go_f (dec_f h1) (go_t (ble_t h2) (go_t (and_t (dec_t h3) (ble_t h4)) (go_t (chk_t h5) (go_t (chk_t h6) (go_t (chk_t h7) (go_t (eqb_t h8) (go_t (ble_t h2) (go_t (ble_t h4) (go_t (ble_t h2) (go_t (ble_t h4) (go_t h9 rfl)))))))))))))
--CFEND
--CP p6V (n : Nat) (xs fl : List Int) :: fnK Try.prog ((S6V fl).on [(10, false), (33, true), (40, true)]) noL Try.f6 [sl 0 n 2] [rU n xs]
theorem p6V (n : Nat) (xs fl : List Int)
    (h1 : ¬(↑n : Int) > (1100 : Int) := by first | omega | assumption | rfl)
    (h2 : n ≤ n := by first | omega | assumption | rfl)
    (h3 : n ≤ (140737488355328 : Nat) := by first | omega | assumption | rfl)
    (h4 : n ≤ (4611686018427387904 : Nat) := by first | omega | assumption | rfl)
    (h5 : n ≤ n ∧ n ≤ (1000000 : Nat) ∧ n ≠ (0 : Nat) ∧ layS ((List.take n xs).getD (0 : Nat) (0 : Int)) = some (n, fl) := by first | omega | assumption | rfl | ((repeat' with_reducible apply And.intro) <;> first | rfl | assumption | omega))
    (h6 : n ≤ n ∧ n ≤ (1000000 : Nat) ∧ n ≠ (0 : Nat) ∧ layS (xs.getD (0 : Nat) (0 : Int)) = some (n, fl) := by first | omega | assumption | rfl | ((repeat' with_reducible apply And.intro) <;> first | rfl | assumption | omega))
    (h7 : (List.take n xs).getD (0 : Nat) (0 : Int) = xs.getD (0 : Nat) (0 : Int) ∧ fl.length / (2 : Nat) = fl.length / (2 : Nat) ∧ fl.length / (2 : Nat) = fl.length / (2 : Nat) ∧ fl.length / (2 : Nat) = fl.length / (2 : Nat) ∧ fl.length / (2 : Nat) ≤ (1000000 : Nat) ∧ sameTo (decV (List.take n xs) (0 : Nat) fl (fl.length / (2 : Nat))) (decV xs (0 : Nat) fl (fl.length / (2 : Nat))) (fl.length / (2 : Nat)) := by first | omega | assumption | rfl | ((repeat' with_reducible apply And.intro) <;> first | rfl | assumption | omega))
    (h8 : ((strOf (List.take n (List.take n xs))).toList == (strOf (List.take n xs)).toList) = true := by first | omega | assumption | rfl) : fnK Try.prog ((S6V fl).on [(10, false), (33, true), (40, true)]) noL Try.f6 [sl 0 n 2] [rU n xs] =
     (some (Res.ret (Value.bool true) [some (Blk.mk false (1 : Nat) [Seg.ints IntKind.u8 n xs])])) :=
  Eq.trans (b :=
     bif decide ((↑n : Int) > (1100 : Int)) then none else bif (n * (1 : Nat)).ble n then bif decide (((0 : Nat) + n) * (1 : Nat) ≤ (140737488355328 : Nat)) && ((0 : Nat) + n).ble (OfNat.ofNat
     (4611686018427387904 : Nat)) then bif chk ((0 : Nat) + n ≤ n * (1 : Nat) ∧ n * (1 : Nat) ≤ (1000000 : Nat) ∧ (0 : Nat) + n ≠ (0 : Nat) ∧ layS ((List.take (n * (1 : Nat)) xs).getD (0 : Nat) (0 : Int))
     = some ((0 : Nat) + n, fl)) then bif chk (n ≤ n ∧ n ≤ (1000000 : Nat) ∧ n ≠ (0 : Nat) ∧ layS (xs.getD (0 : Nat) (0 : Int)) = some (n, fl)) then bif chk ((List.take (n * (1 : Nat)) xs).getD (0 : Nat)
     (0 : Int) = xs.getD (0 : Nat) (0 : Int) ∧ fl.length / (2 : Nat) = fl.length / (2 : Nat) ∧ fl.length / (2 : Nat) = fl.length / (2 : Nat) ∧ fl.length / (2 : Nat) = fl.length / (2 : Nat) ∧ fl.length / (2
     : Nat) ≤ (1000000 : Nat) ∧ sameTo (decV (List.take (n * (1 : Nat)) xs) (0 : Nat) fl (fl.length / (2 : Nat))) (decV xs (0 : Nat) fl (fl.length / (2 : Nat))) (fl.length / (2 : Nat))) then bif (((0 :
     Nat) + n) * (1 : Nat)).ble (n * (1 : Nat)) then bif ((0 : Nat) + n).ble (OfNat.ofNat (4611686018427387904 : Nat)) then bif (n * (1 : Nat)).ble n then bif n.ble (OfNat.ofNat (4611686018427387904 :
     Nat)) then bif (strOf (List.take (((0 : Nat) + n) * (1 : Nat)) (List.take (n * (1 : Nat)) xs))).toList == (strOf (List.take (n * (1 : Nat)) xs)).toList then some (Res.ret (Value.bool true) [some
     (Blk.mk false (1 : Nat) [Seg.ints IntKind.u8 n xs])]) else none else none else none else none else none else none else none else none else none else none) (by kernel_rfl) (by simp only [-eq_self, Nat.mul_one, Nat.zero_add]; exact (go_f (dec_f h1) (go_t (ble_t h2) (go_t (and_t (dec_t h3) (ble_t h4)) (go_t (chk_t h5) (go_t (chk_t h6) (go_t (chk_t h7) (go_t (ble_t h2) (go_t (ble_t h4) (go_t (ble_t h2) (go_t (ble_t h4) (go_t h8 rfl))))))))))))
--CFEND
theorem decS_E {e : Int} {args : List Value} {h : Heap} {k : Value → Heap → Out} {out : Res} (hF : FDecE e args h k = some out) : FDecS args h k = some out := by
  unfold FDecE at hF
  split at hF
  · rename_i n c N xs
    obtain ⟨hb, hF2⟩ := bif_t hF
    obtain ⟨h1, h2, h3, h4⟩ := chk_iff.1 hb
    refine go_t (chk_of ⟨by omega, h2⟩) ?_
    unfold decErr at h3
    by_cases hn : n = 0
    · rw [beq_t hn] at h3
      subst hn h3
      exact hF2
    · rw [beq_f hn, condF] at h3
      rw [decide_eq_false hn]
      split at h3
      · rename_i hl
        subst h3
        rw [hl]
        exact hF2
      · rename_i len fl hl
        rw [hl]
        by_cases hc : n = len
        · rw [beq_t hc] at h3; exact (h4 h3.symm).elim
        · rw [beq_f hc] at h3
          subst h3
          dsimp only
          rw [decide_eq_false hc]
          exact hF2
  · cases hF
theorem decS_V {fl : List Int} {args : List Value} {h : Heap} {k : Value → Heap → Out} {out : Res} (hF : FDecV fl args h k = some out) : FDecS args h k = some out := by
  unfold FDecV at hF
  split at hF
  · rename_i n c N xs
    obtain ⟨hb, hF2⟩ := bif_t hF
    obtain ⟨h1, h2, h3, h4⟩ := chk_iff.1 hb
    refine go_t (chk_of ⟨by omega, h2⟩) ?_
    rw [decide_eq_false h3, h4]
    dsimp only
    rw [decide_eq_true rfl]
    exact hF2
  · cases hF
theorem okS6E (e : Int) : SpecOK Try.prog (S6E e) := mkS_cons (okDecS.mono fun _ _ _ _ => decS_E) (mkS_cons (okDecR.mono fun _ _ _ _ => decS_E) (mkS_cons okSsT (mkS_cons okKnS (mkS_nil _))))
theorem okS6V (fl : List Int) : SpecOK Try.prog (S6V fl) := mkS_cons (okDecS.mono fun _ _ _ _ => decS_V) (mkS_cons (okDecR.mono fun _ _ _ _ => decS_V) (mkS_cons okSsT (mkS_cons okKnS (mkS_nil _))))
def F6 : FSpec := fun args h k => match args, h with
  | [.slice (some ⟨0, 0, none⟩) n 2], [some ⟨false, 1, [.ints .u8 N xs]⟩] => bif Nat.beq N n then k (.bool true) [rU N xs] else none
  | _, _ => none
theorem ok6 : EntryOK Try.prog 6 F6 := by
  refine EntryOK.of_paths (fn := Try.f6) follows_ok Try.func6 (by kernel_rfl) (by kernel_rfl) ?_
  intro args h k out hF
  unfold F6 at hF
  split at hF
  · rename_i n N xs
    obtain ⟨hb, hF2⟩ := bif_t hF
    obtain rfl := beq_true hb
    refine ⟨_, _, hF2, fun real => ?_⟩
    have hl := (real.segs (i := 0) rfl rfl _ (List.mem_cons_self ..)).1
    have ht : List.take N xs = xs := List.take_of_length_le (by omega)
    by_cases c0 : (N : Int) > 1100
    · exact ⟨_, noL, (okS6E 0).on _, noL_ok, p6N 0 N xs⟩
    · by_cases c1 : decErr N (xs.getD 0 0) = 0
      · have hn : N ≠ 0 := by rintro rfl; cases c1
        obtain ⟨fl, hfl⟩ : ∃ fl, layS (xs.getD 0 0) = some (N, fl) := by
          unfold decErr at c1
          rw [beq_f hn, condF] at c1
          split at c1
          · cases c1
          · rename_i len fl hl
            by_cases hc : N = len
            · subst hc; exact ⟨fl, hl⟩
            · rw [beq_f hc] at c1; cases c1
        obtain ⟨g1, g2, g3, g4, g5, g6⟩ := layS_ok hfl
        have key := @p6V N xs fl
        rw [ht, ht] at key
        exact ⟨_, noL, (okS6V fl).on _, noL_ok, key c0 (by omega) (by omega) (by omega) ⟨by omega, by omega, hn, hfl⟩ ⟨by omega, by omega, hn, hfl⟩ ⟨rfl, rfl, rfl, rfl, by omega, fun i hi => rfl⟩ (by rw [beq_self_eq_true])⟩
      · have key := @p6E (decErr N (xs.getD 0 0)) N xs
        rw [ht, ht] at key
        exact ⟨_, noL, (okS6E _).on _, noL_ok, key c0 (by omega) (by omega) (by omega) ⟨by omega, by omega, rfl, c1⟩ ⟨by omega, by omega, rfl, c1⟩ rfl rfl (by rw [beq_self_eq_true])⟩
  · cases hF
theorem top6 {n : Nat} {xs : List Int} {k : Value → Heap → Out} : F6 [sl 0 n 2] [rU n xs] k = k (.bool true) [rU n xs] := by
  show (bif Nat.beq n n then k (.bool true) [rU n xs] else none) = _
  rw [beq_t rfl]
  exact condT
end Go.Proofs.Ytcjjngdkkihgjaa.VC
