/- sirf: the law of writing. -/
import Derived.Test.YtcjjngdkkihgjaaM24
namespace Go.Proofs.Ytcjjngdkkihgjaa.VC
open Go Go.Proofs

noncomputable def S7E (e : Int) : Spec := mkS [(27, false, FPayE e), (28, false, FPayE e), (29, false, FPayE e), (30, false, FPayE e), (26, false, FSsT), (23, false, FKnw)]
noncomputable def S7K (len : Nat) (fl : List Int) : Spec := mkS [(27, false, FPayK len fl), (28, false, FPayK len fl), (29, false, FEnK len fl), (30, false, FEnK len fl), (26, false, FSsT), (23, false, FKnw)]
--CP p7N (x e : Int) (n : Nat) (xs : List Int) :: fnK Try.prog ((S7E e).on [(15, true)]) noL Try.f7 [.agg #[u8v x, sl 0 n 2]] [rI n xs]
theorem p7N (x e : Int) (n : Nat) (xs : List Int)
    (h1 : (↑n : Int) > (40 : Int) := by first | omega | assumption | rfl) : fnK Try.prog ((S7E e).on [(15, true)]) noL Try.f7 [.agg #[u8v x, sl 0 n 2]] [rI n xs] =
     (some (Res.ret (Value.bool true) [some (Blk.mk false (1 : Nat) [Seg.ints IntKind.i64 n xs])])) :=
  Eq.trans (by kernel_rfl) (go_t (dec_t h1) rfl)
--CFEND
--CP p7E (x e : Int) (n : Nat) (xs : List Int) :: fnK Try.prog ((S7E e).on [(15, false), (48, true), (53, true), (60, true), (65, true), (70, true)]) noL Try.f7 [.agg #[u8v x, sl 0 n 2]] [rI n xs]
theorem p7E (x e : Int) (n : Nat) (xs : List Int)
    (h1 : ¬(↑n : Int) > (40 : Int) := by first | omega | assumption | rfl)
    (h2 : n ≤ n := by first | omega | assumption | rfl)
    (h3 : n * (8 : Nat) ≤ (140737488355328 : Nat) := by first | omega | assumption | rfl)
    (h4 : n ≤ (4611686018427387904 : Nat) := by first | omega | assumption | rfl)
    (h5 : payErr x n (List.take n xs) = e ∧ e ≠ (0 : Int) ∧ n = n ∧ n ≤ (1000000000 : Nat) := by first | omega | assumption | rfl | ((repeat' with_reducible apply And.intro) <;> first | rfl | assumption | omega))
    (h6 : payErr x n xs = e ∧ e ≠ (0 : Int) ∧ n = n ∧ n ≤ (1000000000 : Nat) := by first | omega | assumption | rfl | ((repeat' with_reducible apply And.intro) <;> first | rfl | assumption | omega))
    (h7 : e = e := by first | omega | assumption | rfl)
    (h8 : x = x ∧ n = n ∧ n = n ∧ n = n ∧ n ≤ (1000000 : Nat) ∧ sameTo (List.take n xs) xs n := by first | omega | assumption | rfl | ((repeat' with_reducible apply And.intro) <;> first | rfl | assumption | omega)) : fnK Try.prog ((S7E e).on [(15, false), (48, true), (53, true), (60, true), (65, true), (70, true)]) noL Try.f7 [.agg #[u8v x, sl 0 n 2]] [rI n xs] =
     (some (Res.ret (Value.bool true) [some (Blk.mk false (1 : Nat) [Seg.ints IntKind.i64 n xs])])) :=
  Eq.trans (b :=
     bif decide ((↑n : Int) > (40 : Int)) then none else bif (n * (1 : Nat)).ble n then bif decide (((0 : Nat) + n) * (8 : Nat) ≤ (140737488355328 : Nat)) && ((0 : Nat) + n).ble (OfNat.ofNat
     (4611686018427387904 : Nat)) then bif chk (payErr x ((0 : Nat) + n) (List.take (n * (1 : Nat)) xs) = e ∧ e ≠ (0 : Int) ∧ (0 : Nat) + n = n * (1 : Nat) ∧ (0 : Nat) + n ≤ (1000000000 : Nat)) then bif
     chk (payErr x n xs = e ∧ e ≠ (0 : Int) ∧ n = n ∧ n ≤ (1000000000 : Nat)) then bif chk (payErr x ((0 : Nat) + n) (List.take (n * (1 : Nat)) xs) = e ∧ e ≠ (0 : Int) ∧ (0 : Nat) + n = n * (1 : Nat) ∧ (0
     : Nat) + n ≤ (1000000000 : Nat)) then bif chk (payErr x n xs = e ∧ e ≠ (0 : Int) ∧ n = n ∧ n ≤ (1000000000 : Nat)) then bif e == e then bif e == e then bif chk (x = x ∧ (0 : Nat) + n = n * (1 : Nat) ∧
     n = n ∧ n * (1 : Nat) = n ∧ n * (1 : Nat) ≤ (1000000 : Nat) ∧ sameTo (List.take (n * (1 : Nat)) xs) xs (n * (1 : Nat))) then some (Res.ret (Value.bool true) [some (Blk.mk false (1 : Nat) [Seg.ints
     IntKind.i64 n xs])]) else none else none else none else none else none else none else none else none else none) (by kernel_rfl) (by simp only [-eq_self, Nat.mul_one, Nat.zero_add]; exact (go_f (dec_f h1) (go_t (ble_t h2) (go_t (and_t (dec_t h3) (ble_t h4)) (go_t (chk_t h5) (go_t (chk_t h6) (go_t (chk_t h5) (go_t (chk_t h6) (go_t (eqb_t h7) (go_t (eqb_t h7) (go_t (chk_t h8) rfl)))))))))))
--CFEND
--CP p7K (x : Int) (n len : Nat) (xs fl : List Int) :: fnK Try.prog ((S7K len fl).on [(15, false), (48, true), (53, true), (60, true), (65, true), (70, true)]) noL Try.f7 [.agg #[u8v x, sl 0 n 2]] [rI n xs]
theorem p7K (x : Int) (n len : Nat) (xs fl : List Int)
    (h1 : ¬(↑n : Int) > (40 : Int) := by first | omega | assumption | rfl)
    (h2 : n ≤ n := by first | omega | assumption | rfl)
    (h3 : n * (8 : Nat) ≤ (140737488355328 : Nat) := by first | omega | assumption | rfl)
    (h4 : n ≤ (4611686018427387904 : Nat) := by first | omega | assumption | rfl)
    (h5 : layS x = some (len, fl) ∧ (2 : Nat) * n = fl.length ∧ n = n ∧ fitsTo fl (List.take n xs) n := by first | omega | assumption | rfl | ((repeat' with_reducible apply And.intro) <;> first | rfl | assumption | omega))
    (h6 : layS x = some (len, fl) ∧ (2 : Nat) * n = fl.length ∧ n = n ∧ fitsTo fl xs n := by first | omega | assumption | rfl | ((repeat' with_reducible apply And.intro) <;> first | rfl | assumption | omega))
    (h7 : len ≤ len := by first | omega | assumption | rfl)
    (h8 : len ≤ (4611686018427387904 : Nat) := by first | omega | assumption | rfl)
    (h9 : ((strOf (List.take len (payB (pay0 len x) fl (List.take n xs) n))).toList == (strOf (List.take len (payB (pay0 len x) fl xs n))).toList) = true := by first | omega | assumption | rfl)
    (h10 : (4 : Nat) + len + (4 : Nat) ≤ (4 : Nat) + len + (4 : Nat) := by first | omega | assumption | rfl)
    (h11 : (4 : Nat) + len + (4 : Nat) ≤ (4611686018427387904 : Nat) := by first | omega | assumption | rfl)
    (h12 : ((strOf (List.take ((4 : Nat) + len + (4 : Nat)) (frmS len (payB (pay0 len x) fl (List.take n xs) n)))).toList == (strOf (List.take ((4 : Nat) + len + (4 : Nat)) (frmS len (payB (pay0 len x) fl xs n)))).toList) = true := by first | omega | assumption | rfl)
    (h13 : x = x ∧ n = n ∧ n = n ∧ n = n ∧ n ≤ (1000000 : Nat) ∧ sameTo (List.take n xs) xs n := by first | omega | assumption | rfl | ((repeat' with_reducible apply And.intro) <;> first | rfl | assumption | omega)) : fnK Try.prog ((S7K len fl).on [(15, false), (48, true), (53, true), (60, true), (65, true), (70, true)]) noL Try.f7 [.agg #[u8v x, sl 0 n 2]] [rI n xs] =
     (some (Res.ret (Value.bool true) [some (Blk.mk false (1 : Nat) [Seg.ints IntKind.i64 n xs])])) :=
  Eq.trans (b :=
     bif decide ((↑n : Int) > (40 : Int)) then none else bif (n * (1 : Nat)).ble n then bif decide (((0 : Nat) + n) * (8 : Nat) ≤ (140737488355328 : Nat)) && ((0 : Nat) + n).ble (OfNat.ofNat
     (4611686018427387904 : Nat)) then bif chk (layS x = some (len, fl) ∧ (2 : Nat) * ((0 : Nat) + n) = fl.length ∧ (0 : Nat) + n = n * (1 : Nat) ∧ fitsTo fl (List.take (n * (1 : Nat)) xs) ((0 : Nat) + n))
     then bif chk (layS x = some (len, fl) ∧ (2 : Nat) * n = fl.length ∧ n = n ∧ fitsTo fl xs n) then bif chk (layS x = some (len, fl) ∧ (2 : Nat) * ((0 : Nat) + n) = fl.length ∧ (0 : Nat) + n = n * (1 :
     Nat) ∧ fitsTo fl (List.take (n * (1 : Nat)) xs) ((0 : Nat) + n)) then bif chk (layS x = some (len, fl) ∧ (2 : Nat) * n = fl.length ∧ n = n ∧ fitsTo fl xs n) then bif (len * (1 : Nat)).ble len then bif
     len.ble (OfNat.ofNat (4611686018427387904 : Nat)) then bif (len * (1 : Nat)).ble len then bif len.ble (OfNat.ofNat (4611686018427387904 : Nat)) then bif (strOf (List.take (len * (1 : Nat)) (payB (pay0
     len x) fl (List.take (n * (1 : Nat)) xs) ((0 : Nat) + n)))).toList == (strOf (List.take (len * (1 : Nat)) (payB (pay0 len x) fl xs n))).toList then bif (((4 : Nat) + len + (4 : Nat)) * (1 : Nat)).ble
     ((4 : Nat) + len + (4 : Nat)) then bif ((4 : Nat) + len + (4 : Nat)).ble (OfNat.ofNat (4611686018427387904 : Nat)) then bif (((4 : Nat) + len + (4 : Nat)) * (1 : Nat)).ble ((4 : Nat) + len + (4 :
     Nat)) then bif ((4 : Nat) + len + (4 : Nat)).ble (OfNat.ofNat (4611686018427387904 : Nat)) then bif (strOf (List.take (((4 : Nat) + len + (4 : Nat)) * (1 : Nat)) (frmS len (payB (pay0 len x) fl
     (List.take (n * (1 : Nat)) xs) ((0 : Nat) + n))))).toList == (strOf (List.take (((4 : Nat) + len + (4 : Nat)) * (1 : Nat)) (frmS len (payB (pay0 len x) fl xs n)))).toList then bif chk (x = x ∧ (0 :
     Nat) + n = n * (1 : Nat) ∧ n = n ∧ n * (1 : Nat) = n ∧ n * (1 : Nat) ≤ (1000000 : Nat) ∧ sameTo (List.take (n * (1 : Nat)) xs) xs (n * (1 : Nat))) then some (Res.ret (Value.bool true) [some (Blk.mk
     false (1 : Nat) [Seg.ints IntKind.i64 n xs])]) else none else none else none else none else none else none else none else none else none else none else none else none else none else none else none
     else none else none) (by kernel_rfl) (by simp only [-eq_self, Nat.mul_one, Nat.zero_add]; exact (go_f (dec_f h1) (go_t (ble_t h2) (go_t (and_t (dec_t h3) (ble_t h4)) (go_t (chk_t h5) (go_t (chk_t h6) (go_t (chk_t h5) (go_t (chk_t h6) (go_t (ble_t h7) (go_t (ble_t h8) (go_t (ble_t h7) (go_t (ble_t h8) (go_t h9 (go_t (ble_t h10) (go_t (ble_t h11) (go_t (ble_t h10) (go_t (ble_t h11) (go_t h12 (go_t (chk_t h13) rfl)))))))))))))))))))
--CFEND
theorem okS7E (e : Int) : SpecOK Try.prog (S7E e) := mkS_cons (okPayE e) (mkS_cons (okPayRE e) (mkS_cons (okEnE e) (mkS_cons (okErE e) (mkS_cons okSsT (mkS_cons okKnS (mkS_nil _))))))
theorem okS7K (len : Nat) (fl : List Int) : SpecOK Try.prog (S7K len fl) := mkS_cons (okPayK len fl) (mkS_cons (okPayRK len fl) (mkS_cons (okEnK len fl) (mkS_cons (okErK len fl) (mkS_cons okSsT (mkS_cons okKnS (mkS_nil _))))))
theorem payErr_0 {x : Int} {q : Nat} {vs : List Int} (h : payErr x q vs = 0) : ∃ len fl, layS x = some (len, fl) ∧ 2 * q = fl.length ∧ fitsTo fl vs q := by
  unfold payErr at h
  split at h
  · cases h
  · rename_i len fl hl
    by_cases hc : 2 * q = fl.length ∧ fitsTo fl vs q
    · exact ⟨len, fl, hl, hc⟩
    · rw [if_neg hc] at h; cases h
def F7 : FSpec := fun args h k => match args, h with
  | [.agg ⟨[.int .u8 _, .slice (some ⟨0, 0, none⟩) n 2]⟩], [some ⟨false, 1, [.ints .i64 N xs]⟩] => bif Nat.beq N n then k (.bool true) [rI N xs] else none
  | _, _ => none
theorem ok7 : EntryOK Try.prog 7 F7 := by
  refine EntryOK.of_paths (fn := Try.f7) follows_ok Try.func7 (by kernel_rfl) (by kernel_rfl) ?_
  intro args h k out hF
  unfold F7 at hF
  split at hF
  · rename_i x n N xs
    obtain ⟨hb, hF2⟩ := bif_t hF
    obtain rfl := beq_true hb
    refine ⟨_, _, hF2, fun real => ?_⟩
    have hl := (real.segs (i := 0) rfl rfl _ (List.mem_cons_self ..)).1
    have ht : List.take N xs = xs := List.take_of_length_le (by omega)
    have hs : sameTo xs xs N := fun i hi => rfl
    by_cases c0 : (N : Int) > 40
    · exact ⟨_, noL, (okS7E 0).on _, noL_ok, p7N x 0 N xs⟩
    · by_cases c1 : payErr x N xs = 0
      · obtain ⟨len, fl, g1, g2, g3⟩ := payErr_0 c1
        obtain ⟨_, _, _, _, _, g6⟩ := layS_ok g1
        have key := @p7K x N len xs fl
        rw [ht] at key
        exact ⟨_, noL, (okS7K len fl).on _, noL_ok, key c0 (by omega) (by omega) (by omega) ⟨g1, g2, rfl, g3⟩ ⟨g1, g2, rfl, g3⟩ (by omega) (by omega) (by rw [beq_self_eq_true]) (by omega) (by omega) (by rw [beq_self_eq_true]) ⟨rfl, rfl, rfl, rfl, by omega, hs⟩⟩
      · have key := @p7E x (payErr x N xs) N xs
        rw [ht] at key
        exact ⟨_, noL, (okS7E _).on _, noL_ok, key c0 (by omega) (by omega) (by omega) ⟨rfl, c1, rfl, by omega⟩ ⟨rfl, c1, rfl, by omega⟩ rfl ⟨rfl, rfl, rfl, rfl, by omega, hs⟩⟩
  · cases hF
theorem top7 {x : Int} {n : Nat} {xs : List Int} {k : Value → Heap → Out} : F7 [.agg #[u8v x, sl 0 n 2]] [rI n xs] k = k (.bool true) [rI n xs] := by
  show (bif Nat.beq n n then k (.bool true) [rI n xs] else none) = _
  rw [beq_t rfl]
  exact condT
end Go.Proofs.Ytcjjngdkkihgjaa.VC
