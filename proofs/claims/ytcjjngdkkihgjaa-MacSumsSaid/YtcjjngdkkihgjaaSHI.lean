/- The law of the sums. -/
import Derived.Test.YtcjjngdkkihgjaaSHH
namespace Go.Proofs.Ytcjjngdkkihgjaa.VC
open Go Go.Proofs

noncomputable def S9 : Spec := mkS [(32, false, FGr), (33, false, FKnw29), (34, false, FSumB), (35, false, FRSum), (36, false, FMayR), (37, false, FMayR)]
theorem S9_ok : SpecOK Try.prog S9 := mkS_cons okGr (mkS_cons okKnw29 (mkS_cons okSumB (mkS_cons okRSum (mkS_cons okMay (mkS_cons okMayR (mkS_nil _))))))
--CP p9 (n c m : Nat) (B : List Int) (vs : List FV) :: fnK Try.prog S9 noL Try.f9 [sl 0 n c, sl 1 m 2] [rU n B, kB m vs]
theorem p9 (n c m : Nat) (B : List Int) (vs : List FV) : fnK Try.prog S9 noL Try.f9 [sl 0 n c, sl 1 m 2] [rU n B, kB m vs] =
     (bif decide ((↑n : Int) > (600 : Int)) then some (Res.ret (Value.bool true) [some (Blk.mk false (1 : Nat) [Seg.ints IntKind.u8 n B]), some (Blk.mk false (2 : Nat) [Seg.any (m * (2 : Nat)) vs])]) else
     bif chk (KeyOK m vs ∧ m * (2 : Nat) = m * (2 : Nat)) then bif grB m vs then some (Res.ret (Value.bool true) [some (Blk.mk false (1 : Nat) [Seg.ints IntKind.u8 n B]), some (Blk.mk false (2 : Nat)
     [Seg.any (m * (2 : Nat)) vs])]) else bif n.ble n then bif decide (n ≤ (140737488355328 : Nat)) && n.ble (4611686018427387904 : Nat) then bif chk (n = n ∧ n ≤ (40000 : Nat)) then bif chk (n = n ∧ n ≤
     (40000 : Nat)) then bif (strOf (List.take (32 : Nat) [(opq (sumB (List.take n B) n)).getD (0 : Nat) (0 : Int), (opq (sumB (List.take n B) n)).getD (1 : Nat) (0 : Int), (opq (sumB (List.take n B)
     n)).getD (2 : Nat) (0 : Int), (opq (sumB (List.take n B) n)).getD (3 : Nat) (0 : Int), (opq (sumB (List.take n B) n)).getD (4 : Nat) (0 : Int), (opq (sumB (List.take n B) n)).getD (5 : Nat) (0 : Int),
     (opq (sumB (List.take n B) n)).getD (6 : Nat) (0 : Int), (opq (sumB (List.take n B) n)).getD (7 : Nat) (0 : Int), (opq (sumB (List.take n B) n)).getD (8 : Nat) (0 : Int), (opq (sumB (List.take n B)
     n)).getD (9 : Nat) (0 : Int), (opq (sumB (List.take n B) n)).getD (10 : Nat) (0 : Int), (opq (sumB (List.take n B) n)).getD (11 : Nat) (0 : Int), (opq (sumB (List.take n B) n)).getD (12 : Nat) (0 :
     Int), (opq (sumB (List.take n B) n)).getD (13 : Nat) (0 : Int), (opq (sumB (List.take n B) n)).getD (14 : Nat) (0 : Int), (opq (sumB (List.take n B) n)).getD (15 : Nat) (0 : Int), (opq (sumB
     (List.take n B) n)).getD (16 : Nat) (0 : Int), (opq (sumB (List.take n B) n)).getD (17 : Nat) (0 : Int), (opq (sumB (List.take n B) n)).getD (18 : Nat) (0 : Int), (opq (sumB (List.take n B) n)).getD
     (19 : Nat) (0 : Int), (opq (sumB (List.take n B) n)).getD (20 : Nat) (0 : Int), (opq (sumB (List.take n B) n)).getD (21 : Nat) (0 : Int), (opq (sumB (List.take n B) n)).getD (22 : Nat) (0 : Int), (opq
     (sumB (List.take n B) n)).getD (23 : Nat) (0 : Int), (opq (sumB (List.take n B) n)).getD (24 : Nat) (0 : Int), (opq (sumB (List.take n B) n)).getD (25 : Nat) (0 : Int), (opq (sumB (List.take n B)
     n)).getD (26 : Nat) (0 : Int), (opq (sumB (List.take n B) n)).getD (27 : Nat) (0 : Int), (opq (sumB (List.take n B) n)).getD (28 : Nat) (0 : Int), (opq (sumB (List.take n B) n)).getD (29 : Nat) (0 :
     Int), (opq (sumB (List.take n B) n)).getD (30 : Nat) (0 : Int), (opq (sumB (List.take n B) n)).getD (31 : Nat) (0 : Int)])).toList == (strOf (List.take (32 : Nat) (opq (sumB B n)))).toList then bif
     n.ble n then bif n.ble (4611686018427387904 : Nat) then bif n.ble n then bif n.ble (4611686018427387904 : Nat) then bif (strOf (List.take n (List.take n B))).toList == (strOf (List.take n B)).toList
     then bif chk (KeyOK m vs ∧ m * (2 : Nat) = m * (2 : Nat)) then bif chk (KeyOK m vs ∧ m * (2 : Nat) = m * (2 : Nat)) then bif mayB m vs == mayB m vs then some (Res.ret (Value.bool true) [some (Blk.mk
     false (1 : Nat) [Seg.ints IntKind.u8 n B]), some (Blk.mk false (2 : Nat) [Seg.any (m * (2 : Nat)) vs])]) else some (Res.ret (Value.bool false) [some (Blk.mk false (1 : Nat) [Seg.ints IntKind.u8 n B]),
     some (Blk.mk false (2 : Nat) [Seg.any (m * (2 : Nat)) vs])]) else none else none else some (Res.ret (Value.bool false) [some (Blk.mk false (1 : Nat) [Seg.ints IntKind.u8 n B]), some (Blk.mk false (2 :
     Nat) [Seg.any (m * (2 : Nat)) vs])]) else none else none else none else none else some (Res.ret (Value.bool false) [some (Blk.mk false (1 : Nat) [Seg.ints IntKind.u8 n B]), some (Blk.mk false (2 :
     Nat) [Seg.any (m * (2 : Nat)) vs])]) else none else none else none else none else none) :=
  Eq.trans (b :=
     bif decide ((↑n : Int) > (600 : Int)) then some (Res.ret (Value.bool true) [some (Blk.mk false (1 : Nat) [Seg.ints IntKind.u8 n B]), some (Blk.mk false (2 : Nat) [Seg.any (m * (2 : Nat)) vs])]) else
     bif chk (KeyOK m vs ∧ m * (2 : Nat) = m * (2 : Nat)) then bif grB m vs then some (Res.ret (Value.bool true) [some (Blk.mk false (1 : Nat) [Seg.ints IntKind.u8 n B]), some (Blk.mk false (2 : Nat)
     [Seg.any (m * (2 : Nat)) vs])]) else bif (n * (1 : Nat)).ble n then bif decide (((0 : Nat) + n) * (1 : Nat) ≤ (140737488355328 : Nat)) && ((0 : Nat) + n).ble (OfNat.ofNat (4611686018427387904 : Nat))
     then bif chk (n * (1 : Nat) = (0 : Nat) + n ∧ (0 : Nat) + n ≤ (40000 : Nat)) then bif chk (n = n ∧ n ≤ (40000 : Nat)) then bif (strOf (List.take (32 : Nat) [(opq (sumB (List.take (n * (1 : Nat)) B)
     ((0 : Nat) + n))).getD (0 : Nat) (0 : Int), (opq (sumB (List.take (n * (1 : Nat)) B) ((0 : Nat) + n))).getD (1 : Nat) (0 : Int), (opq (sumB (List.take (n * (1 : Nat)) B) ((0 : Nat) + n))).getD (2 :
     Nat) (0 : Int), (opq (sumB (List.take (n * (1 : Nat)) B) ((0 : Nat) + n))).getD (3 : Nat) (0 : Int), (opq (sumB (List.take (n * (1 : Nat)) B) ((0 : Nat) + n))).getD (4 : Nat) (0 : Int), (opq (sumB
     (List.take (n * (1 : Nat)) B) ((0 : Nat) + n))).getD (5 : Nat) (0 : Int), (opq (sumB (List.take (n * (1 : Nat)) B) ((0 : Nat) + n))).getD (6 : Nat) (0 : Int), (opq (sumB (List.take (n * (1 : Nat)) B)
     ((0 : Nat) + n))).getD (7 : Nat) (0 : Int), (opq (sumB (List.take (n * (1 : Nat)) B) ((0 : Nat) + n))).getD (8 : Nat) (0 : Int), (opq (sumB (List.take (n * (1 : Nat)) B) ((0 : Nat) + n))).getD (9 :
     Nat) (0 : Int), (opq (sumB (List.take (n * (1 : Nat)) B) ((0 : Nat) + n))).getD (10 : Nat) (0 : Int), (opq (sumB (List.take (n * (1 : Nat)) B) ((0 : Nat) + n))).getD (11 : Nat) (0 : Int), (opq (sumB
     (List.take (n * (1 : Nat)) B) ((0 : Nat) + n))).getD (12 : Nat) (0 : Int), (opq (sumB (List.take (n * (1 : Nat)) B) ((0 : Nat) + n))).getD (13 : Nat) (0 : Int), (opq (sumB (List.take (n * (1 : Nat))
     B) ((0 : Nat) + n))).getD (14 : Nat) (0 : Int), (opq (sumB (List.take (n * (1 : Nat)) B) ((0 : Nat) + n))).getD (15 : Nat) (0 : Int), (opq (sumB (List.take (n * (1 : Nat)) B) ((0 : Nat) + n))).getD
     (16 : Nat) (0 : Int), (opq (sumB (List.take (n * (1 : Nat)) B) ((0 : Nat) + n))).getD (17 : Nat) (0 : Int), (opq (sumB (List.take (n * (1 : Nat)) B) ((0 : Nat) + n))).getD (18 : Nat) (0 : Int), (opq
     (sumB (List.take (n * (1 : Nat)) B) ((0 : Nat) + n))).getD (19 : Nat) (0 : Int), (opq (sumB (List.take (n * (1 : Nat)) B) ((0 : Nat) + n))).getD (20 : Nat) (0 : Int), (opq (sumB (List.take (n * (1 :
     Nat)) B) ((0 : Nat) + n))).getD (21 : Nat) (0 : Int), (opq (sumB (List.take (n * (1 : Nat)) B) ((0 : Nat) + n))).getD (22 : Nat) (0 : Int), (opq (sumB (List.take (n * (1 : Nat)) B) ((0 : Nat) +
     n))).getD (23 : Nat) (0 : Int), (opq (sumB (List.take (n * (1 : Nat)) B) ((0 : Nat) + n))).getD (24 : Nat) (0 : Int), (opq (sumB (List.take (n * (1 : Nat)) B) ((0 : Nat) + n))).getD (25 : Nat) (0 :
     Int), (opq (sumB (List.take (n * (1 : Nat)) B) ((0 : Nat) + n))).getD (26 : Nat) (0 : Int), (opq (sumB (List.take (n * (1 : Nat)) B) ((0 : Nat) + n))).getD (27 : Nat) (0 : Int), (opq (sumB (List.take
     (n * (1 : Nat)) B) ((0 : Nat) + n))).getD (28 : Nat) (0 : Int), (opq (sumB (List.take (n * (1 : Nat)) B) ((0 : Nat) + n))).getD (29 : Nat) (0 : Int), (opq (sumB (List.take (n * (1 : Nat)) B) ((0 :
     Nat) + n))).getD (30 : Nat) (0 : Int), (opq (sumB (List.take (n * (1 : Nat)) B) ((0 : Nat) + n))).getD (31 : Nat) (0 : Int)])).toList == (strOf (List.take (32 : Nat) (opq (sumB B n)))).toList then bif
     (((0 : Nat) + n) * (1 : Nat)).ble (n * (1 : Nat)) then bif ((0 : Nat) + n).ble (OfNat.ofNat (4611686018427387904 : Nat)) then bif (n * (1 : Nat)).ble n then bif n.ble (OfNat.ofNat (4611686018427387904
     : Nat)) then bif (strOf (List.take (((0 : Nat) + n) * (1 : Nat)) (List.take (n * (1 : Nat)) B))).toList == (strOf (List.take (n * (1 : Nat)) B)).toList then bif chk (KeyOK m vs ∧ m * (2 : Nat) = m *
     (2 : Nat)) then bif chk (KeyOK m vs ∧ m * (2 : Nat) = m * (2 : Nat)) then bif mayB m vs == mayB m vs then some (Res.ret (Value.bool true) [some (Blk.mk false (1 : Nat) [Seg.ints IntKind.u8 n B]), some
     (Blk.mk false (2 : Nat) [Seg.any (m * (2 : Nat)) vs])]) else some (Res.ret (Value.bool false) [some (Blk.mk false (1 : Nat) [Seg.ints IntKind.u8 n B]), some (Blk.mk false (2 : Nat) [Seg.any (m * (2 :
     Nat)) vs])]) else none else none else some (Res.ret (Value.bool false) [some (Blk.mk false (1 : Nat) [Seg.ints IntKind.u8 n B]), some (Blk.mk false (2 : Nat) [Seg.any (m * (2 : Nat)) vs])]) else none
     else none else none else none else some (Res.ret (Value.bool false) [some (Blk.mk false (1 : Nat) [Seg.ints IntKind.u8 n B]), some (Blk.mk false (2 : Nat) [Seg.any (m * (2 : Nat)) vs])]) else none
     else none else none else none else none) (by kernel_rfl) (by simp only [-eq_self, Nat.mul_one, Nat.zero_add]; exact rfl)
--CFEND
theorem c9 (n c m : Nat) (B : List Int) (vs : List FV) (hB : B.length = n) (hv : KeyOK m vs) : fnK Try.prog S9 noL Try.f9 [sl 0 n c, sl 1 m 2] [rU n B, kB m vs] = some (Res.ret (.bool true) [rU n B, kB m vs]) := by
  rw [p9]
  by_cases hn : (n : Int) > 600
  · rw [dec_t hn]; rfl
  rw [dec_f hn, chk_t ⟨hv, rfl⟩, cond_false, cond_true]
  cases grB m vs with
  | true => rfl
  | false =>
    have e1 : B.take n = B := List.take_of_length_le (by omega)
    have e2 : ([(opq (sumB B n)).getD (0 : Nat) (0 : Int), (opq (sumB B n)).getD (1 : Nat) (0 : Int), (opq (sumB B n)).getD (2 : Nat) (0 : Int), (opq (sumB B n)).getD (3 : Nat) (0 : Int), (opq (sumB B n)).getD (4 : Nat) (0 : Int), (opq (sumB B n)).getD (5 : Nat) (0 : Int), (opq (sumB B n)).getD (6 : Nat) (0 : Int), (opq (sumB B n)).getD (7 : Nat) (0 : Int), (opq (sumB B n)).getD (8 : Nat) (0 : Int), (opq (sumB B n)).getD (9 : Nat) (0 : Int), (opq (sumB B n)).getD (10 : Nat) (0 : Int), (opq (sumB B n)).getD (11 : Nat) (0 : Int), (opq (sumB B n)).getD (12 : Nat) (0 : Int), (opq (sumB B n)).getD (13 : Nat) (0 : Int), (opq (sumB B n)).getD (14 : Nat) (0 : Int), (opq (sumB B n)).getD (15 : Nat) (0 : Int), (opq (sumB B n)).getD (16 : Nat) (0 : Int), (opq (sumB B n)).getD (17 : Nat) (0 : Int), (opq (sumB B n)).getD (18 : Nat) (0 : Int), (opq (sumB B n)).getD (19 : Nat) (0 : Int), (opq (sumB B n)).getD (20 : Nat) (0 : Int), (opq (sumB B n)).getD (21 : Nat) (0 : Int), (opq (sumB B n)).getD (22 : Nat) (0 : Int), (opq (sumB B n)).getD (23 : Nat) (0 : Int), (opq (sumB B n)).getD (24 : Nat) (0 : Int), (opq (sumB B n)).getD (25 : Nat) (0 : Int), (opq (sumB B n)).getD (26 : Nat) (0 : Int), (opq (sumB B n)).getD (27 : Nat) (0 : Int), (opq (sumB B n)).getD (28 : Nat) (0 : Int), (opq (sumB B n)).getD (29 : Nat) (0 : Int), (opq (sumB B n)).getD (30 : Nat) (0 : Int), (opq (sumB B n)).getD (31 : Nat) (0 : Int)] : List Int) = opq (sumB B n) := lst_eq (n := 32) (by rw [opq_eq]; exact sumB_len B n)
    rw [e1, e1, e2, ble_t (Nat.le_refl n), ble_t (show n ≤ 4611686018427387904 by omega), dec_t (show n ≤ 140737488355328 by omega), chk_t ⟨rfl, by omega⟩]
    simp only [beq_self_eq_true]
    rfl
noncomputable def F9 : FSpec := fun args h k => match args, h with
  | [.slice (some ⟨0, 0, none⟩) n c, .slice (some ⟨1, 0, none⟩) m 2], [some ⟨false, 1, [.ints .u8 N B]⟩, some ⟨false, 2, [.any M vs]⟩] =>
    bif chk (KeyOK m vs ∧ N = n ∧ M = m * 2) then k (.bool true) [rU n B, kB m vs] else none
  | _, _ => none
theorem ok9 : EntryOK Try.prog 9 F9 := by
  refine EntryOK.of_paths (fn := Try.f9) follows_ok Try.func9 (by kernel_rfl) (by kernel_rfl) ?_
  intro args h k out hF
  unfold F9 at hF
  split at hF
  · rename_i n c m N B M vs
    obtain ⟨hb, hF2⟩ := bif_t hF
    obtain ⟨hv, rfl, rfl⟩ := chk_iff.1 hb
    refine ⟨_, _, hF2, fun real => ⟨S9, noL, S9_ok, noL_ok, ?_⟩⟩
    have r1 := (real.segs (i := 0) rfl) _ (List.mem_cons_self ..)
    exact c9 _ c m B vs r1.1 hv
  · cases hF
theorem top9 {n m : Nat} {B : List Int} {vs : List FV} {k : Value → Heap → Out} (_ : n ≤ 140737488355328) (hk : KeyOK m vs) : F9 [sl 0 n 2, sl 1 m 2] [rU n B, kB m vs] k = k (.bool true) [rU n B, kB m vs] := by
  show (bif chk (KeyOK m vs ∧ n = n ∧ m * 2 = m * 2) then _ else none) = _
  rw [chk_t ⟨hk, rfl, rfl⟩]; rfl
end Go.Proofs.Ytcjjngdkkihgjaa.VC
