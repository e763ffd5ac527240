/- Keys: May. -/
import Derived.Test.YtcjjngdkkihgjaaSHG
namespace Go.Proofs.Ytcjjngdkkihgjaa.VC
open Go Go.Proofs

def dupX (vs : List FV) (x : Int) (j : Nat) : Bool := idK vs j == x
theorem loopMi (n i : Nat) (may : Bool) (x : Int) (q : Nat) (vs : List FV) (hv : KeyOK n vs) (hi : i < n) : ∀ (m j : Nat), j + m = i →
    LoopT Try.prog Try.f36.ntmps 1 bMi (zipS liveMi [.bool false, .bool may, sl 0 n 2, sl 0 n 2, w63 n, w63 i, pt 1, sl 0 i 2, w63 i, w63 j]) [kB n vs, kyB x q] (bif decide (frst (dupX vs x) m j < i) then .exit 0 else .exit 2)
      (zipS liveMi [.bool false, .bool (bif decide (frst (dupX vs x) m j < i) then false else may), sl 0 n 2, sl 0 n 2, w63 n, w63 i, pt 1, sl 0 i 2, w63 i, w63 (frst (dupX vs x) m j)]) [kB n vs, kyB x q] := by
  intro m
  induction m with
  | zero =>
    intro j hj
    obtain rfl : j = i := hj
    rw [frst, dec_f (Nat.lt_irrefl j)]
    exact LoopT.last (by simp) (CodeT.out (S := (mkS []).on [(38, false)]) mk0 noL_ok (fun on out => pMix n j may x q vs on out))
  | succ m ih =>
    intro j hj
    obtain ⟨k1, k2⟩ := hv
    have h2 := KindsL.i (i := j) (j := 0) k1 (by omega) rfl
    have h3 := KindsL.l (i := j) (j := 1) k1 (by omega) rfl
    have key := fun on out => pMi n i j may x q vs on out (by omega) (by omega) (by omega) (by omega) h2 (by omega) h3
    rw [frst]
    by_cases hb : dupX vs x j = true
    · rw [hb, cond_true, dec_t (show j < i by omega)]
      refine LoopT.last (by simp) (CodeT.out (S := (mkS []).on [(38, true)]) mk0 noL_ok (fun on out => ?_))
      rw [key on out, show ((vs.getD (j * 2) (FV.b false)).asI == x) = true from hb]; rfl
    · have hb : dupX vs x j = false := by simpa using hb
      rw [hb, cond_false]
      refine LoopT.step (CodeT.on (S := (mkS []).on [(38, true)]) mk0 noL_ok (fun on out => ?_)) (ih (j + 1) (by omega))
      rw [key on out, show ((vs.getD (j * 2) (FV.b false)).asI == x) = false from hb]; rfl
noncomputable def LMif : LF := fun vs h k => match vs, h with
  | [.bool false, .bool may, .slice (some ⟨0, 0, none⟩) n 2, .slice (some ⟨0, 0, none⟩) n1 2, .int .i64 n2, .int .i64 i, .pointer (some ⟨1, 0, none⟩), .slice (some ⟨0, 0, none⟩) i1 2, .int .i64 i2, .int .i64 0], [some ⟨false, 2, [.any N vs]⟩, some ⟨true, 2, [.ints .u32 1 [x], .vals [.slice (some ⟨0, 0, some 1⟩) q 2]]⟩] =>
    bif chk (KeyOK n vs ∧ N = n * 2 ∧ n1 = n ∧ n2 = n ∧ 0 ≤ i ∧ i.toNat < n ∧ i1 = i.toNat ∧ i2 = i) then bif decide (frst (dupX vs x) i.toNat 0 < i.toNat) then
      k (.exit 0) [.bool false, .bool false, sl 0 n 2, sl 0 n 2, w63 n, w63 i, pt 1, sl 0 i1 2, w63 i, w63 (frst (dupX vs x) i.toNat 0)] [kB n vs, kyB x q]
      else k (.exit 2) [.bool false, .bool may, sl 0 n 2, sl 0 n 2, w63 n, w63 i, pt 1, sl 0 i1 2, w63 i, w63 i] [kB n vs, kyB x q] else none
  | _, _ => none
theorem loopOKMi : LoopOK Try.prog Try.f36.ntmps 1 bMi liveMi LMif := by
  refine LoopOK.of_T ?_
  intro vs h k out hk
  unfold LMif at hk
  split at hk
  · rename_i may n n1 n2 i i1 i2 N vs x q
    obtain ⟨hb, hk2⟩ := bif_t hk
    obtain ⟨hv, rfl, rfl, rfl, h0, h1, rfl, rfl⟩ := chk_iff.1 hb
    obtain ⟨i, rfl⟩ := Int.eq_ofNat_of_zero_le h0
    rw [Int.toNat_natCast] at h1 hk2
    have h := loopMi n1 i may x q vs hv h1 i 0 (by omega)
    by_cases hf : frst (dupX vs x) i 0 < i
    · rw [dec_t hf] at h hk2
      exact ⟨_, _, _, hk2, fun _ => h⟩
    · have hl := (frst_le (dupX vs x) i 0).2
      rw [dec_f hf] at h hk2
      rw [show frst (dupX vs x) i 0 = i by omega] at h
      exact ⟨_, _, _, hk2, fun _ => h⟩
  · cases hk
noncomputable def LMi : LSpec := oneL 8 liveMi LMif
noncomputable abbrev bMo : Code := loopOf Try.f36 0
theorem loopsMi : LoopsOK Try.prog LMi Try.f36.ntmps 1 bMo := loops_one rfl (by kernel_rfl) loopOKMi
def liveMo : List Nat := [2, 3, 0, 11, 12, 13]
--CP pMo (n i : Nat) (may : Bool) (vs : List FV) (on : List Value → Heap → Out) (out : Exit → List Value → Heap → Out) :: roundK Try.prog ((mkS []).on [(14, true)]) LMi Try.f36.ntmps 1 bMo liveMo [.bool false, .bool may, sl 0 n 2, sl 0 n 2, w63 n, w63 i] [kB n vs] on out
theorem pMo (n i : Nat) (may : Bool) (vs : List FV) (on : List Value → Heap → Out) (out : Exit → List Value → Heap → Out)
    (w1 : -9223372036854775808 ≤ (↑i : Int) + (1 : Int) ∧ (↑i : Int) + (1 : Int) ≤ 9223372036854775807 := by omega)
    (h1 : (↑i : Int) < (↑n : Int) := by first | omega | assumption | rfl)
    (h2 : (0 : Int) ≤ (↑i : Int) := by first | omega | assumption | rfl)
    (h3 : i * (2 : Nat) < n * (2 : Nat) := by first | omega | assumption | rfl)
    (h4 : FV.isI IntKind.u32 (vs.getD (i * (2 : Nat)) (FV.b false)) = true := by first | omega | assumption | rfl)
    (h5 : i * (2 : Nat) + (1 : Nat) < n * (2 : Nat) := by first | omega | assumption | rfl)
    (h6 : (vs.getD (i * (2 : Nat) + (1 : Nat)) (FV.b false)).isL = true := by first | omega | assumption | rfl) : roundK Try.prog ((mkS []).on [(14, true)]) LMi Try.f36.ntmps 1 bMo liveMo [.bool false, .bool may, sl 0 n 2, sl 0 n 2, w63 n, w63 i] [kB n vs] on out =
     (bif (vs.getD (i * (2 : Nat)) (FV.b false)).asI == (0 : Int) then out (Exit.exit (0 : Nat)) [Value.bool false, Value.bool false, Value.slice (some (Addr.mk (0 : Nat) (0 : Nat) none)) n (2 : Nat),
     Value.slice (some (Addr.mk (0 : Nat) (0 : Nat) none)) n (2 : Nat), Value.int IntKind.i64 (↑n : Int), Value.int IntKind.i64 (↑i : Int)] [some (Blk.mk false (2 : Nat) [Seg.any (n * (2 : Nat)) vs])] else
     bif (↑(vs.getD (i * (2 : Nat) + (1 : Nat)) (FV.b false)).asL : Int) == (0 : Int) then out (Exit.exit (0 : Nat)) [Value.bool false, Value.bool false, Value.slice (some (Addr.mk (0 : Nat) (0 : Nat)
     none)) n (2 : Nat), Value.slice (some (Addr.mk (0 : Nat) (0 : Nat) none)) n (2 : Nat), Value.int IntKind.i64 (↑n : Int), Value.int IntKind.i64 (↑i : Int)] [some (Blk.mk false (2 : Nat) [Seg.any (n *
     (2 : Nat)) vs])] else bif decide ((↑(vs.getD (i * (2 : Nat) + (1 : Nat)) (FV.b false)).asL : Int) > (64 : Int)) then out (Exit.exit (0 : Nat)) [Value.bool false, Value.bool false, Value.slice (some
     (Addr.mk (0 : Nat) (0 : Nat) none)) n (2 : Nat), Value.slice (some (Addr.mk (0 : Nat) (0 : Nat) none)) n (2 : Nat), Value.int IntKind.i64 (↑n : Int), Value.int IntKind.i64 (↑i : Int)] [some (Blk.mk
     false (2 : Nat) [Seg.any (n * (2 : Nat)) vs])] else bif decide ((0 : Int) ≤ (↑i : Int)) && decide ((↑i : Int) ≤ (↑n : Int)) then bif chk (KeyOK n vs ∧ n * (2 : Nat) = n * (2 : Nat) ∧ n = n ∧ (↑n :
     Int) = (↑n : Int) ∧ (0 : Int) ≤ (↑i : Int) ∧ i < n ∧ ((↑i : Int) - (0 : Int)).toNat = i ∧ (↑((↑i : Int) - (0 : Int)).toNat : Int) = (↑i : Int)) then bif decide (frst (dupX vs (vs.getD (i * (2 : Nat))
     (FV.b false)).asI) i (0 : Nat) < i) then out (Exit.exit (0 : Nat)) [Value.bool false, Value.bool false, Value.slice (some (Addr.mk (0 : Nat) (0 : Nat) none)) n (2 : Nat), Value.slice (some (Addr.mk (0
     : Nat) (0 : Nat) none)) n (2 : Nat), Value.int IntKind.i64 (↑n : Int), Value.int IntKind.i64 (↑i : Int)] [some (Blk.mk false (2 : Nat) [Seg.any (n * (2 : Nat)) vs])] else on [Value.bool false,
     Value.bool may, Value.slice (some (Addr.mk (0 : Nat) (0 : Nat) none)) n (2 : Nat), Value.slice (some (Addr.mk (0 : Nat) (0 : Nat) none)) n (2 : Nat), Value.int IntKind.i64 (↑n : Int), Value.int
     IntKind.i64 ((↑i : Int) + (1 : Int))] [some (Blk.mk false (2 : Nat) [Seg.any (n * (2 : Nat)) vs])] else none else none) :=
  Eq.trans (b :=
     bif decide ((↑i : Int) < (↑n : Int)) then bif decide ((0 : Int) ≤ (↑i : Int)) && decide ((↑i : Int) < (↑n : Int)) then bif ((0 : Nat) + (↑i : Int).toNat * (2 : Nat)).blt (n * (2 : Nat)) then bif
     FV.isI IntKind.u32 (vs.getD ((0 : Nat) + (↑i : Int).toNat * (2 : Nat)) (FV.b false)) then bif ((0 : Nat) + (↑i : Int).toNat * (2 : Nat) + (1 : Nat)).blt (n * (2 : Nat)) then bif (vs.getD ((0 : Nat) +
     (↑i : Int).toNat * (2 : Nat) + (1 : Nat)) (FV.b false)).isL then bif (vs.getD ((0 : Nat) + (↑i : Int).toNat * (2 : Nat)) (FV.b false)).asI == (0 : Int) then out (Exit.exit (0 : Nat)) [Value.bool
     false, Value.bool false, Value.slice (some (Addr.mk (0 : Nat) (0 : Nat) none)) n (2 : Nat), Value.slice (some (Addr.mk (0 : Nat) (0 : Nat) none)) n (2 : Nat), Value.int IntKind.i64 (↑n : Int),
     Value.int IntKind.i64 (↑i : Int)] [some (Blk.mk false (2 : Nat) [Seg.any (n * (2 : Nat)) vs])] else bif (↑(vs.getD ((0 : Nat) + (↑i : Int).toNat * (2 : Nat) + (1 : Nat)) (FV.b false)).asL : Int) == (0
     : Int) then out (Exit.exit (0 : Nat)) [Value.bool false, Value.bool false, Value.slice (some (Addr.mk (0 : Nat) (0 : Nat) none)) n (2 : Nat), Value.slice (some (Addr.mk (0 : Nat) (0 : Nat) none)) n (2
     : Nat), Value.int IntKind.i64 (↑n : Int), Value.int IntKind.i64 (↑i : Int)] [some (Blk.mk false (2 : Nat) [Seg.any (n * (2 : Nat)) vs])] else bif decide ((↑(vs.getD ((0 : Nat) + (↑i : Int).toNat * (2
     : Nat) + (1 : Nat)) (FV.b false)).asL : Int) > (64 : Int)) then out (Exit.exit (0 : Nat)) [Value.bool false, Value.bool false, Value.slice (some (Addr.mk (0 : Nat) (0 : Nat) none)) n (2 : Nat),
     Value.slice (some (Addr.mk (0 : Nat) (0 : Nat) none)) n (2 : Nat), Value.int IntKind.i64 (↑n : Int), Value.int IntKind.i64 (↑i : Int)] [some (Blk.mk false (2 : Nat) [Seg.any (n * (2 : Nat)) vs])] else
     bif decide ((0 : Int) ≤ (↑i : Int)) && decide ((↑i : Int) ≤ (↑n : Int)) then bif chk (KeyOK n vs ∧ n * (2 : Nat) = n * (2 : Nat) ∧ n = n ∧ (↑n : Int) = (↑n : Int) ∧ (0 : Int) ≤ (↑i : Int) ∧ (↑i :
     Int).toNat < n ∧ ((↑i : Int) - (0 : Int)).toNat = (↑i : Int).toNat ∧ (↑((↑i : Int) - (0 : Int)).toNat : Int) = (↑i : Int)) then bif decide (frst (dupX vs (vs.getD ((0 : Nat) + (↑i : Int).toNat * (2 :
     Nat)) (FV.b false)).asI) (↑i : Int).toNat (0 : Nat) < (↑i : Int).toNat) then out (Exit.exit (0 : Nat)) [Value.bool false, Value.bool false, Value.slice (some (Addr.mk (0 : Nat) (0 : Nat) none)) n (2 :
     Nat), Value.slice (some (Addr.mk (0 : Nat) (0 : Nat) none)) n (2 : Nat), Value.int IntKind.i64 (↑n : Int), Value.int IntKind.i64 (↑i : Int)] [some (Blk.mk false (2 : Nat) [Seg.any (n * (2 : Nat))
     vs])] else on [Value.bool false, Value.bool may, Value.slice (some (Addr.mk (0 : Nat) (0 : Nat) none)) n (2 : Nat), Value.slice (some (Addr.mk (0 : Nat) (0 : Nat) none)) n (2 : Nat), Value.int
     IntKind.i64 (↑n : Int), Value.int IntKind.i64 (IntKind.i64.wrap ((↑i : Int) + (1 : Int)))] [some (Blk.mk false (2 : Nat) [Seg.any (n * (2 : Nat)) vs])] else none else none else none else none else
     none else none else none else none) (by kernel_rfl) (by simp only [-eq_self, Int.toNat_natCast, Nat.zero_add, swrap w1.1 w1.2]; exact (go_t (dec_t h1) (go_t (and_t (dec_t h2) (dec_t h1)) (go_t (blt_t h3) (go_t h4 (go_t (blt_t h5) (go_t h6 rfl)))))))
--CFEND
--CP pMox (n : Nat) (may : Bool) (vs : List FV) (on : List Value → Heap → Out) (out : Exit → List Value → Heap → Out) :: roundK Try.prog ((mkS []).on [(14, false)]) LMi Try.f36.ntmps 1 bMo liveMo [.bool false, .bool may, sl 0 n 2, sl 0 n 2, w63 n, w63 n] [kB n vs] on out
theorem pMox (n : Nat) (may : Bool) (vs : List FV) (on : List Value → Heap → Out) (out : Exit → List Value → Heap → Out)
    (h1 : ¬(↑n : Int) < (↑n : Int) := by first | omega | assumption | rfl) : roundK Try.prog ((mkS []).on [(14, false)]) LMi Try.f36.ntmps 1 bMo liveMo [.bool false, .bool may, sl 0 n 2, sl 0 n 2, w63 n, w63 n] [kB n vs] on out =
     (out (Exit.exit (0 : Nat)) [Value.bool false, Value.bool may, Value.slice (some (Addr.mk (0 : Nat) (0 : Nat) none)) n (2 : Nat), Value.slice (some (Addr.mk (0 : Nat) (0 : Nat) none)) n (2 : Nat),
     Value.int IntKind.i64 (↑n : Int), Value.int IntKind.i64 (↑n : Int)] [some (Blk.mk false (2 : Nat) [Seg.any (n * (2 : Nat)) vs])]) :=
  Eq.trans (by kernel_rfl) (go_f (dec_f h1) rfl)
--CFEND
theorem pMoB (n i : Nat) (may : Bool) (vs : List FV) (hv : KeyOK n vs) (hi : i < n) (on : List Value → Heap → Out) (out : Exit → List Value → Heap → Out) : roundK Try.prog ((mkS []).on [(14, true)]) LMi Try.f36.ntmps 1 bMo liveMo [.bool false, .bool may, sl 0 n 2, sl 0 n 2, w63 n, w63 i] [kB n vs] on out =
    (bif badP vs i then out (.exit 0) [.bool false, .bool false, sl 0 n 2, sl 0 n 2, w63 n, w63 i] [kB n vs] else on [.bool false, .bool may, sl 0 n 2, sl 0 n 2, w63 n, w63 ((i + 1 : Nat) : Int)] [kB n vs]) := by
  have k2 := hv.2
  have h1 : FV.isI IntKind.u32 (vs.getD (i * 2) (FV.b false)) = true := KindsL.i (i := i) (j := 0) hv.1 (by omega) rfl
  have e3 : (vs.getD (i * 2 + 1) (FV.b false)).isL = true := KindsL.l (i := i) (j := 1) hv.1 (by omega) rfl
  have e1 : (decide ((0 : Int) ≤ (↑i : Int)) && decide ((↑i : Int) ≤ (↑n : Int))) = true := and_t (dec_t (by omega)) (dec_t (by omega))
  have e4 : chk (KeyOK n vs ∧ n * 2 = n * 2 ∧ n = n ∧ (↑n : Int) = (↑n : Int) ∧ (0 : Int) ≤ (↑i : Int) ∧ i < n ∧ ((↑i : Int) - (0 : Int)).toNat = i ∧ (↑((↑i : Int) - (0 : Int)).toNat : Int) = (↑i : Int)) = true :=
    chk_t ⟨hv, rfl, rfl, rfl, by omega, hi, by omega, by omega⟩
  have e5 : ((↑(vs.getD (i * 2 + 1) (FV.b false)).asL : Int) == (0 : Int)) = decide ((↑(vs.getD (i * 2 + 1) (FV.b false)).asL : Int) < 1) := by
    by_cases h : (vs.getD (i * 2 + 1) (FV.b false)).asL = 0
    · rw [eqb_t (by omega), dec_t (by omega)]
    · rw [eqb_f (by omega), dec_f (by omega)]
  rw [pMo n i may vs on out (by omega) (by omega) (by omega) (by omega) h1 (by omega) e3, e1, e4, e5]
  exact bif4
theorem loopMo (n : Nat) (may : Bool) (vs : List FV) (hv : KeyOK n vs) : ∀ (m i : Nat), i + m = n →
    LoopT Try.prog Try.f36.ntmps 1 bMo (zipS liveMo [.bool false, .bool may, sl 0 n 2, sl 0 n 2, w63 n, w63 i]) [kB n vs] (.exit 0)
      (zipS liveMo [.bool false, .bool (bif decide (frst (badP vs) m i < n) then false else may), sl 0 n 2, sl 0 n 2, w63 n, w63 (frst (badP vs) m i)]) [kB n vs] := by
  intro m
  induction m with
  | zero =>
    intro i hi
    obtain rfl : i = n := hi
    rw [frst, dec_f (Nat.lt_irrefl i)]
    exact LoopT.last (by simp) (CodeT.out (S := (mkS []).on [(14, false)]) mk0 loopsMi (fun on out => pMox i may vs on out))
  | succ m ih =>
    intro i hi
    have key := fun on out => pMoB n i may vs hv (by omega) on out
    rw [frst]
    by_cases hb : badP vs i = true
    · rw [hb, cond_true, dec_t (show i < n by omega)]
      refine LoopT.last (by simp) (CodeT.out (S := (mkS []).on [(14, true)]) mk0 loopsMi (fun on out => ?_))
      rw [key on out, hb]; rfl
    · have hb : badP vs i = false := by simpa using hb
      rw [hb, cond_false]
      refine LoopT.step (CodeT.on (S := (mkS []).on [(14, true)]) mk0 loopsMi (fun on out => ?_)) (ih (i + 1) (by omega))
      rw [key on out, hb]; rfl
noncomputable def LMof : LF := fun vs h k => match vs, h with
  | [.bool false, .bool may, .slice (some ⟨0, 0, none⟩) n 2, .slice (some ⟨0, 0, none⟩) n1 2, .int .i64 n2, .int .i64 0], [some ⟨false, 2, [.any N vs]⟩] =>
    bif chk (KeyOK n vs ∧ N = n * 2 ∧ n1 = n ∧ n2 = n) then k (.exit 0) [.bool false, .bool (bif decide (frst (badP vs) n 0 < n) then false else may), sl 0 n 2, sl 0 n 2, w63 n, w63 (frst (badP vs) n 0)] [kB n vs] else none
  | _, _ => none
theorem loopOKMo : LoopOK Try.prog Try.f36.ntmps 1 bMo liveMo LMof := by
  refine LoopOK.of_T ?_
  intro vs h k out hk
  unfold LMof at hk
  split at hk
  · rename_i may n n1 n2 N vs
    obtain ⟨hb, hk2⟩ := bif_t hk
    obtain ⟨hv, rfl, rfl, rfl⟩ := chk_iff.1 hb
    exact ⟨_, _, _, hk2, fun _ => loopMo _ may vs hv _ 0 (by omega)⟩
  · cases hk
noncomputable def LMo : LSpec := oneL 3 liveMo LMof
theorem loopsMo : LoopsOK Try.prog LMo Try.f36.ntmps 1 (bodyOf Try.f36) := loops_one rfl (by kernel_rfl) loopOKMo
theorem cMo (n : Nat) (vs : List FV) : fnK Try.prog (mkS []) LMo Try.f36 [sl 0 n 2] [kB n vs] =
    (bif chk (KeyOK n vs ∧ n * 2 = n * 2 ∧ n = n ∧ (n : Int) = n) then some (Res.ret (.bool (mayB n vs)) [kB n vs]) else none) := by kernel_rfl
theorem okMay : EntryOK Try.prog 36 FMayR := by
  refine EntryOK.of_paths (fn := Try.f36) follows_ok Try.func36 (by kernel_rfl) (by kernel_rfl) ?_
  intro args h k out hF
  unfold FMayR at hF
  split at hF
  · rename_i n N vs
    obtain ⟨hb, hk⟩ := bif_t hF
    obtain ⟨hv, rfl⟩ := chk_iff.1 hb
    refine ⟨_, _, hk, fun _ => ⟨mkS [], LMo, mk0, loopsMo, ?_⟩⟩
    rw [cMo, chk_t ⟨hv, rfl, rfl, rfl⟩]; rfl
  · cases hF
end Go.Proofs.Ytcjjngdkkihgjaa.VC
