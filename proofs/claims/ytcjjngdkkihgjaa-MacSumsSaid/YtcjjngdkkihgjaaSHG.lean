/- Keys: the reference's May. -/
import Derived.Test.YtcjjngdkkihgjaaSHF
namespace Go.Proofs.Ytcjjngdkkihgjaa.VC
open Go Go.Proofs

/-- Has an earlier key the same number? -/
def dupP (vs : List FV) (i : Nat) (j : Nat) : Bool := idK vs j == idK vs i
theorem loopRi (n i : Nat) (vs : List FV) (hv : KeyOK n vs) (hi : i < n) : ∀ (m j : Nat), j + m = i →
    LoopT Try.prog Try.f37.ntmps 1 bRi (zipS liveRi [.bool false, sl 0 n 2, w63 i, w63 j]) [kB n vs] (bif decide (frst (dupP vs i) m j < i) then .ret else .exit 2)
      (zipS liveRi [.bool false, sl 0 n 2, w63 i, w63 (frst (dupP vs i) m j)]) [kB n vs] := by
  intro m
  induction m with
  | zero =>
    intro j hj
    obtain rfl : j = i := hj
    rw [frst, dec_f (Nat.lt_irrefl j)]
    exact LoopT.last (by simp) (CodeT.out (S := (mkS []).on [(37, false)]) mk0 noL_ok (fun on out => pRix n j vs on out))
  | succ m ih =>
    intro j hj
    obtain ⟨k1, k2⟩ := hv
    have h1 := KindsL.i (i := i) (j := 0) k1 (by omega) rfl
    have h2 := KindsL.i (i := j) (j := 0) k1 (by omega) rfl
    have key := fun on out => pRi n i j vs on out (by omega) (by omega) (by omega) (by omega) (by omega) h2 (by omega) (by omega) (by omega) h1
    rw [frst]
    by_cases hb : dupP vs i j = true
    · rw [hb, cond_true, dec_t (show j < i by omega)]
      refine LoopT.last (by simp) (CodeT.out (S := (mkS []).on [(37, true)]) mk0 noL_ok (fun on out => ?_))
      rw [key on out, show ((vs.getD (j * 2) (FV.b false)).asI == (vs.getD (i * 2) (FV.b false)).asI) = true from hb]; rfl
    · have hb : dupP vs i j = false := by simpa using hb
      rw [hb, cond_false]
      refine LoopT.step (CodeT.on (S := (mkS []).on [(37, true)]) mk0 noL_ok (fun on out => ?_)) (ih (j + 1) (by omega))
      rw [key on out, show ((vs.getD (j * 2) (FV.b false)).asI == (vs.getD (i * 2) (FV.b false)).asI) = false from hb]; rfl
noncomputable def LRif : LF := fun vs h k => match vs, h with
  | [.bool false, .slice (some ⟨0, 0, none⟩) n 2, .int .i64 i, .int .i64 0], [some ⟨false, 2, [.any N vs]⟩] =>
    bif chk (KeyOK n vs ∧ N = n * 2 ∧ 0 ≤ i ∧ i.toNat < n) then bif decide (frst (dupP vs i.toNat) i.toNat 0 < i.toNat) then k .ret [.bool false, sl 0 n 2, w63 i, w63 (frst (dupP vs i.toNat) i.toNat 0)] [kB n vs] else k (.exit 2) [.bool false, sl 0 n 2, w63 i, w63 i] [kB n vs] else none
  | _, _ => none
theorem loopOKRi : LoopOK Try.prog Try.f37.ntmps 1 bRi liveRi LRif := by
  refine LoopOK.of_T ?_
  intro vs h k out hk
  unfold LRif at hk
  split at hk
  · rename_i n i N vs
    obtain ⟨hb, hk2⟩ := bif_t hk
    obtain ⟨hv, rfl, h0, h1⟩ := chk_iff.1 hb
    obtain ⟨i, rfl⟩ := Int.eq_ofNat_of_zero_le h0
    rw [Int.toNat_natCast] at h1 hk2
    have h := loopRi n i vs hv h1 i 0 (by omega)
    by_cases hf : frst (dupP vs i) i 0 < i
    · rw [dec_t hf] at h hk2
      exact ⟨_, _, _, hk2, fun _ => h⟩
    · have hl := (frst_le (dupP vs i) i 0).2
      rw [dec_f hf] at h hk2
      rw [show frst (dupP vs i) i 0 = i by omega] at h
      exact ⟨_, _, _, hk2, fun _ => h⟩
  · cases hk
noncomputable def LRi : LSpec := oneL 7 liveRi LRif
noncomputable abbrev bRo : Code := loopOf Try.f37 0
theorem loopsRi : LoopsOK Try.prog LRi Try.f37.ntmps 1 bRo := loops_one rfl (by kernel_rfl) loopOKRi
def liveRo : List Nat := [2, 0, 3]
--CP pRo (n i : Nat) (vs : List FV) (on : List Value → Heap → Out) (out : Exit → List Value → Heap → Out) :: roundK Try.prog ((mkS []).on [(8, true)]) LRi Try.f37.ntmps 1 bRo liveRo [.bool false, sl 0 n 2, w63 i] [kB n vs] on out
theorem pRo (n i : Nat) (vs : List FV) (on : List Value → Heap → Out) (out : Exit → List Value → Heap → Out)
    (w1 : -9223372036854775808 ≤ (↑i : Int) + (1 : Int) ∧ (↑i : Int) + (1 : Int) ≤ 9223372036854775807 := by omega)
    (h1 : (↑i : Int) < (↑n : Int) := by first | omega | assumption | rfl)
    (h2 : (0 : Int) ≤ (↑i : Int) := by first | omega | assumption | rfl)
    (h3 : i * (2 : Nat) < n * (2 : Nat) := by first | omega | assumption | rfl)
    (h4 : FV.isI IntKind.u32 (vs.getD (i * (2 : Nat)) (FV.b false)) = true := by first | omega | assumption | rfl) : roundK Try.prog ((mkS []).on [(8, true)]) LRi Try.f37.ntmps 1 bRo liveRo [.bool false, sl 0 n 2, w63 i] [kB n vs] on out =
     (bif (vs.getD (i * (2 : Nat)) (FV.b false)).asI == (0 : Int) then out Exit.ret [Value.bool false, Value.slice (some (Addr.mk (0 : Nat) (0 : Nat) none)) n (2 : Nat), Value.int IntKind.i64 (↑i : Int)]
     [some (Blk.mk false (2 : Nat) [Seg.any (n * (2 : Nat)) vs])] else bif decide ((0 : Int) ≤ (↑i : Int)) && decide ((↑i : Int) < (↑n : Int)) then bif (i * (2 : Nat) + (1 : Nat)).blt (n * (2 : Nat)) then
     bif (vs.getD (i * (2 : Nat) + (1 : Nat)) (FV.b false)).isL then bif decide ((↑(vs.getD (i * (2 : Nat) + (1 : Nat)) (FV.b false)).asL : Int) < (1 : Int)) then out Exit.ret [Value.bool false,
     Value.slice (some (Addr.mk (0 : Nat) (0 : Nat) none)) n (2 : Nat), Value.int IntKind.i64 (↑i : Int)] [some (Blk.mk false (2 : Nat) [Seg.any (n * (2 : Nat)) vs])] else bif decide ((0 : Int) ≤ (↑i :
     Int)) && decide ((↑i : Int) < (↑n : Int)) then bif (i * (2 : Nat) + (1 : Nat)).blt (n * (2 : Nat)) then bif (vs.getD (i * (2 : Nat) + (1 : Nat)) (FV.b false)).isL then bif decide ((↑(vs.getD (i * (2 :
     Nat) + (1 : Nat)) (FV.b false)).asL : Int) > (64 : Int)) then out Exit.ret [Value.bool false, Value.slice (some (Addr.mk (0 : Nat) (0 : Nat) none)) n (2 : Nat), Value.int IntKind.i64 (↑i : Int)] [some
     (Blk.mk false (2 : Nat) [Seg.any (n * (2 : Nat)) vs])] else bif chk (KeyOK n vs ∧ n * (2 : Nat) = n * (2 : Nat) ∧ (0 : Int) ≤ (↑i : Int) ∧ i < n) then bif decide (frst (dupP vs i) i (0 : Nat) < i)
     then out Exit.ret [Value.bool false, Value.slice (some (Addr.mk (0 : Nat) (0 : Nat) none)) n (2 : Nat), Value.int IntKind.i64 (↑i : Int)] [some (Blk.mk false (2 : Nat) [Seg.any (n * (2 : Nat)) vs])]
     else on [Value.bool false, Value.slice (some (Addr.mk (0 : Nat) (0 : Nat) none)) n (2 : Nat), Value.int IntKind.i64 ((↑i : Int) + (1 : Int))] [some (Blk.mk false (2 : Nat) [Seg.any (n * (2 : Nat))
     vs])] else none else none else none else none else none else none else none) :=
  Eq.trans (b :=
     bif decide ((↑i : Int) < (↑n : Int)) then bif decide ((0 : Int) ≤ (↑i : Int)) && decide ((↑i : Int) < (↑n : Int)) then bif ((0 : Nat) + (↑i : Int).toNat * (2 : Nat)).blt (n * (2 : Nat)) then bif
     FV.isI IntKind.u32 (vs.getD ((0 : Nat) + (↑i : Int).toNat * (2 : Nat)) (FV.b false)) then bif (vs.getD ((0 : Nat) + (↑i : Int).toNat * (2 : Nat)) (FV.b false)).asI == (0 : Int) then out Exit.ret
     [Value.bool false, Value.slice (some (Addr.mk (0 : Nat) (0 : Nat) none)) n (2 : Nat), Value.int IntKind.i64 (↑i : Int)] [some (Blk.mk false (2 : Nat) [Seg.any (n * (2 : Nat)) vs])] else bif decide ((0
     : Int) ≤ (↑i : Int)) && decide ((↑i : Int) < (↑n : Int)) then bif ((0 : Nat) + (↑i : Int).toNat * (2 : Nat) + (1 : Nat)).blt (n * (2 : Nat)) then bif (vs.getD ((0 : Nat) + (↑i : Int).toNat * (2 : Nat)
     + (1 : Nat)) (FV.b false)).isL then bif decide ((↑(vs.getD ((0 : Nat) + (↑i : Int).toNat * (2 : Nat) + (1 : Nat)) (FV.b false)).asL : Int) < (1 : Int)) then out Exit.ret [Value.bool false, Value.slice
     (some (Addr.mk (0 : Nat) (0 : Nat) none)) n (2 : Nat), Value.int IntKind.i64 (↑i : Int)] [some (Blk.mk false (2 : Nat) [Seg.any (n * (2 : Nat)) vs])] else bif decide ((0 : Int) ≤ (↑i : Int)) && decide
     ((↑i : Int) < (↑n : Int)) then bif ((0 : Nat) + (↑i : Int).toNat * (2 : Nat) + (1 : Nat)).blt (n * (2 : Nat)) then bif (vs.getD ((0 : Nat) + (↑i : Int).toNat * (2 : Nat) + (1 : Nat)) (FV.b false)).isL
     then bif decide ((↑(vs.getD ((0 : Nat) + (↑i : Int).toNat * (2 : Nat) + (1 : Nat)) (FV.b false)).asL : Int) > (64 : Int)) then out Exit.ret [Value.bool false, Value.slice (some (Addr.mk (0 : Nat) (0 :
     Nat) none)) n (2 : Nat), Value.int IntKind.i64 (↑i : Int)] [some (Blk.mk false (2 : Nat) [Seg.any (n * (2 : Nat)) vs])] else bif chk (KeyOK n vs ∧ n * (2 : Nat) = n * (2 : Nat) ∧ (0 : Int) ≤ (↑i :
     Int) ∧ (↑i : Int).toNat < n) then bif decide (frst (dupP vs (↑i : Int).toNat) (↑i : Int).toNat (0 : Nat) < (↑i : Int).toNat) then out Exit.ret [Value.bool false, Value.slice (some (Addr.mk (0 : Nat)
     (0 : Nat) none)) n (2 : Nat), Value.int IntKind.i64 (↑i : Int)] [some (Blk.mk false (2 : Nat) [Seg.any (n * (2 : Nat)) vs])] else on [Value.bool false, Value.slice (some (Addr.mk (0 : Nat) (0 : Nat)
     none)) n (2 : Nat), Value.int IntKind.i64 (IntKind.i64.wrap ((↑i : Int) + (1 : Int)))] [some (Blk.mk false (2 : Nat) [Seg.any (n * (2 : Nat)) vs])] else none else none else none else none else none
     else none else none else none else none else none else none) (by kernel_rfl) (by simp only [-eq_self, Int.toNat_natCast, Nat.zero_add, swrap w1.1 w1.2]; exact (go_t (dec_t h1) (go_t (and_t (dec_t h2) (dec_t h1)) (go_t (blt_t h3) (go_t h4 rfl)))))
--CFEND
--CP pRox (n : Nat) (vs : List FV) (on : List Value → Heap → Out) (out : Exit → List Value → Heap → Out) :: roundK Try.prog ((mkS []).on [(8, false)]) LRi Try.f37.ntmps 1 bRo liveRo [.bool false, sl 0 n 2, w63 n] [kB n vs] on out
theorem pRox (n : Nat) (vs : List FV) (on : List Value → Heap → Out) (out : Exit → List Value → Heap → Out)
    (h1 : ¬(↑n : Int) < (↑n : Int) := by first | omega | assumption | rfl) : roundK Try.prog ((mkS []).on [(8, false)]) LRi Try.f37.ntmps 1 bRo liveRo [.bool false, sl 0 n 2, w63 n] [kB n vs] on out =
     (out (Exit.exit (0 : Nat)) [Value.bool false, Value.slice (some (Addr.mk (0 : Nat) (0 : Nat) none)) n (2 : Nat), Value.int IntKind.i64 (↑n : Int)] [some (Blk.mk false (2 : Nat) [Seg.any (n * (2 :
     Nat)) vs])]) :=
  Eq.trans (by kernel_rfl) (go_f (dec_f h1) rfl)
--CFEND
/-- May a key not be? -/
def badP (vs : List FV) (i : Nat) : Bool := (idK vs i == 0) || decide ((lnK vs i : Int) < 1) || decide ((lnK vs i : Int) > 64) || decide (frst (dupP vs i) i 0 < i)
theorem bif4 {a b c d : Bool} {R N : Out} : (bif a then R else bif b then R else bif c then R else bif d then R else N) = (bif (a || b || c || d) then R else N) := by
  cases a <;> cases b <;> cases c <;> cases d <;> rfl
theorem pRoB (n i : Nat) (vs : List FV) (hv : KeyOK n vs) (hi : i < n) (on : List Value → Heap → Out) (out : Exit → List Value → Heap → Out) : roundK Try.prog ((mkS []).on [(8, true)]) LRi Try.f37.ntmps 1 bRo liveRo [.bool false, sl 0 n 2, w63 i] [kB n vs] on out =
    (bif badP vs i then out .ret [.bool false, sl 0 n 2, w63 i] [kB n vs] else on [.bool false, sl 0 n 2, w63 ((i + 1 : Nat) : Int)] [kB n vs]) := by
  have k2 := hv.2
  have h1 : FV.isI IntKind.u32 (vs.getD (i * 2) (FV.b false)) = true := KindsL.i (i := i) (j := 0) hv.1 (by omega) rfl
  have e1 : (decide ((0 : Int) ≤ (↑i : Int)) && decide ((↑i : Int) < (↑n : Int))) = true := and_t (dec_t (by omega)) (dec_t (by omega))
  have e2 : (i * 2 + 1).blt (n * 2) = true := blt_t (by omega)
  have e3 : (vs.getD (i * 2 + 1) (FV.b false)).isL = true := KindsL.l (i := i) (j := 1) hv.1 (by omega) rfl
  have e4 : chk (KeyOK n vs ∧ n * 2 = n * 2 ∧ (0 : Int) ≤ (↑i : Int) ∧ i < n) = true := chk_t ⟨hv, rfl, by omega, hi⟩
  rw [pRo n i vs on out (by omega) (by omega) (by omega) (by omega) h1, e1, e2, e3, e4]
  exact bif4
theorem loopRo (n : Nat) (vs : List FV) (hv : KeyOK n vs) : ∀ (m i : Nat), i + m = n →
    LoopT Try.prog Try.f37.ntmps 1 bRo (zipS liveRo [.bool false, sl 0 n 2, w63 i]) [kB n vs] (bif decide (frst (badP vs) m i < n) then .ret else .exit 0)
      (zipS liveRo [.bool false, sl 0 n 2, w63 (frst (badP vs) m i)]) [kB n vs] := by
  intro m
  induction m with
  | zero =>
    intro i hi
    obtain rfl : i = n := hi
    rw [frst, dec_f (Nat.lt_irrefl i)]
    exact LoopT.last (by simp) (CodeT.out (S := (mkS []).on [(8, false)]) mk0 loopsRi (fun on out => pRox i vs on out))
  | succ m ih =>
    intro i hi
    have key := fun on out => pRoB n i vs hv (by omega) on out
    rw [frst]
    by_cases hb : badP vs i = true
    · rw [hb, cond_true, dec_t (show i < n by omega)]
      refine LoopT.last (by simp) (CodeT.out (S := (mkS []).on [(8, true)]) mk0 loopsRi (fun on out => ?_))
      rw [key on out, hb]; rfl
    · have hb : badP vs i = false := by simpa using hb
      rw [hb, cond_false]
      refine LoopT.step (CodeT.on (S := (mkS []).on [(8, true)]) mk0 loopsRi (fun on out => ?_)) (ih (i + 1) (by omega))
      rw [key on out, hb]; rfl
def mayB (n : Nat) (vs : List FV) : Bool := bif decide (frst (badP vs) n 0 < n) then false else decide ((n : Int) ≤ 8)
noncomputable def LRof : LF := fun vs h k => match vs, h with
  | [.bool false, .slice (some ⟨0, 0, none⟩) n 2, .int .i64 0], [some ⟨false, 2, [.any N vs]⟩] =>
    bif chk (KeyOK n vs ∧ N = n * 2) then bif decide (frst (badP vs) n 0 < n) then k .ret [.bool false, sl 0 n 2, w63 (frst (badP vs) n 0)] [kB n vs] else k (.exit 0) [.bool false, sl 0 n 2, w63 n] [kB n vs] else none
  | _, _ => none
theorem loopOKRo : LoopOK Try.prog Try.f37.ntmps 1 bRo liveRo LRof := by
  refine LoopOK.of_T ?_
  intro vs h k out hk
  unfold LRof at hk
  split at hk
  · rename_i n N vs
    obtain ⟨hb, hk2⟩ := bif_t hk
    obtain ⟨hv, rfl⟩ := chk_iff.1 hb
    have h := loopRo n vs hv n 0 (by omega)
    by_cases hf : frst (badP vs) n 0 < n
    · rw [dec_t hf] at h hk2
      exact ⟨_, _, _, hk2, fun _ => h⟩
    · have hl := (frst_le (badP vs) n 0).2
      rw [dec_f hf] at h hk2
      rw [show frst (badP vs) n 0 = n by omega] at h
      exact ⟨_, _, _, hk2, fun _ => h⟩
  · cases hk
noncomputable def LRo : LSpec := oneL 2 liveRo LRof
theorem loopsRo : LoopsOK Try.prog LRo Try.f37.ntmps 1 (bodyOf Try.f37) := loops_one rfl (by kernel_rfl) loopOKRo
theorem cRo (n : Nat) (vs : List FV) : fnK Try.prog (mkS []) LRo Try.f37 [sl 0 n 2] [kB n vs] =
    (bif chk (KeyOK n vs ∧ n * 2 = n * 2) then bif decide (frst (badP vs) n 0 < n) then some (Res.ret (.bool false) [kB n vs]) else some (Res.ret (.bool (decide ((n : Int) ≤ 8))) [kB n vs]) else none) := by kernel_rfl
noncomputable def FMayR : FSpec := fun args h k => match args, h with
  | [.slice (some ⟨0, 0, none⟩) n 2], [some ⟨false, 2, [.any N vs]⟩] => bif chk (KeyOK n vs ∧ N = n * 2) then k (.bool (mayB n vs)) [kB n vs] else none
  | _, _ => none
theorem okMayR : EntryOK Try.prog 37 FMayR := by
  refine EntryOK.of_paths (fn := Try.f37) follows_ok Try.func37 (by kernel_rfl) (by kernel_rfl) ?_
  intro args h k out hF
  unfold FMayR at hF
  split at hF
  · rename_i n N vs
    obtain ⟨hb, hk⟩ := bif_t hF
    obtain ⟨hv, rfl⟩ := chk_iff.1 hb
    refine ⟨_, _, hk, fun _ => ⟨mkS [], LRo, mk0, loopsRo, ?_⟩⟩
    rw [cRo, chk_t ⟨hv, rfl⟩, cond_true, mayB]
    by_cases hf : frst (badP vs) n 0 < n
    · rw [dec_t hf]; rfl
    · rw [dec_f hf]; rfl
  · cases hF
end Go.Proofs.Ytcjjngdkkihgjaa.VC
