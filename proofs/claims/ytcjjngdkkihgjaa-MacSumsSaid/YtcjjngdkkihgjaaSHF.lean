/- Keys: too great? -/
import Derived.Test.YtcjjngdkkihgjaaSHE
namespace Go.Proofs.Ytcjjngdkkihgjaa.VC
open Go Go.Proofs

/-- The first place of so many from here on, or the place behind them. -/
def frst (p : Nat → Bool) : Nat → Nat → Nat
  | 0, i => i
  | m + 1, i => bif p i then i else frst p m (i + 1)
theorem frst_le (p : Nat → Bool) : ∀ (m i : Nat), i ≤ frst p m i ∧ frst p m i ≤ i + m
  | 0, i => ⟨Nat.le_refl _, Nat.le_refl _⟩
  | m + 1, i => by
    have := frst_le p m (i + 1)
    rw [frst]
    cases p i with
    | true => simp only [cond_true]; omega
    | false => simp only [cond_false]; omega
def idK (vs : List FV) (i : Nat) : Int := (vs.getD (i * 2) (FV.b false)).asI
def lnK (vs : List FV) (i : Nat) : Nat := (vs.getD (i * 2 + 1) (FV.b false)).asL
abbrev ksK : List CL := [.i .u32, .l]
def KeyOK (n : Nat) (vs : List FV) : Prop := KindsL ksK n vs ∧ n ≤ 140737488355328
def bigP (vs : List FV) (i : Nat) : Bool := decide ((lnK vs i : Int) > 100)
theorem loopGr (n : Nat) (vs : List FV) (hv : KeyOK n vs) : ∀ (m i : Nat), i + m = n →
    LoopT Try.prog Try.f32.ntmps 1 (loopOf Try.f32 0) (zipS liveGr [.bool false, sl 0 n 2, w63 n, w63 i]) [kB n vs] (bif decide (frst (bigP vs) m i < n) then .ret else .exit 0)
      (zipS liveGr [.bool (decide (frst (bigP vs) m i < n)), sl 0 n 2, w63 n, w63 (frst (bigP vs) m i)]) [kB n vs] := by
  intro m
  induction m with
  | zero =>
    intro i hi
    obtain rfl : i = n := hi
    rw [frst, dec_f (Nat.lt_irrefl i)]
    exact LoopT.last (by simp) (CodeT.out (S := (mkS []).on [(7, false)]) mk0 noL_ok (fun on out => pGrx i vs on out))
  | succ m ih =>
    intro i hi
    obtain ⟨k1, k2⟩ := hv
    have hl := KindsL.l (i := i) (j := 1) k1 (by omega) rfl
    have key := fun on out => pGr n i vs on out (by omega) (by omega) (by omega) (by omega) hl
    rw [frst]
    by_cases hb : bigP vs i = true
    · rw [hb, cond_true, dec_t (show i < n by omega)]
      refine LoopT.last (by simp) (CodeT.out (S := (mkS []).on [(7, true)]) mk0 noL_ok (fun on out => ?_))
      rw [key on out, show decide ((↑(vs.getD (i * 2 + 1) (FV.b false)).asL : Int) > (100 : Int)) = true from hb]; rfl
    · have hb : bigP vs i = false := by simpa using hb
      rw [hb, cond_false]
      refine LoopT.step (CodeT.on (S := (mkS []).on [(7, true)]) mk0 noL_ok (fun on out => ?_)) (ih (i + 1) (by omega))
      rw [key on out, show decide ((↑(vs.getD (i * 2 + 1) (FV.b false)).asL : Int) > (100 : Int)) = false from hb]; rfl
def grB (n : Nat) (vs : List FV) : Bool := bif decide (frst (bigP vs) n 0 < n) then true else decide ((n : Int) > 20)
noncomputable def LGrf : LF := fun vs h k => match vs, h with
  | [.bool false, .slice (some ⟨0, 0, none⟩) n 2, .int .i64 n', .int .i64 0], [some ⟨false, 2, [.any N vs]⟩] =>
    bif chk (KeyOK n vs ∧ N = n * 2 ∧ n' = n) then bif decide (frst (bigP vs) n 0 < n) then k .ret [.bool true, sl 0 n 2, w63 n, w63 (frst (bigP vs) n 0)] [kB n vs] else k (.exit 0) [.bool false, sl 0 n 2, w63 n, w63 n] [kB n vs] else none
  | _, _ => none
theorem loopOKGr : LoopOK Try.prog Try.f32.ntmps 1 (loopOf Try.f32 0) liveGr LGrf := by
  refine LoopOK.of_T ?_
  intro vs h k out hk
  unfold LGrf at hk
  split at hk
  · rename_i n n' N vs
    obtain ⟨hb, hk2⟩ := bif_t hk
    obtain ⟨hv, rfl, rfl⟩ := chk_iff.1 hb
    have h := loopGr n vs hv n 0 (by omega)
    by_cases hf : frst (bigP vs) n 0 < n
    · rw [dec_t hf] at h hk2
      exact ⟨_, _, _, hk2, fun _ => h⟩
    · have hl := (frst_le (bigP vs) n 0).2
      rw [dec_f hf] at h hk2
      rw [show frst (bigP vs) n 0 = n by omega] at h
      exact ⟨_, _, _, hk2, fun _ => h⟩
  · cases hk
noncomputable def LGr : LSpec := oneL 2 liveGr LGrf
theorem loopsGr : LoopsOK Try.prog LGr Try.f32.ntmps 1 (bodyOf Try.f32) := loops_one rfl (by kernel_rfl) loopOKGr
theorem cGr (n : Nat) (vs : List FV) : fnK Try.prog (mkS []) LGr Try.f32 [sl 0 n 2] [kB n vs] =
    (bif chk (KeyOK n vs ∧ n * 2 = n * 2 ∧ (n : Int) = n) then bif decide (frst (bigP vs) n 0 < n) then some (Res.ret (.bool true) [kB n vs]) else some (Res.ret (.bool (decide ((n : Int) > 20))) [kB n vs]) else none) := by kernel_rfl
noncomputable def FGr : FSpec := fun args h k => match args, h with
  | [.slice (some ⟨0, 0, none⟩) n 2], [some ⟨false, 2, [.any N vs]⟩] => bif chk (KeyOK n vs ∧ N = n * 2) then k (.bool (grB n vs)) [kB n vs] else none
  | _, _ => none
theorem okGr : EntryOK Try.prog 32 FGr := by
  refine EntryOK.of_paths (fn := Try.f32) follows_ok Try.func32 (by kernel_rfl) (by kernel_rfl) ?_
  intro args h k out hF
  unfold FGr at hF
  split at hF
  · rename_i n N vs
    obtain ⟨hb, hk⟩ := bif_t hF
    obtain ⟨hv, rfl⟩ := chk_iff.1 hb
    refine ⟨_, _, hk, fun _ => ⟨mkS [], LGr, mk0, loopsGr, ?_⟩⟩
    rw [cGr, chk_t ⟨hv, rfl, rfl⟩, cond_true, grB]
    by_cases hf : frst (bigP vs) n 0 < n
    · rw [dec_t hf]; rfl
    · rw [dec_f hf]; rfl
  · cases hF
end Go.Proofs.Ytcjjngdkkihgjaa.VC
