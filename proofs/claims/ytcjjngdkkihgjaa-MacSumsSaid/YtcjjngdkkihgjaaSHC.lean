/- SHA-256: the document's sum is the program's. -/
import Derived.Test.YtcjjngdkkihgjaaSHB
namespace Go.Proofs.Ytcjjngdkkihgjaa.VC
open Go Go.Proofs

theorem kC_W32 : ∀ x ∈ kC, W32 x := by
  have : kC.all (fun x => decide (0 ≤ x) && decide (x < 4294967296)) = true := by kernel_rfl
  intro x hx
  have := List.all_eq_true.1 this x hx
  simp only [Bool.and_eq_true, decide_eq_true_eq] at this
  exact this
abbrev stRO (K p : Nat) : List Value := [.slice none 0 0, sl 1 K 1, sl 2 8 0, sl 3 64 0, w63 p]
theorem loopRO (n K : Nat) (B A : List Int) (hA : ∀ x ∈ A, Byt x) (hK : K ≤ 100000) : ∀ (m p : Nat) (H : List Int), p + 64 * m = K → H.length = 8 → (∀ x ∈ H, W32 x) →
    LoopT Try.prog Try.f35.ntmps 1 (loopOf Try.f35 0) (zipS liveRO (stRO K p)) [rU n B, oU K A, oI 8 H, oI 64 kC] (.exit 0) (zipS liveRO (stRO K K)) [rU n B, oU K A, oI 8 (turns A m p H), oI 64 kC] := by
  intro m
  induction m with
  | zero =>
    intro p H hp _ _
    obtain rfl : p = K := by omega
    exact LoopT.last (by simp) (CodeT.out (S := (mkS []).on [(25, false)]) mk0 loopsRI (fun on out => pROx n p p B A H kC on out))
  | succ m ih =>
    intro p H hp h1 h2
    have hl := ih (p + 64) (turnO A p H) (by omega) (by rw [turnO_eq]; rfl) (by rw [turnO_eq]; exact turnL_W32 A p H)
    refine LoopT.step (CodeT.on (S := (mkS []).on [(25, true)]) mk0 loopsRI (fun on out => ?_)) hl
    have e1 : (p : Int).toNat = p := Int.toNat_natCast p
    have e2 : List.take 8 H = H := List.take_of_length_le (by omega)
    have q := @pRO n K p B A H kC on out
    simp only [autoParam, e1, opq_eq, e2] at q
    rw [q (by omega) (by omega) ⟨trivial, by omega, by omega, by omega⟩ ⟨trivial, by omega, fun x hx => by obtain ⟨j, _, rfl⟩ := List.mem_map.1 hx; exact wd_W32 hA p j⟩ ⟨trivial, by omega, by omega, kC_W32, sch_W32 hA p, h2⟩ ⟨trivial, by omega, h2, (rnds_ok _ _ 64 0 H h1 h2).2⟩, turnO_eq]
    rfl
noncomputable def LROf : LF := fun vs h k => match vs, h with
  | [.slice none 0 0, .slice (some ⟨1, 0, none⟩) K 1, .slice (some ⟨2, 0, none⟩) 8 0, .slice (some ⟨3, 0, none⟩) 64 0, .int .i64 0],
    [some ⟨false, 1, [.ints .u8 n B]⟩, some ⟨true, 1, [.ints .u8 K2 A]⟩, some ⟨true, 1, [.ints .i64 8 H]⟩, some ⟨true, 1, [.ints .i64 64 KK]⟩] =>
    bif chk (K2 = K ∧ K % 64 = 0 ∧ K ≤ 100000 ∧ KK = kC ∧ ∀ x ∈ H, W32 x) then k (.exit 0) (stRO K K) [rU n B, oU K A, oI 8 (opq (turns A (K / 64) 0 H)), oI 64 KK] else none
  | _, _ => none
theorem loopOKRO : LoopOK Try.prog Try.f35.ntmps 1 (loopOf Try.f35 0) liveRO LROf := by
  refine LoopOK.of_T ?_
  intro vs h k out hk
  unfold LROf at hk
  split at hk
  · obtain ⟨hb, hk2⟩ := bif_t hk
    obtain ⟨rfl, h1, h2, hKK, h3⟩ := chk_iff.1 hb
    refine ⟨_, _, _, hk2, fun real => ?_⟩
    have hA := byt_of ((real.segs (i := 1) rfl) _ (List.mem_cons_self ..))
    have l1 := ((real.segs (i := 2) rfl) _ (List.mem_cons_self ..)).1
    rw [opq_eq, hKK]
    exact loopRO _ _ _ _ hA h2 _ 0 _ (by omega) l1 h3
  · cases hk
noncomputable def LRS : LSpec := manyL [(4, liveRO, LROf), (29, liveRF, LRFf)]
theorem loopsRS : LoopsOK Try.prog LRS Try.f35.ntmps 1 (bodyOf Try.f35) :=
  LsOK.all (bs := [loopOf Try.f35 0, loopOf Try.f35 1]) (by kernel_rfl) (LsOK.cons (by kernel_rfl) loopOKRO (LsOK.cons (by kernel_rfl) loopOKRF LsOK.nil))
theorem cBeg : fnK Try.prog (mkS []) noL Try.f74 [] [] = some (.ret (sl 0 8 0) [oI 8 h0C]) := by kernel_rfl
theorem cRdd : fnK Try.prog (mkS []) noL Try.f75 [] [] = some (.ret (sl 0 64 0) [oI 64 kC]) := by kernel_rfl
noncomputable def FBeg : FSpec := fun args h k => match args, h with
  | [], [] => k (sl 0 8 0) [oI 8 h0C]
  | _, _ => none
theorem okBeg : EntryOK Try.prog 74 FBeg := by
  refine EntryOK.of_paths (fn := Try.f74) follows_ok Try.func74 (by kernel_rfl) (by kernel_rfl) ?_
  intro args h k out hF
  unfold FBeg at hF
  split at hF
  · exact ⟨_, _, hF, fun _ => ⟨mkS [], noL, mk0, noL_ok, cBeg⟩⟩
  · cases hF
noncomputable def FRdd : FSpec := fun args h k => match args, h with
  | [], [] => k (sl 0 64 0) [oI 64 kC]
  | _, _ => none
theorem okRdd : EntryOK Try.prog 75 FRdd := by
  refine EntryOK.of_paths (fn := Try.f75) follows_ok Try.func75 (by kernel_rfl) (by kernel_rfl) ?_
  intro args h k out hF
  unfold FRdd at hF
  split at hF
  · exact ⟨_, _, hF, fun _ => ⟨mkS [], noL, mk0, noL_ok, cRdd⟩⟩
  · cases hF
noncomputable def SRS : Spec := mkS [(73, false, FBlk), (74, false, FBeg), (75, false, FRdd)]
theorem SRS_ok : SpecOK Try.prog SRS := mkS_cons okBlk (mkS_cons okBeg (mkS_cons okRdd (mkS_nil _)))
--CP cRS (n c : Nat) (B : List Int) :: fnK Try.prog SRS LRS Try.f35 [slV 0 0 n c] [rU n B]
theorem cRS (n c : Nat) (B : List Int)
    (h1 : n = n ∧ n ≤ (40000 : Nat) := by first | omega | assumption | rfl | ((repeat' with_reducible apply And.intro) <;> first | rfl | assumption | omega))
    (h2 : n + (1 : Nat) + zc (n + (1 : Nat)) + (8 : Nat) = n + (1 : Nat) + zc (n + (1 : Nat)) + (8 : Nat) ∧ (n + (1 : Nat) + zc (n + (1 : Nat)) + (8 : Nat)) % (64 : Nat) = (0 : Nat) ∧ n + (1 : Nat) + zc (n + (1 : Nat)) + (8 : Nat) ≤ (100000 : Nat) ∧ kC = kC ∧ ∀ (x : Int), x ∈ h0C → W32 x := by first | omega | assumption | rfl | ((repeat' with_reducible apply And.intro) <;> first | rfl | assumption | omega))
    (h3 : ∀ (x : Int), x ∈ opq (turns (opq (padL B n)) ((n + (1 : Nat) + zc (n + (1 : Nat)) + (8 : Nat)) / (64 : Nat)) (0 : Nat) h0C) → W32 x := by first | omega | assumption | rfl) : fnK Try.prog SRS LRS Try.f35 [slV 0 0 n c] [rU n B] =
     (some (Res.ret (Value.slice (some (Addr.mk (1 : Nat) (0 : Nat) none)) (32 : Nat) (1 : Nat)) [some (Blk.mk false (1 : Nat) [Seg.ints IntKind.u8 n B]), some (Blk.mk true (1 : Nat) [Seg.ints IntKind.u8
     (32 : Nat) (opq (outB (opq (turns (opq (padL B n)) ((n + (1 : Nat) + zc (n + (1 : Nat)) + (8 : Nat)) / (64 : Nat)) (0 : Nat) h0C))))])])) :=
  Eq.trans (by kernel_rfl) (go_t (chk_t h1) (go_t (chk_t h2) (go_t (chk_t h3) rfl)))
--CFEND
noncomputable def FRSum : FSpec := fun args h k => match args, h with
  | [.slice (some ⟨0, 0, none⟩) n _], [some ⟨false, 1, [.ints .u8 n2 B]⟩] => bif chk (n2 = n ∧ n ≤ 40000) then k (sl 1 32 1) [rU n B, oU 32 (opq (sumB B n))] else none
  | _, _ => none
theorem okRSum : EntryOK Try.prog 35 FRSum := by
  refine EntryOK.of_paths (fn := Try.f35) follows_ok Try.func35 (by kernel_rfl) (by kernel_rfl) ?_
  intro args h k out hF
  unfold FRSum at hF
  split at hF
  · obtain ⟨hb, hF2⟩ := bif_t hF
    obtain ⟨rfl, h1⟩ := chk_iff.1 hb
    rename_i c n B
    refine ⟨_, _, hF2, fun _ => ⟨SRS, LRS, SRS_ok, loopsRS, ?_⟩⟩
    have ez : zc (n + 1) ≤ 63 := by unfold zc; omega
    have ez2 : (n + 1 + zc (n + 1) + 8) % 64 = 0 := by unfold zc; omega
    rw [cRS n c B ⟨rfl, h1⟩ ⟨rfl, ez2, by omega, rfl, h0C_W32⟩ (by rw [opq_eq, opq_eq]; exact (turns_ok _ _ 0 _ h0C_len h0C_W32).2), opq_eq (turns _ _ _ _), opq_eq (padL B n)]
    rfl
  · cases hF
end Go.Proofs.Ytcjjngdkkihgjaa.VC
