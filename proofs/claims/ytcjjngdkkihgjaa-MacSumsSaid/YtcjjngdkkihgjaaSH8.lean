/- SHA-256: mac.Sum. -/
import Derived.Test.YtcjjngdkkihgjaaSH7
namespace Go.Proofs.Ytcjjngdkkihgjaa.VC
open Go Go.Proofs

def out4 (x : Int) : List Int := [x / 16777216 % 256, x / 65536 % 256, x / 256 % 256, x % 256]
/-- The bytes of eight words. -/
def outB (S : List Int) : List Int := out4 (S.getD 0 0) ++ out4 (S.getD 1 0) ++ out4 (S.getD 2 0) ++ out4 (S.getD 3 0) ++ out4 (S.getD 4 0) ++ out4 (S.getD 5 0) ++ out4 (S.getD 6 0) ++ out4 (S.getD 7 0)
theorem outB_len (S : List Int) : (outB S).length = 32 := rfl
noncomputable def LAf : LF := fun vs h k => match vs, h with
  | [.pointer (some ⟨1, 0, none⟩), .slice (some ⟨0, 0, none⟩) n c, .slice (some ⟨2, 0, none⟩) m 1], [some ⟨false, 1, [.ints .u8 n2 B]⟩, some ⟨true, 32, [.ints .u8 32 R]⟩, some ⟨true, 1, [.ints .u8 m2 A]⟩] =>
    bif chk (n2 = n ∧ m2 = m ∧ m ≤ 50000) then k (.exit 0) (stA n c (m + zc m)) [rU n B, rB32 R, oU (m + zc m) (A ++ List.replicate (zc m) 0)] else none
  | _, _ => none
noncomputable def LBf : LF := fun vs h k => match vs, h with
  | [.int .i64 0, .pointer (some ⟨1, 0, none⟩), .slice (some ⟨2, 0, none⟩) m 1, .int .u64 v], [some ⟨false, 1, [.ints .u8 n B]⟩, some ⟨true, 32, [.ints .u8 32 R]⟩, some ⟨true, 1, [.ints .u8 m2 A]⟩] =>
    bif chk (m2 = m ∧ m ≤ 60000) then k (.exit 2) [w63 8, pt 1, sl 2 (m + 8) 1, .int .u64 v] [rU n B, rB32 R, oU (m + 8) (A ++ byF v 8 0)] else none
  | _, _ => none
noncomputable def LCf : LF := fun vs h k => match vs, h with
  | [.int .i64 0, .pointer (some ⟨1, 0, none⟩), .slice (some ⟨2, 0, none⟩) m 1, .pointer (some ⟨3, 0, none⟩)], [some ⟨false, 1, [.ints .u8 n B]⟩, some ⟨true, 32, [.ints .u8 32 R]⟩, some ⟨true, 1, [.ints .u8 m2 A]⟩, some ⟨true, 8, [.ints .u32 8 S]⟩] =>
    bif chk (m2 = m ∧ m % 64 = 0 ∧ m ≤ 100000) then k (.exit 4) [w63 m, pt 1, sl 2 m 1, pt 3] [rU n B, rB32 R, oU m A, oW 8 (lst 8 (turns A (m / 64) 0 S))] else none
  | _, _ => none
noncomputable def LDf : LF := fun vs h k => match vs, h with
  | [.int .i64 0, .pointer (some ⟨1, 0, none⟩), .agg ⟨[.int .u32 a, .int .u32 b, .int .u32 c, .int .u32 d, .int .u32 e, .int .u32 f, .int .u32 g, .int .u32 i]⟩], [some ⟨false, 1, [.ints .u8 n B]⟩, some ⟨true, 32, [.ints .u8 32 R]⟩] =>
    bif chk (R = List.replicate 32 0) then k (.exit 6) [w63 8, pt 1, .agg ⟨[w32v a, w32v b, w32v c, w32v d, w32v e, w32v f, w32v g, w32v i]⟩] [rU n B, rB32 (outB [a, b, c, d, e, f, g, i])] else none
  | _, _ => none
theorem loopOKA : LoopOK Try.prog Try.f34.ntmps 1 (loopOf Try.f34 0) liveA LAf := by
  refine LoopOK.of_T ?_
  intro vs h k out hk
  unfold LAf at hk
  split at hk
  · obtain ⟨hb, hk2⟩ := bif_t hk
    obtain ⟨rfl, rfl, h1⟩ := chk_iff.1 hb
    refine ⟨_, _, _, hk2, fun real => ?_⟩
    have r := ((real.segs (i := 2) rfl) _ (List.mem_cons_self ..)).1
    exact loopA _ _ _ _ _ _ _ r rfl (by unfold zc; omega)
  · cases hk
theorem loopOKB : LoopOK Try.prog Try.f34.ntmps 1 (loopOf Try.f34 1) liveBy LBf := by
  refine LoopOK.of_T ?_
  intro vs h k out hk
  unfold LBf at hk
  split at hk
  · obtain ⟨hb, hk2⟩ := bif_t hk
    obtain ⟨rfl, h1⟩ := chk_iff.1 hb
    refine ⟨_, _, _, hk2, fun real => ?_⟩
    have r := ((real.segs (i := 2) rfl) _ (List.mem_cons_self ..)).1
    exact loopBy _ _ _ _ 8 0 _ _ rfl r (by omega)
  · cases hk
theorem loopOKC : LoopOK Try.prog Try.f34.ntmps 1 (loopOf Try.f34 2) liveCc LCf := by
  refine LoopOK.of_T ?_
  intro vs h k out hk
  unfold LCf at hk
  split at hk
  · obtain ⟨hb, hk2⟩ := bif_t hk
    obtain ⟨rfl, h1, h2⟩ := chk_iff.1 hb
    refine ⟨_, _, _, hk2, fun real => ?_⟩
    obtain ⟨r1, r2⟩ := w32_of ((real.segs (i := 3) rfl) _ (List.mem_cons_self ..))
    rw [lst_eq (turns_ok _ _ 0 _ r1 r2).1]
    exact loopCc _ _ _ _ _ h2 _ 0 _ (by omega) r1
  · cases hk
theorem loopOKD : LoopOK Try.prog Try.f34.ntmps 1 (loopOf Try.f34 3) liveD LDf := by
  refine LoopOK.of_rounds mk0 follows_ok (L := noL) noL_ok ?_
  intro vs h k out hk
  unfold LDf at hk
  split at hk
  · obtain ⟨hb, hk2⟩ := bif_t hk
    obtain rfl := chk_iff.1 hb
    refine ⟨_, _, _, hk2, fun _ => ⟨9, ?_⟩⟩
    have e1 : ∀ x : Int, IntKind.u8.wrap (x.fdiv 16777216) = x / 16777216 % 256 := fun x => by rw [Int.fdiv_eq_ediv_of_nonneg _ (by decide), wrap_u8]
    have e2 : ∀ x : Int, IntKind.u8.wrap (x.fdiv 65536) = x / 65536 % 256 := fun x => by rw [Int.fdiv_eq_ediv_of_nonneg _ (by decide), wrap_u8]
    have e3 : ∀ x : Int, IntKind.u8.wrap (x.fdiv 256) = x / 256 % 256 := fun x => by rw [Int.fdiv_eq_ediv_of_nonneg _ (by decide), wrap_u8]
    have e4 : ∀ x : Int, IntKind.u8.wrap x = x % 256 := fun x => wrap_u8
    rename_i a b c d e f g i n B _
    have := pD n B a b c d e f g i
    simp only [e1, e2, e3, e4] at this
    exact this
  · cases hk
noncomputable def LSum : LSpec := manyL [(2, liveA, LAf), (6, liveBy, LBf), (12, liveCc, LCf), (16, liveD, LDf)]
theorem loopsSum : LoopsOK Try.prog LSum Try.f34.ntmps 1 (bodyOf Try.f34) :=
  LsOK.all (bs := [loopOf Try.f34 0, loopOf Try.f34 1, loopOf Try.f34 2, loopOf Try.f34 3]) (by kernel_rfl) (LsOK.cons (by kernel_rfl) loopOKA (LsOK.cons (by kernel_rfl) loopOKB (LsOK.cons (by kernel_rfl) loopOKC (LsOK.cons (by kernel_rfl) loopOKD LsOK.nil))))
/-- The bytes with what stands behind them. -/
def padL (B : List Int) (n : Nat) : List Int := B ++ [128] ++ List.replicate (zc (n + 1)) 0 ++ byF (n * 8) 8 0
theorem padL_len {B : List Int} {n : Nat} (h : B.length = n) : (padL B n).length = n + 1 + zc (n + 1) + 8 := by
  simp only [padL, List.length_append, List.length_singleton, List.length_replicate, byF_len, h]
noncomputable def sumW (B : List Int) (n : Nat) : List Int := turns (padL B n) ((n + 1 + zc (n + 1) + 8) / 64) 0 h0C
theorem h0C_len : h0C.length = 8 := by kernel_rfl
theorem h0C_W32 : ∀ x ∈ h0C, W32 x := by
  have : h0C.all (fun x => decide (0 ≤ x) && decide (x < 4294967296)) = true := by kernel_rfl
  intro x hx
  have := List.all_eq_true.1 this x hx
  simp only [Bool.and_eq_true, decide_eq_true_eq] at this
  exact this
noncomputable def SSum : Spec := mkS [(71, false, FSta)]
theorem SSum_ok : SpecOK Try.prog SSum := mkS_cons okSta (mkS_nil _)
/-- A list that is told by its elements alone. -/
noncomputable def opq (L : List Int) : List Int := Classical.choose (⟨L, rfl⟩ : ∃ X, X = L)
theorem opq_eq (L : List Int) : opq L = L := Classical.choose_spec (⟨L, rfl⟩ : ∃ X, X = L)
def aggU (n : Nat) (L : List Int) : Value := .agg ⟨(List.range n).map fun j => .int .u8 (L.getD j 0)⟩
theorem cSum (n c : Nat) (B : List Int) : fnK Try.prog SSum LSum Try.f34 [slV 0 0 n c] [rU n B] =
    (bif decide ((0 : Int) ≤ (n : Int)) && decide ((n : Int) ≤ (n : Int)) then bif decide ((n : Int) = (n : Int)) then bif (((n : Int) - 0).toNat * 1).ble n then
      bif decide ((((n : Int) - 0).toNat + 1) * 1 ≤ 140737488355328) && (((n : Int) - 0).toNat + 1).ble 4611686018427387904 then bif Nat.beq ((n : Int) - 0).toNat 0 || true then
      bif chk (n = n ∧ ((n : Int) - 0).toNat * 1 + 1 = ((n : Int) - 0).toNat + 1 ∧ ((n : Int) - 0).toNat + 1 ≤ 50000) then
      bif chk (((n : Int) - 0).toNat + 1 + zc (((n : Int) - 0).toNat + 1) = ((n : Int) - 0).toNat + 1 + zc (((n : Int) - 0).toNat + 1) ∧ ((n : Int) - 0).toNat + 1 + zc (((n : Int) - 0).toNat + 1) ≤ 60000) then
      bif chk (((n : Int) - 0).toNat + 1 + zc (((n : Int) - 0).toNat + 1) + 8 = ((n : Int) - 0).toNat + 1 + zc (((n : Int) - 0).toNat + 1) + 8 ∧ (((n : Int) - 0).toNat + 1 + zc (((n : Int) - 0).toNat + 1) + 8) % 64 = 0 ∧ ((n : Int) - 0).toNat + 1 + zc (((n : Int) - 0).toNat + 1) + 8 ≤ 100000) then
      bif chk (([0, 0, 0, 0, 0, 0, 0, 0, 0, 0, 0, 0, 0, 0, 0, 0, 0, 0, 0, 0, 0, 0, 0, 0, 0, 0, 0, 0, 0, 0, 0, 0] : List Int) = List.replicate 32 0) then
      some (Res.ret (aggU 32 (outB (lst 8 (turns (List.take (((n : Int) - 0).toNat * 1) B ++ [128] ++ List.replicate (zc (((n : Int) - 0).toNat + 1)) 0 ++ byF (IntKind.u64.wrap (IntKind.u64.wrap (n : Int) * 8)) 8 0) ((((n : Int) - 0).toNat + 1 + zc (((n : Int) - 0).toNat + 1) + 8) / 64) 0 (lst 8 h0C))))) [rU n B])
      else none else none else none else none else none else none else none else none else none) := by kernel_rfl
/-- The sum of some bytes. -/
noncomputable def sumB (B : List Int) (n : Nat) : List Int := outB (sumW B n)
theorem sumB_len (B : List Int) (n : Nat) : (sumB B n).length = 32 := rfl
noncomputable def FSum : FSpec := fun args h k => match args, h with
  | [.slice (some ⟨0, 0, none⟩) n _], [some ⟨false, 1, [.ints .u8 n2 B]⟩] => bif chk (n2 = n ∧ n ≤ 40000) then k (aggU 32 (opq (sumB B n))) [rU n B] else none
  | _, _ => none
theorem okSum : EntryOK Try.prog 34 FSum := by
  refine EntryOK.of_paths (fn := Try.f34) follows_ok Try.func34 (by kernel_rfl) (by kernel_rfl) ?_
  intro args h k out hF
  unfold FSum at hF
  split at hF
  · obtain ⟨hb, hF2⟩ := bif_t hF
    obtain ⟨rfl, h1⟩ := chk_iff.1 hb
    rename_i c n B
    refine ⟨_, _, hF2, fun real => ⟨SSum, LSum, SSum_ok, loopsSum, ?_⟩⟩
    have hl := ((real.segs (i := 0) rfl) _ (List.mem_cons_self ..)).1
    have e : ((n : Int) - 0).toNat = n := by omega
    have ew : IntKind.u64.wrap (IntKind.u64.wrap (n : Int) * 8) = (n : Int) * 8 := by rw [wrap_u64, wrap_u64]; omega
    have ez : zc (n + 1) ≤ 63 := by unfold zc; omega
    have ez2 : (n + 1 + zc (n + 1) + 8) % 64 = 0 := by unfold zc; omega
    rw [cSum, e, ew, Nat.mul_one, Nat.mul_one, List.take_of_length_le (by omega), lst_eq h0C_len, opq_eq]
    have hz : ([0, 0, 0, 0, 0, 0, 0, 0, 0, 0, 0, 0, 0, 0, 0, 0, 0, 0, 0, 0, 0, 0, 0, 0, 0, 0, 0, 0, 0, 0, 0, 0] : List Int) = List.replicate 32 0 := rfl
    have hs : (∀ x ∈ h0C, W32 x) → (turns (B ++ [128] ++ List.replicate (zc (n + 1)) 0 ++ byF ((n : Int) * 8) 8 0) ((n + 1 + zc (n + 1) + 8) / 64) 0 h0C).length = 8 := fun h => (turns_ok _ _ 0 _ h0C_len h).1
    rw [lst_eq (hs h0C_W32)]
    rw [dec_t (show (0 : Int) ≤ (n : Int) by omega), dec_t (Int.le_refl _), dec_t rfl, ble_t (Nat.le_refl _), dec_t (show n + 1 ≤ 140737488355328 by omega), ble_t (show n + 1 ≤ 4611686018427387904 by omega), Bool.or_true,
      chk_t ⟨rfl, rfl, by omega⟩, chk_t ⟨rfl, by omega⟩, chk_t ⟨rfl, ez2, by omega⟩, chk_t hz]
    rfl
  · cases hF
end Go.Proofs.Ytcjjngdkkihgjaa.VC
