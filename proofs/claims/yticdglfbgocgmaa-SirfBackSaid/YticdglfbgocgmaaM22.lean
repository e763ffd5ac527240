/- sirf, the document's: Encode: what they are. -/
import Derived.Test.YticdglfbgocgmaaM21
namespace Go.Proofs.Yticdglfbgocgmaa.VC
open Go Go.Proofs

def isB (xs : List Int) : Prop := ∀ y ∈ xs, 0 ≤ y ∧ y ≤ 255
theorem putB_isB {xs l : List Int} {a : Nat} (hx : isB xs) (hl : isB l) : isB (putB xs a l) := by
  intro y hy
  unfold putB at hy
  rcases List.mem_append.1 hy with h | h
  · exact hx y (List.mem_of_mem_take h)
  rcases List.mem_append.1 h with h | h
  · exact hl y h
  · exact hx y (List.mem_of_mem_drop h)
theorem be_isB (v : Int) (s : Nat) : isB (be v s) := fun y hy => by have := be_mem hy; omega
theorem payB_isB {bs fl vs : List Int} (hb : isB bs) : ∀ k, isB (payB bs fl vs k)
  | 0 => hb
  | k + 1 => putB_isB (payB_isB hb k) (be_isB _ _)
theorem pay0_isB {len : Nat} {x : Int} (hx : 0 ≤ x ∧ x ≤ 255) : isB (pay0 len x) := fun y hy => by
  unfold pay0 at hy
  rcases List.mem_or_eq_of_mem_set hy with h | h
  · rw [List.eq_of_mem_replicate h]; decide
  · rw [h]; exact hx
theorem payB_len {bs fl vs : List Int} {len : Nat} (hb : bs.length = len) : ∀ k, fldsOK len fl k → (payB bs fl vs k).length = len
  | 0, _ => hb
  | k + 1, hf => by
    have ih := payB_len (vs := vs) hb k fun i hi => hf i (by omega)
    obtain ⟨f1, f2, f3, f4, f5⟩ := hf k (by omega)
    have := manyI_rng ⟨f1, f2⟩
    rw [payB, putB_len, ih]
    rw [be_len, ih]; omega
theorem pay0_len {len : Nat} {x : Int} : (pay0 len x).length = len := by unfold pay0; rw [List.length_set, List.length_replicate]
noncomputable def FEnK (len : Nat) (fl : List Int) : FSpec := fun args h k => match args, h with
  | [.agg ⟨[.int .u8 x, .slice (some ⟨0, 0, none⟩) q _]⟩], [some ⟨false, 1, [.ints .i64 n vs]⟩] =>
    bif chk (layS x = some (len, fl) ∧ 2 * q = fl.length ∧ q = n ∧ fitsTo fl vs q) then k (.tuple #[sl 1 (4 + len + 4) 1, w63 0]) [rI n vs, oU (4 + len + 4) (frmS len (payB (pay0 len x) fl vs q))] else none
  | _, _ => none
theorem frm_eq {len : Nat} {b : List Int} {a0 a1 s0 s1 : Int} (hl : b.length = len) (ha0 : a0 = (len : Int) / 256) (ha1 : a1 = (len : Int) % 256) (h0 : s0 = sum15 b / 256) (h1 : s1 = sum15 b % 256) :
    List.take (4 + len) ([(160 : Int), 162, a0, a1] ++ List.take len b) ++ List.take 4 [s0, s1, 176, 179] = frmS len b := by
  subst ha0 ha1 h0 h1
  rw [List.take_of_length_le (l := b) (by omega), List.take_of_length_le (by simp [hl]; omega)]
  rfl
theorem frm_byte {len : Nat} {b : List Int} (hb : isB b) (hlen : len ≤ 200) :
    IntKind.u8.wrap ((len : Int) / 256) = (len : Int) / 256 ∧ IntKind.u8.wrap (len : Int) = (len : Int) % 256 ∧ IntKind.u8.wrap ((len : Int) % 256) = (len : Int) % 256 ∧
    IntKind.u8.wrap (sum15 b / 256) = sum15 b / 256 ∧ IntKind.u8.wrap (sum15 b) = sum15 b % 256 ∧ IntKind.u8.wrap (sum15 b % 256) = sum15 b % 256 := by
  obtain ⟨h1, h2, _⟩ := sum15_rng b hb
  refine ⟨?_, ?_, ?_, ?_, ?_, ?_⟩ <;> rw [wU8] <;> omega
theorem okEnK (len : Nat) (fl : List Int) : EntryOK Try.prog 29 (FEnK len fl) := by
  refine EntryOK.of_paths (fn := Try.f29) follows_ok Try.func29 (by kernel_rfl) (by kernel_rfl) ?_
  intro args h k out hF
  unfold FEnK at hF
  split at hF
  · rename_i x q c n vs
    obtain ⟨hb, hF2⟩ := bif_t hF
    obtain ⟨hl, h2, h3, h4⟩ := chk_iff.1 hb
    obtain ⟨g1, g2, g3, g4, g5, g6⟩ := layS_ok hl
    rw [show fl.length / 2 = q by omega] at g4 g5
    refine ⟨_, _, hF2, fun real => ?_⟩
    have hx : 0 ≤ x ∧ x ≤ 255 := real.aggI (i := 0) rfl (j := 0) rfl
    have hl2 : (payB (pay0 len x) fl vs q).length = len := payB_len pay0_len q g5
    have hB : isB (payB (pay0 len x) fl vs q) := payB_isB (pay0_isB hx) q
    have hs := (sum15_rng _ hB).1
    refine ⟨_, noL, SpecOK.on (mkS_cons (okPayK len fl) (mkS_cons okFif (mkS_nil _))) _, noL_ok, (pEnK x n q c len vs fl (h6 := blt_t (by omega)) (h10 := rfl)).trans ?_⟩
    obtain ⟨b0, b1, b2, b3, b4, b5⟩ := frm_byte hB g6
    rw [Int.fdiv_eq_ediv_of_nonneg _ (by decide), Int.fdiv_eq_ediv_of_nonneg _ (by decide), frm_eq hl2 b0 b1 b3 b4]
  · cases hF
theorem okErK (len : Nat) (fl : List Int) : EntryOK Try.prog 30 (FEnK len fl) := by
  refine EntryOK.of_paths (fn := Try.f30) follows_ok Try.func30 (by kernel_rfl) (by kernel_rfl) ?_
  intro args h k out hF
  unfold FEnK at hF
  split at hF
  · rename_i x q c n vs
    obtain ⟨hb, hF2⟩ := bif_t hF
    obtain ⟨hl, h2, h3, h4⟩ := chk_iff.1 hb
    obtain ⟨g1, g2, g3, g4, g5, g6⟩ := layS_ok hl
    rw [show fl.length / 2 = q by omega] at g4 g5
    refine ⟨_, _, hF2, fun real => ?_⟩
    have hx : 0 ≤ x ∧ x ≤ 255 := real.aggI (i := 0) rfl (j := 0) rfl
    have hl2 : (payB (pay0 len x) fl vs q).length = len := payB_len pay0_len q g5
    have hB : isB (payB (pay0 len x) fl vs q) := payB_isB (pay0_isB hx) q
    obtain ⟨hs, hs2, _⟩ := sum15_rng _ hB
    have e1 := Int.tdiv_eq_ediv_of_nonneg (b := 256) (show (0 : Int) ≤ len by omega)
    have e2 := Int.tmod_eq_emod_of_nonneg (b := 256) (show (0 : Int) ≤ len by omega)
    have e3 := Int.tdiv_eq_ediv_of_nonneg (b := 256) hs
    have e4 := Int.tmod_eq_emod_of_nonneg (b := 256) hs
    refine ⟨_, noL, SpecOK.on (mkS_cons (okPayRK len fl) (mkS_cons okFifR (mkS_nil _))) _, noL_ok, (pErK x n q c len vs fl (w1 := by rw [e1]; omega) (w3 := by rw [e3]; omega) (h6 := blt_t (by omega)) (h10 := rfl)).trans ?_⟩
    obtain ⟨b0, b1, b2, b3, b4, b5⟩ := frm_byte hB g6
    rw [e1, e2, e3, e4, frm_eq hl2 b0 b2 b3 b5]
  · cases hF
theorem okEnE (e : Int) : EntryOK Try.prog 29 (FPayE e) := by
  refine EntryOK.of_paths (fn := Try.f29) follows_ok Try.func29 (by kernel_rfl) (by kernel_rfl) ?_
  intro args h k out hF
  unfold FPayE at hF
  split at hF
  · rename_i x q c n vs
    obtain ⟨hb, hF2⟩ := bif_t hF
    exact ⟨_, _, hF2, fun _ => ⟨_, noL, SpecOK.on (mkS_cons (okPayE e) (mkS_nil _)) _, noL_ok, pEnE x e n q c vs (h1 := chk_iff.1 hb) (h2 := (chk_iff.1 hb).2.1)⟩⟩
  · cases hF
theorem okErE (e : Int) : EntryOK Try.prog 30 (FPayE e) := by
  refine EntryOK.of_paths (fn := Try.f30) follows_ok Try.func30 (by kernel_rfl) (by kernel_rfl) ?_
  intro args h k out hF
  unfold FPayE at hF
  split at hF
  · rename_i x q c n vs
    obtain ⟨hb, hF2⟩ := bif_t hF
    exact ⟨_, _, hF2, fun _ => ⟨_, noL, SpecOK.on (mkS_cons (okPayRE e) (mkS_nil _)) _, noL_ok, pErE x e n q c vs (h1 := chk_iff.1 hb) (h2 := (chk_iff.1 hb).2.1)⟩⟩
  · cases hF
end Go.Proofs.Yticdglfbgocgmaa.VC
