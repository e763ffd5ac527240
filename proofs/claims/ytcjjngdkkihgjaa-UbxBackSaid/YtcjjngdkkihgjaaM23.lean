/- sirf: the page's examples. -/
import Derived.Test.YtcjjngdkkihgjaaMB
import Derived.Test.YtcjjngdkkihgjaaMA
namespace Go.Proofs.Ytcjjngdkkihgjaa.VC
open Go Go.Proofs

theorem chk_of {p : Prop} (h : p) : chk p = true := chk_iff.2 h
def FEnX : FSpec := fun args h k => match args, h with
  | [.agg ⟨[.int .u8 11, .slice (some ⟨0, 0, none⟩) 1 _]⟩], [some ⟨false, 1, [.ints .i64 1 [166]]⟩] => k (.tuple #[sl 1 10 1, w63 0]) [rI 1 [166], oU 10 [160, 162, 0, 2, 11, 166, 0, 177, 176, 179]]
  | [.agg ⟨[.int .u8 166, .slice (some ⟨0, 0, none⟩) 3 _]⟩], [some ⟨false, 1, [.ints .i64 3 [0, 52, 1]]⟩] => k (.tuple #[sl 1 16 1, w63 0]) [rI 3 [0, 52, 1], oU 16 [160, 162, 0, 8, 166, 0, 52, 1, 0, 0, 0, 0, 0, 219, 176, 179]]
  | _, _ => none
def FDeX : FSpec := fun args h k => match args, h with
  | [.slice (some ⟨0, 0, none⟩) 1 _], [some ⟨false, 1, [.ints .u8 1 [11]]⟩] => k (.tuple #[.agg #[u8v 0, .slice none 0 0], w63 5]) [rU 1 [11]]
  | [.slice (some ⟨0, 0, none⟩) 1 _], [some ⟨false, 1, [.ints .u8 1 [99]]⟩] => k (.tuple #[.agg #[u8v 0, .slice none 0 0], w63 7]) [rU 1 [99]]
  | [.slice none 0 0], [] => k (.tuple #[.agg #[u8v 0, .slice none 0 0], w63 4]) []
  | _, _ => none
def FDec0 : FSpec := fun args h k => match args, h with
  | [.slice none 0 0], [] => k (.tuple #[.agg #[u8v 0, .slice none 0 0], w63 4]) []
  | _, _ => none
def SKnS : Spec := mkS [(29, false, FEnX), (24, false, FDeX)]
--CF cfKnS . :: fnK Try.prog SKnS noL Try.f23 [] []
theorem cfKnS  : fnK Try.prog SKnS noL Try.f23 [] [] =
     (some (Res.ret (Value.bool true) [])) := by kernel_rfl
--CFEND
--CF cfDec0 . :: fnK Try.prog ((mkS []).on []) noL Try.f24 [.slice none 0 0] []
theorem cfDec0  : fnK Try.prog ((mkS []).on []) noL Try.f24 [.slice none 0 0] [] =
     (some (Res.ret (Value.tuple (Array.mk [Value.agg (Array.mk [Value.int IntKind.u8 0, Value.slice none 0 0]), Value.int IntKind.i64 4])) [])) := by kernel_rfl
--CFEND
theorem fitI_1 {v : Int} (h : 0 ≤ v ∧ v < 256) : fitI v 1 := by unfold fitI; rw [if_neg (by decide)]; exact h
theorem fits_11 : fitsTo [1, 1] [166] 1 := fun i hi => by
  obtain rfl : i = 0 := by omega
  exact fitI_1 (by decide)
theorem fits_166 : fitsTo [1, 1, 2, 1, 3, 1] [0, 52, 1] 3 := fun i hi => by
  obtain rfl | rfl | rfl : i = 0 ∨ i = 1 ∨ i = 2 := by omega
  all_goals exact fitI_1 (by decide)
theorem okEnX : EntryOK Try.prog 29 FEnX := by
  intro args h k out hF
  unfold FEnX at hF
  split at hF
  · refine okEnK 2 [1, 1] _ _ k out (go_t (chk_of ⟨rfl, rfl, rfl, fits_11⟩) ?_)
    rw [show frmS 2 (payB (pay0 2 11) [1, 1] [166] 1) = [160, 162, 0, 2, 11, 166, 0, 177, 176, 179] by kernel_rfl]
    exact hF
  · refine okEnK 8 [1, 1, 2, 1, 3, 1] _ _ k out (go_t (chk_of ⟨rfl, rfl, rfl, fits_166⟩) ?_)
    rw [show frmS 8 (payB (pay0 8 166) [1, 1, 2, 1, 3, 1] [0, 52, 1] 3) = [160, 162, 0, 8, 166, 0, 52, 1, 0, 0, 0, 0, 0, 219, 176, 179] by kernel_rfl]
    exact hF
  · cases hF
theorem okDec0 : EntryOK Try.prog 24 FDec0 := by
  refine EntryOK.of_paths (fn := Try.f24) follows_ok Try.func24 (by kernel_rfl) (by kernel_rfl) ?_
  intro args h k out hF
  unfold FDec0 at hF
  split at hF
  · exact ⟨_, _, hF, fun _ => ⟨_, noL, mk0.on _, noL_ok, cfDec0⟩⟩
  · cases hF
theorem okDeX : EntryOK Try.prog 24 FDeX := by
  intro args h k out hF
  unfold FDeX at hF
  split at hF
  · exact okDecS _ _ k out (go_t (chk_of ⟨by decide, by decide⟩) hF)
  · exact okDecS _ _ k out (go_t (chk_of ⟨by decide, by decide⟩) hF)
  · exact okDec0 _ _ k out hF
  · cases hF
def FKnw : FSpec := fun args h k => match args, h with
  | [], [] => k (.bool true) []
  | _, _ => none
theorem okKnS : EntryOK Try.prog 23 FKnw := by
  refine EntryOK.of_paths (fn := Try.f23) follows_ok Try.func23 (by kernel_rfl) (by kernel_rfl) ?_
  intro args h k out hF
  unfold FKnw at hF
  split at hF
  · exact ⟨_, _, hF, fun _ => ⟨SKnS, noL, mkS_cons okEnX (mkS_cons okDeX (mkS_nil _)), noL_ok, cfKnS⟩⟩
  · cases hF
end Go.Proofs.Ytcjjngdkkihgjaa.VC
