/- sirf: many, get: what they are. -/
import Derived.Test.YticdglfbgocgmaaM1
namespace Go.Proofs.Yticdglfbgocgmaa.VC
open Go Go.Proofs

theorem okOfS : EntryOK Try.prog 99 FOfS := by
  refine EntryOK.of_paths (fn := Try.f99) follows_ok Try.func99 (by kernel_rfl) (by kernel_rfl) ?_
  intro args h k out hF
  unfold FOfS at hF
  split at hF
  · exact ⟨_, _, hF, fun _ => ⟨_, noL, mk0, noL_ok, cfOfS ..⟩⟩
  · cases hF
theorem okManyS : EntryOK Try.prog 100 FManyS := by
  refine EntryOK.of_paths (fn := Try.f100) follows_ok Try.func100 (by kernel_rfl) (by kernel_rfl) ?_
  intro args h k out hF
  unfold FManyS at hF
  split at hF
  · rename_i a s
    obtain ⟨hb, hF2⟩ := bif_t hF
    have hc := chk_iff.1 hb
    refine ⟨_, _, hF2, fun _ => ⟨_, noL, mk0, noL_ok, (cfMany a s).trans ?_⟩⟩
    rw [swrap (by omega) (by omega)]; rfl
  · cases hF
theorem SManyS_ok : SpecOK Try.prog SManyS := mkS_cons okManyS (mkS_nil _)
theorem fld_len {xs : List Int} {o : Nat} {a m : Int} {N : Nat} (hl : xs.length = N) (h : o + a.toNat + m.toNat ≤ N) : (fldB xs o a m).length = m.toNat := by
  unfold fldB; rw [List.length_take, List.length_drop]; omega
theorem fld_mem {xs : List Int} {o : Nat} {a m : Int} (hx : ∀ x ∈ xs, 0 ≤ x ∧ x ≤ 255) : ∀ x ∈ fldB xs o a m, 0 ≤ x ∧ x ≤ 255 := fun x h => hx x (List.mem_of_mem_drop (List.mem_of_mem_take h))
theorem fld_val {xs : List Int} {o : Nat} {a m : Int} {N : Nat} (hl : xs.length = N) (hx : ∀ x ∈ xs, 0 ≤ x ∧ x ≤ 255) (h : o + a.toNat + m.toNat ≤ N) : 0 ≤ valB (fldB xs o a m) ∧ valB (fldB xs o a m) < 256 ^ m.toNat :=
  valB_lt _ _ (fld_len hl h) (fld_mem hx)
/-- One byte more of a number. -/
theorem valB_step {v x : Int} {i : Nat} (hi : i ≤ 6) (h0 : 0 ≤ v) (h1 : v < 256 ^ i) (hx : 0 ≤ x ∧ x ≤ 255) : bits .or .u64 (IntKind.u64.wrap (v * 256)) (IntKind.u64.wrap x) = v * 256 + x := by
  have hp := pow_le8 (show i ≤ 7 by omega)
  rw [wU64, wU64, Int.emod_eq_of_lt (by omega) (by omega), Int.emod_eq_of_lt (by omega) (by omega)]
  exact bits_up .u64 rfl (h := v) (c := x) 8 h0 hx.1 (by show v * 256 < 18446744073709551616; omega) (by show x < 256; omega) (by decide)
theorem take_one {xs : List Int} {q i : Nat} (h : q + i < xs.length) : (xs.drop q).take (i + 1) = (xs.drop q).take i ++ [xs.getD (q + i) 0] := by
  rw [List.take_succ_eq_append_getElem (by rw [List.length_drop]; omega), List.getElem_drop, List.getD_eq_getElem?_getD, List.getElem?_eq_getElem (by omega), Option.getD_some]
theorem getD_rng {xs : List Int} {i : Nat} (hx : ∀ x ∈ xs, 0 ≤ x ∧ x ≤ 255) (h : i < xs.length) : 0 ≤ xs.getD i 0 ∧ xs.getD i 0 ≤ 255 := by
  rw [List.getD_eq_getElem?_getD, List.getElem?_eq_getElem h]; exact hx _ (List.getElem_mem ..)
abbrev stGetS (v m : Int) (o n c : Nat) (i : Int) : List Value := [slo 0 o n c, pt 1, w63 0, u64v v, w63 m, w63 i]
theorem loopGetS {a s : Int} {o n c m N : Nat} {xs : List Int} (ha : 0 ≤ a) (hm : m ≤ 4) (hn : a + m ≤ n) (ho : o + n ≤ N) (hN : N ≤ 1000000) (hl : xs.length = N) (hx : ∀ x ∈ xs, 0 ≤ x ∧ x ≤ 255) : ∀ (r i : Nat), i + r = m →
    LoopT Try.prog Try.f66.ntmps 1 (loopOf Try.f66 0) (zipS liveGetS (stGetS (valB (fldB xs o a i)) m o n c i)) [rU N xs, oF 2 [a, s]] (.exit 0) (zipS liveGetS (stGetS (valB (fldB xs o a m)) m o n c m)) [rU N xs, oF 2 [a, s]] := by
  intro r
  induction r with
  | zero =>
    intro i hi
    obtain rfl : i = m := by omega
    exact LoopT.last (by intro h; cases h) (CodeT.out (SManyS_ok.on _) noL_ok fun on out => pGetSX _ a s _ _ o n c N xs on out)
  | succ r ih =>
    intro i hi
    refine LoopT.step (CodeT.on (live := liveGetS) (vs1 := stGetS (valB (fldB xs o a ((i + 1 : Nat) : Int))) m o n c ((i + 1 : Nat) : Int)) (h1 := [rU N xs, oF 2 [a, s]]) (SManyS_ok.on [(11, true)]) noL_ok fun on out => ?_) (ih (i + 1) (by omega))
    refine (pGetS _ a s m o n c i N xs on out).trans ?_
    have hb := getD_rng hx (i := o + a.toNat + i) (by omega)
    have hv := fld_val (m := i) hl hx (show o + a.toNat + (i : Int).toNat ≤ N by omega)
    have e : fldB xs o a ((i + 1 : Nat) : Int) = fldB xs o a i ++ [xs.getD (o + a.toNat + i) 0] := take_one (by omega)
    rw [e, valB_snoc]
    rw [show o + (a + (i : Int)).toNat = o + a.toNat + i by omega, valB_step (i := i) (by omega) hv.1 (by simpa using hv.2) hb]
    rfl
theorem loopOKGetS : LoopOK Try.prog Try.f66.ntmps 1 (loopOf Try.f66 0) liveGetS LGetSf := by
  refine LoopOK.of_T ?_
  intro vs h k out hk
  unfold LGetSf at hk
  split at hk
  · rename_i o n c m N xs a s
    obtain ⟨hb, hk2⟩ := bif_t hk
    obtain ⟨h1, h2, h3, h4, h5, h6⟩ := chk_iff.1 hb
    refine ⟨_, _, _, hk2, fun real => ?_⟩
    have hs := real.segs (i := 0) rfl rfl _ (List.mem_cons_self ..)
    have := loopGetS (a := a) (s := s) (o := o) (n := n) (c := c) (m := m.toNat) h1 (by omega) (by omega) h5 h6 hs.1 (fun x hx => hs.2 x hx) m.toNat 0 (by omega)
    rw [show ((m.toNat : Nat) : Int) = m by omega] at this
    exact this
  · cases hk
theorem loopsGetS : LoopsOK Try.prog LGetS Try.f66.ntmps 1 (bodyOf Try.f66) := loops_one rfl (by kernel_rfl) loopOKGetS
/-- A number of so many bytes, with a sign. -/
def sgnV (m v : Int) : Int := if 256 ^ m.toNat ≤ 2 * v then v - 256 ^ m.toNat else v
def getV (xs : List Int) (o : Nat) (a s : Int) : Int := if s < 0 then sgnV (manyI s) (valB (fldB xs o a (manyI s))) else valB (fldB xs o a (manyI s))
theorem manyI_rng {s : Int} (h : -4 ≤ s ∧ s ≤ 4) : 0 ≤ manyI s ∧ manyI s ≤ 4 := by unfold manyI; split <;> omega
/-- A sign spread by shifts. -/
theorem spread {m v : Int} (h1 : 1 ≤ m) (h4 : m ≤ 4) (v0 : 0 ≤ v) (v1 : v < 256 ^ m.toNat) : (IntKind.i64.wrap (IntKind.u64.wrap (v * 2 ^ min (IntKind.u64.wrap (64 - 8 * m)).toNat 64))).fdiv (2 ^ min (IntKind.u64.wrap (64 - 8 * m)).toNat 64) = sgnV m v := by
  obtain ⟨q, rfl⟩ := Int.eq_ofNat_of_zero_le (show 0 ≤ m by omega)
  have : q = 1 ∨ q = 2 ∨ q = 3 ∨ q = 4 := by omega
  unfold sgnV
  rw [wU64, wU64, wi64e]
  rcases this with rfl | rfl | rfl | rfl
  · have e : min ((64 - 8 * ((1 : Nat) : Int)) % 18446744073709551616).toNat 64 = 56 := by decide
    have p : (2 : Int) ^ 56 = 72057594037927936 := by decide
    have p2 : (256 : Int) ^ ((1 : Nat) : Int).toNat = 256 := by decide
    rw [p2] at v1 ⊢
    rw [e, p, Int.fdiv_eq_ediv_of_nonneg _ (by decide)]
    split <;> omega
  · have e : min ((64 - 8 * ((2 : Nat) : Int)) % 18446744073709551616).toNat 64 = 48 := by decide
    have p : (2 : Int) ^ 48 = 281474976710656 := by decide
    have p2 : (256 : Int) ^ ((2 : Nat) : Int).toNat = 65536 := by decide
    rw [p2] at v1 ⊢
    rw [e, p, Int.fdiv_eq_ediv_of_nonneg _ (by decide)]
    split <;> omega
  · have e : min ((64 - 8 * ((3 : Nat) : Int)) % 18446744073709551616).toNat 64 = 40 := by decide
    have p : (2 : Int) ^ 40 = 1099511627776 := by decide
    have p2 : (256 : Int) ^ ((3 : Nat) : Int).toNat = 16777216 := by decide
    rw [p2] at v1 ⊢
    rw [e, p, Int.fdiv_eq_ediv_of_nonneg _ (by decide)]
    split <;> omega
  · have e : min ((64 - 8 * ((4 : Nat) : Int)) % 18446744073709551616).toNat 64 = 32 := by decide
    have p : (2 : Int) ^ 32 = 4294967296 := by decide
    have p2 : (256 : Int) ^ ((4 : Nat) : Int).toNat = 4294967296 := by decide
    rw [p2] at v1 ⊢
    rw [e, p, Int.fdiv_eq_ediv_of_nonneg _ (by decide)]
    split <;> omega
noncomputable def FGetS : FSpec := fun args h k => match args, h with
  | [.agg ⟨[.int .i64 a, .int .i64 s]⟩, .slice (some ⟨0, o, none⟩) n _], [some ⟨false, 1, [.ints .u8 N xs]⟩] =>
    bif chk (-4 ≤ s ∧ s ≤ 4 ∧ s ≠ 0 ∧ 0 ≤ a ∧ a + manyI s ≤ n ∧ o + n ≤ N ∧ N ≤ 1000000) then k (w63 (getV xs o a s)) [rU N xs] else none
  | _, _ => none
theorem okGetS : EntryOK Try.prog 66 FGetS := by
  refine EntryOK.of_paths (fn := Try.f66) follows_ok Try.func66 (by kernel_rfl) (by kernel_rfl) ?_
  intro args h k out hF
  unfold FGetS at hF
  split at hF
  · rename_i a s o n c N xs
    obtain ⟨hb, hF2⟩ := bif_t hF
    obtain ⟨h1, h2, h3, h4, h5, h6, h7⟩ := chk_iff.1 hb
    refine ⟨_, _, hF2, fun real => ?_⟩
    have hs := real.segs (i := 0) rfl rfl _ (List.mem_cons_self ..)
    have hm := manyI_rng ⟨h1, h2⟩
    have hm1 : 1 ≤ manyI s := by unfold manyI; split <;> omega
    have hv := fld_val (xs := xs) (o := o) (a := a) (m := manyI s) hs.1 (fun x hx => hs.2 x hx) (by omega)
    have h64 : (256 : Int) ^ (manyI s).toNat ≤ 4294967296 := by
      have : (256 : Nat) ^ (manyI s).toNat ≤ 256 ^ 4 := Nat.pow_le_pow_right (by decide) (by omega)
      have e : ((256 ^ (manyI s).toNat : Nat) : Int) = (256 : Int) ^ (manyI s).toNat := by simp
      rw [← e]; omega
    by_cases hneg : s < 0
    · refine ⟨_, LGetS, SManyS_ok.on [(32, true)], loopsGetS, (cfGetSF1 a s o n c N xs).trans ?_⟩
      have c1 : (-8 ≤ s ∧ s ≤ 8) := by omega
      have c2 : 0 ≤ a ∧ 0 ≤ manyI s ∧ manyI s ≤ 4 ∧ a + manyI s ≤ n ∧ o + n ≤ N ∧ N ≤ 1000000 := ⟨h4, hm.1, hm.2, h5, h6, h7⟩
      rw [swrap (x := 8 * manyI s) (by omega) (by omega), swrap (x := 64 - 8 * manyI s) (by omega) (by omega)]
      have c3 : ¬ IntKind.u64.wrap (64 - 8 * manyI s) < 0 := by rw [wU64]; omega
      refine go_t (chk_t c1) (go_t (chk_t c2) (go_t (chk_t c1) (go_t (dec_t hneg) (go_f (dec_f c3) (go_f (dec_f c3) ?_)))))
      rw [spread hm1 hm.2 hv.1 hv.2]
      unfold getV
      rw [if_pos hneg]
    · refine ⟨_, LGetS, SManyS_ok.on [(32, false)], loopsGetS, (pGetSF0 a s o n c N xs).trans ?_⟩
      unfold getV
      rw [if_neg hneg]
  · cases hF
end Go.Proofs.Yticdglfbgocgmaa.VC
