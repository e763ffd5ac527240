/- sirf: put: what it is. -/
import Derived.Test.YticdglfbgocgmaaM13
namespace Go.Proofs.Yticdglfbgocgmaa.VC
open Go Go.Proofs

theorem putB_len {xs l : List Int} {a : Nat} (h : a + l.length ≤ xs.length) : (putB xs a l).length = xs.length := by
  unfold putB; rw [List.length_append, List.length_append, List.length_take, List.length_drop]; omega
theorem putB_set {xs l : List Int} {a : Nat} {x : Int} (h : a + l.length < xs.length) : (putB xs a l).set (a + l.length) x = putB xs a (l ++ [x]) := by
  unfold putB
  rw [List.set_append_right _ _ (by rw [List.length_take]; omega), List.set_append_right _ _ (by rw [List.length_take]; omega), List.length_take, show a + l.length - min a xs.length - l.length = 0 by omega, List.drop_eq_getElem_cons h, List.set_cons_zero, List.length_append, List.append_assoc]
  rfl
theorem putB_nil {xs : List Int} {a : Nat} : putB xs a [] = xs := by
  unfold putB; rw [List.nil_append, List.length_nil, Nat.add_zero, List.take_append_drop]
theorem be_get (v : Int) : ∀ (m i : Nat), i < m → (be v m)[i]? = some (beB v (m - 1 - i))
  | 0, i, h => by omega
  | m + 1, 0, h => rfl
  | m + 1, i + 1, h => by
    rw [be, List.getElem?_cons_succ, be_get v m i (by omega)]
    congr 2; omega
theorem be_take (v : Int) {m i : Nat} (h : i < m) : (be v m).take (i + 1) = (be v m).take i ++ [beB v (m - 1 - i)] := by
  rw [List.take_add_one, be_get v m i h]; rfl
theorem valB_beI : ∀ (s : Nat) (v : Int), valB (be v s) = v % 256 ^ s
  | 0, v => by simp [be, valB]
  | s + 1, v => by
    have hp : (0 : Int) < 256 ^ s := Int.pow_pos (by decide)
    rw [be_snoc, valB_snoc, valB_beI s, Int.pow_succ]
    generalize (256 : Int) ^ s = p at hp
    have h1 := Int.emod_add_mul_ediv v 256
    have h2 := Int.emod_add_mul_ediv (v / 256) p
    have h3 := Int.emod_nonneg (v / 256) (show p ≠ 0 by omega)
    have h4 := Int.emod_lt_of_pos (v / 256) hp
    have h5 : v = (v / 256 % p * 256 + v % 256) + p * 256 * (v / 256 / p) := by
      have : p * 256 * (v / 256 / p) = 256 * (p * (v / 256 / p)) := by rw [Int.mul_comm p 256, Int.mul_assoc]
      rw [this]; omega
    have h6 : 0 ≤ v / 256 % p * 256 + v % 256 ∧ v / 256 % p * 256 + v % 256 < p * 256 := by omega
    conv => rhs; rw [h5]
    rw [Int.add_mul_emod_self_left, Int.emod_eq_of_lt h6.1 h6.2]
theorem fld_put {xs l : List Int} {a m : Int} (hl : l.length = m.toNat) (h : a.toNat + l.length ≤ xs.length) : fldB (putB xs a.toNat l) 0 a m = l := by
  unfold fldB putB
  rw [Nat.zero_add, List.drop_append_of_le_length (by rw [List.length_take]; omega), List.drop_eq_nil_of_le (by rw [List.length_take]; omega), List.nil_append, ← hl, List.take_left']
  rfl
theorem fit_iff {xs : List Int} {a s v : Int} (hs : -4 ≤ s ∧ s ≤ 4) (h0 : s ≠ 0) (h : a.toNat + (manyI s).toNat ≤ xs.length) : getV (putB xs a.toNat (be v (manyI s).toNat)) 0 a s = v ↔ fitI v s := by
  have hm1 : 1 ≤ manyI s := by unfold manyI; split <;> omega
  have hm := manyI_rng hs
  have he := pw_even hm1
  have hp := pw_4 hm.2
  have e : (256 : Int) ^ (manyI s).toNat = pw256 (manyI s) := rfl
  unfold getV fitI
  rw [fld_put (be_len _ _) (by rw [be_len]; exact h), valB_beI, e]
  unfold sgnV
  rw [e]
  generalize pw256 (manyI s) = p at he hp
  have h1 := Int.emod_nonneg v (show p ≠ 0 by omega)
  have h2 := Int.emod_lt_of_pos v (show 0 < p by omega)
  have h3 := Int.emod_add_mul_ediv v p
  split
  · constructor
    · intro hv
      split at hv <;> omega
    · intro hv
      by_cases hn : v < 0
      · have : v % p = v + p := by
          rw [← Int.add_emod_right, Int.emod_eq_of_lt (by omega) (by omega)]
        rw [this, if_pos (by omega)]; omega
      · have : v % p = v := Int.emod_eq_of_lt (by omega) (by omega)
        rw [this, if_neg (by omega)]
  · constructor
    · intro hv; omega
    · intro hv; exact Int.emod_eq_of_lt (by omega) (by omega)
theorem SPutS_ok : SpecOK Try.prog SPutS := mkS_cons okManyS (mkS_cons okGetS (mkS_nil _))
theorem loopPutS {a s v : Int} {n c m : Nat} {xs : List Int} (hm : (m : Int) = manyI s) (hs : -4 ≤ s ∧ s ≤ 4) (ha : 0 ≤ a) (hn : a + m ≤ n) (hN : n ≤ 1000000) (hl : xs.length = n) : ∀ (r i : Nat), i + r = m →
    LoopT Try.prog Try.f68.ntmps 1 (loopOf Try.f68 0) (zipS livePutS [sl 0 n c, w63 v, pt 1, .bool false, w63 m, w63 i]) [oU n (putB xs a.toNat ((be v m).take i)), oF 2 [a, s]] (.exit 0)
      (zipS livePutS [sl 0 n c, w63 v, pt 1, .bool false, w63 m, w63 m]) [oU n (putB xs a.toNat (be v m)), oF 2 [a, s]] := by
  have hm4 := manyI_rng hs
  intro r
  induction r with
  | zero =>
    intro i hi
    obtain rfl : i = m := by omega
    rw [List.take_of_length_le (by rw [be_len]; exact Nat.le_refl _)]
    exact LoopT.last (by intro h; cases h) (CodeT.out (SPutS_ok.on _) noL_ok fun on out => pPutSX a s v _ _ n c _ on out)
  | succ r ih =>
    intro i hi
    refine LoopT.step (CodeT.on (live := livePutS) (vs1 := [sl 0 n c, w63 v, pt 1, .bool false, w63 m, w63 ((i + 1 : Nat) : Int)]) (h1 := [oU n (putB xs a.toNat ((be v m).take (i + 1))), oF 2 [a, s]]) (SPutS_ok.on [(11, true)]) noL_ok fun on out => ?_) (ih (i + 1) (by omega))
    refine (pPutS a s v m n c i _ on out).trans ?_
    have hlt : ((be v m).take i).length = i := by rw [List.length_take, be_len]; omega
    rw [show manyI s - 1 - (i : Int) = ((m - 1 - i : Nat) : Int) by omega, beB_shr (by omega), be_take v (by omega), ← putB_set (by rw [hlt]; omega), hlt, show (a + (i : Int)).toNat = a.toNat + i by omega]
    rfl
theorem loopOKPutS : LoopOK Try.prog Try.f68.ntmps 1 (loopOf Try.f68 0) livePutS LPutSf := by
  refine LoopOK.of_T ?_
  intro vs h k out hk
  unfold LPutSf at hk
  split at hk
  · rename_i n' c v m n xs a s
    obtain ⟨hb, hk2⟩ := bif_t hk
    obtain ⟨rfl, rfl, h3, h4, h5, h6, h7⟩ := chk_iff.1 hb
    refine ⟨_, _, _, hk2, fun real => ?_⟩
    have hs := real.segs (i := 0) rfl rfl _ (List.mem_cons_self ..)
    have hm4 := manyI_rng ⟨h3, h4⟩
    have := loopPutS (a := a) (s := s) (v := v) (n := n') (c := c) (m := (manyI s).toNat) (xs := xs) (by omega) ⟨h3, h4⟩ h5 (by omega) h7 hs.1 (manyI s).toNat 0 (by omega)
    rw [List.take_zero, putB_nil, show ((manyI s).toNat : Int) = manyI s by omega] at this
    exact this
  · cases hk
theorem loopsPutS : LoopsOK Try.prog LPutS Try.f68.ntmps 1 (bodyOf Try.f68) := loops_one rfl (by kernel_rfl) loopOKPutS
noncomputable def FPutS : FSpec := fun args h k => match args, h with
  | [.agg ⟨[.int .i64 a, .int .i64 s]⟩, .slice (some ⟨0, 0, none⟩) n' _, .int .i64 v], [some ⟨true, 1, [.ints .u8 n xs]⟩] =>
    bif chk (n' = n ∧ -4 ≤ s ∧ s ≤ 4 ∧ s ≠ 0 ∧ 0 ≤ a ∧ a + manyI s ≤ n ∧ n ≤ 1000000) then k (.bool (decide (fitI v s))) [oU n (putB xs a.toNat (be v (manyI s).toNat))] else none
  | _, _ => none
theorem okPutS : EntryOK Try.prog 68 FPutS := by
  refine EntryOK.of_paths (fn := Try.f68) follows_ok Try.func68 (by kernel_rfl) (by kernel_rfl) ?_
  intro args h k out hF
  unfold FPutS at hF
  split at hF
  · rename_i a s n' c v n xs
    obtain ⟨hb, hF2⟩ := bif_t hF
    obtain ⟨rfl, h2, h3, h4, h5, h6, h7⟩ := chk_iff.1 hb
    refine ⟨_, _, hF2, fun real => ?_⟩
    have hs := real.segs (i := 0) rfl rfl _ (List.mem_cons_self ..)
    refine ⟨_, LPutS, SPutS_ok, loopsPutS, (pPutSF a s v n' c xs).trans ?_⟩
    have hm4 := manyI_rng ⟨h2, h3⟩
    have e := fit_iff (xs := xs) (a := a) (s := s) (v := v) ⟨h2, h3⟩ h4 (by have := hs.1; omega)
    have : (getV (putB xs a.toNat (be v (manyI s).toNat)) 0 a s == v) = decide (fitI v s) := by
      by_cases hf : fitI v s
      · rw [dec_t hf]; exact eqb_t (e.2 hf)
      · rw [dec_f hf]; exact eqb_f fun x => hf (e.1 x)
    rw [this]
  · cases hF
end Go.Proofs.Yticdglfbgocgmaa.VC
