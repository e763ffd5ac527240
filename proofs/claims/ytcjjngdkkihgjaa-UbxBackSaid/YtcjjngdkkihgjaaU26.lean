/- ubx: what is read and what is written: plain. -/
import Derived.Test.YtcjjngdkkihgjaaU25
import Derived.Test.YtcjjngdkkihgjaaM26
namespace Go.Proofs.Ytcjjngdkkihgjaa.VC
open Go Go.Proofs

/-- Fields one behind another. -/
def fldsDU (fl : List Int) (k : Nat) : Prop := ∀ j, j < k → ∀ i, i < j → fl.getD (i * 2) 0 + manyI (fl.getD (i * 2 + 1) 0) ≤ fl.getD (j * 2) 0
theorem layU_dis {x y : Int} {len : Nat} {fl : List Int} (h : layU x y = some (len, fl)) : fldsDU fl (fl.length / 2) := by
  rcases layU_cases h with e | e | e | e | e | e | e | e | e | e <;>
  · obtain ⟨rfl, rfl⟩ := e
    cases h
    unfold fldsDU
    decide
theorem getL_same {xs ys : List Int} {a s : Int} (h : ∀ i, a.toNat ≤ i → i < a.toNat + (manyI s).toNat → xs[i]? = ys[i]?) : getL xs 0 a s = getL ys 0 a s := by
  unfold getL; rw [fldB_same h]
theorem decL_get (xs : List Int) (o : Nat) (fl : List Int) : ∀ (k i : Nat), i < k → (decL xs o fl k).getD i 0 = getL xs o (fl.getD (i * 2) 0) (fl.getD (i * 2 + 1) 0)
  | 0, i, h => by omega
  | k + 1, i, h => by
    rw [decL, List.getD_eq_getElem?_getD]
    by_cases hi : i < k
    · rw [List.getElem?_append_left (by rw [decL_len]; exact hi), ← List.getD_eq_getElem?_getD, decL_get xs o fl k i hi]
    · obtain rfl : i = k := by omega
      rw [List.getElem?_append_right (by rw [decL_len]; exact Nat.le_refl _), decL_len, Nat.sub_self]
      rfl
/-- What was laid is read. -/
theorem payL_get {len : Nat} {bs fl vs : List Int} (hb : bs.length = len) : ∀ (k : Nat), fldsOK len fl k → fldsDU fl k → fitsTo fl vs k → ∀ i, i < k → getL (payL bs fl vs k) 0 (fl.getD (i * 2) 0) (fl.getD (i * 2 + 1) 0) = vs.getD i 0
  | 0, _, _, _, i, h => by omega
  | k + 1, hf, hd, ht, i, h => by
    have hf' : fldsOK len fl k := fun j hj => hf j (by omega)
    have hd' : fldsDU fl k := fun j hj => hd j (by omega)
    obtain ⟨f1, f2, f3, f4, f5⟩ := hf k (by omega)
    have hm := manyI_rng ⟨f1, f2⟩
    have hl := payL_len (vs := vs) hb k hf'
    have ha : (fl.getD (k * 2) 0).toNat + (manyI (fl.getD (k * 2 + 1) 0)).toNat ≤ (payL bs fl vs k).length := by rw [hl]; omega
    rw [payL]
    by_cases hi : i < k
    · rw [← payL_get hb k hf' hd' (fun j hj => ht j (by omega)) i hi]
      obtain ⟨e1, e2, e3, e4, e5⟩ := hf i (by omega)
      have em := manyI_rng ⟨e1, e2⟩
      have := hd k (by omega) i hi
      refine getL_same fun j hj1 hj2 => ?_
      rw [putB_get (by rw [le_len]; exact ha), if_neg (by omega)]
    · obtain rfl : i = k := by omega
      exact (fitL_iff ⟨f1, f2⟩ f3 ha).2 (ht i (by omega))
theorem valL_B (l : List Int) : valL l = valB l.reverse := by rw [← valL_rev, List.reverse_reverse]
theorem rev_isB {l : List Int} (h : isB l) : isB l.reverse := fun y hy => h y (List.mem_reverse.1 hy)
theorem valL_rng {xs : List Int} {a m : Int} (hx : isB xs) (h : a.toNat + m.toNat ≤ xs.length) : 0 ≤ valL (fldB xs 0 a m) ∧ valL (fldB xs 0 a m) < 256 ^ m.toNat := by
  rw [valL_B]
  exact valB_lt _ _ (by rw [List.length_reverse]; exact fldB_len0 h) (rev_isB (fldB_isB hx))
theorem getL_inj {xs ys : List Int} {a s : Int} (hx : isB xs) (hy : isB ys) (h1 : a.toNat + (manyI s).toNat ≤ xs.length) (h2 : a.toNat + (manyI s).toNat ≤ ys.length) (e : getL xs 0 a s = getL ys 0 a s) : fldB xs 0 a (manyI s) = fldB ys 0 a (manyI s) := by
  refine List.reverse_inj.1 (valB_inj (manyI s).toNat _ _ (by rw [List.length_reverse]; exact fldB_len0 h1) (by rw [List.length_reverse]; exact fldB_len0 h2) (rev_isB (fldB_isB hx)) (rev_isB (fldB_isB hy)) ?_)
  rw [← valL_B, ← valL_B]
  have v1 := valL_rng hx h1
  have v2 := valL_rng hy h2
  unfold getL sgnV at e
  generalize valL (fldB xs 0 a (manyI s)) = u at *
  generalize valL (fldB ys 0 a (manyI s)) = v at *
  generalize (256 : Int) ^ (manyI s).toNat = p at *
  split at e <;> (try split at e) <;> (try split at e) <;> omega
theorem getL_fit {xs : List Int} {a s : Int} (hs : -4 ≤ s ∧ s ≤ 4) (h0 : s ≠ 0) (hx : isB xs) (h1 : a.toNat + (manyI s).toNat ≤ xs.length) : fitI (getL xs 0 a s) s := by
  have v1 : 0 ≤ valL (fldB xs 0 a (manyI s)) ∧ valL (fldB xs 0 a (manyI s)) < pw256 (manyI s) := valL_rng hx h1
  have hm1 : 1 ≤ manyI s := by unfold manyI; split <;> omega
  have he := pw_even hm1
  unfold fitI getL sgnV
  rw [show (256 : Int) ^ (manyI s).toNat = pw256 (manyI s) from rfl]
  generalize valL (fldB xs 0 a (manyI s)) = u at *
  generalize pw256 (manyI s) = p at *
  split <;> (try split) <;> omega
theorem setL_same {len : Nat} {xs fl : List Int} {a : Nat} {y : Int} {k : Nat} (hf : fldsOK len fl k) (hn : ¬ inF fl a k) : sameTo (decL xs 0 fl k) (decL (xs.set a y) 0 fl k) k := fun i hi => by
  rw [decL_get _ _ _ _ _ hi, decL_get _ _ _ _ _ hi]
  obtain ⟨f1, f2, f3, f4, f5⟩ := hf i hi
  have hm := manyI_rng ⟨f1, f2⟩
  refine getL_same fun j h1 h2 => ?_
  rw [List.getElem?_set_ne]
  rintro rfl
  exact hn ⟨i, hi, by omega, by omega⟩
theorem setL_diff {len : Nat} {xs fl : List Int} {a : Nat} {y : Int} {k : Nat} (hx : isB xs) (hy : 0 ≤ y ∧ y ≤ 255) (hl : xs.length = len) (hne : y ≠ xs.getD a 0) (hf : fldsOK len fl k) (hin : inF fl a k) : ¬ sameTo (decL xs 0 fl k) (decL (xs.set a y) 0 fl k) k := fun hs => by
  obtain ⟨i, hi, h1, h2⟩ := hin
  obtain ⟨f1, f2, f3, f4, f5⟩ := hf i hi
  have hm := manyI_rng ⟨f1, f2⟩
  have e := hs i hi
  rw [decL_get _ _ _ _ _ hi, decL_get _ _ _ _ _ hi] at e
  have := getL_inj hx (fun z hz => by rcases List.mem_or_eq_of_mem_set hz with h | h; exact hx z h; rw [h]; exact hy) (by omega) (by rw [List.length_set]; omega) e
  have e2 := congrArg (fun l => l[a - (fl.getD (i * 2) 0).toNat]?) this
  simp only [fldB_get] at e2
  rw [if_pos (by omega), if_pos (by omega), show 0 + (fl.getD (i * 2) 0).toNat + (a - (fl.getD (i * 2) 0).toNat) = a by omega, List.getElem?_set_self (by omega)] at e2
  rw [List.getD_eq_getElem?_getD, e2] at hne
  exact hne rfl
noncomputable def inU (fl : List Int) (a : Int) (k : Nat) : Bool := chk (inF fl a k)
theorem inU_0 (fl : List Int) (a : Int) : inU fl a 0 = false := by
  unfold inU
  cases h : chk (inF fl a 0) with
  | false => rfl
  | true => obtain ⟨i, hi, _⟩ := chk_iff.1 h; omega
theorem inU_succ (fl : List Int) (a : Int) (i : Nat) : inU fl a (i + 1) = (inU fl a i || decide (fl.getD (i * 2) 0 ≤ a ∧ a < fl.getD (i * 2) 0 + manyI (fl.getD (i * 2 + 1) 0))) := by
  rw [Bool.eq_iff_iff, Bool.or_eq_true, decide_eq_true_eq]
  unfold inU
  rw [chk_iff, chk_iff]
  constructor
  · rintro ⟨j, hj, h⟩
    by_cases hji : j = i
    · subst hji; exact .inr h
    · exact .inl ⟨j, by omega, h⟩
  · rintro (⟨j, hj, h⟩ | h)
    · exact ⟨j, by omega, h⟩
    · exact ⟨i, by omega, h⟩
theorem setU_law {n p : Nat} {xs fl : List Int} {q : Nat} (hx : isB xs) (hl : xs.length = n) (hp : p < n) (hf : fldsOK n fl q) :
    chk (sameTo (decL xs 0 fl q) (decL (xs.set p (IntKind.u8.wrap (xs.getD p 0 + 1))) 0 fl q) q) = !inU fl (p : Int) q := by
  have hb : 0 ≤ xs.getD p 0 ∧ xs.getD p 0 ≤ 255 := by
    rw [List.getD_eq_getElem?_getD, List.getElem?_eq_getElem (by omega)]
    exact hx _ (List.getElem_mem _)
  unfold inU
  by_cases h : inF fl (p : Int) q
  · rw [chk_t h, chk_f (setL_diff hx (by rw [wU8]; omega) hl (by rw [wU8]; omega) hf h)]; rfl
  · rw [chk_f h, chk_t (setL_same hf h)]; rfl
end Go.Proofs.Ytcjjngdkkihgjaa.VC
