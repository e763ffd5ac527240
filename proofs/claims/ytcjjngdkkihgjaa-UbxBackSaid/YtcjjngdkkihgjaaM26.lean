/- sirf: what is read and what is written: plain. -/
import Derived.Test.YtcjjngdkkihgjaaM25
namespace Go.Proofs.Ytcjjngdkkihgjaa.VC
open Go Go.Proofs

/-- Fields one behind another, none at the first byte. -/
def fldsDis (fl : List Int) (k : Nat) : Prop := (∀ i, i < k → 1 ≤ fl.getD (i * 2) 0) ∧ ∀ j, j < k → ∀ i, i < j → fl.getD (i * 2) 0 + manyI (fl.getD (i * 2 + 1) 0) ≤ fl.getD (j * 2) 0
theorem layS_dis {x : Int} {len : Nat} {fl : List Int} (h : layS x = some (len, fl)) : fldsDis fl (fl.length / 2) := by
  rcases layS_cases h with e | e | e | e | e | e | e | e <;>
  · subst e
    cases h
    unfold fldsDis
    decide
theorem putB_get {xs l : List Int} {a : Nat} (h : a + l.length ≤ xs.length) (i : Nat) : (putB xs a l)[i]? = if a ≤ i ∧ i < a + l.length then l[i - a]? else xs[i]? := by
  unfold putB
  have h0 : (xs.take a).length = a := by rw [List.length_take]; omega
  by_cases h1 : i < a
  · rw [if_neg (by omega), List.getElem?_append_left (by omega), List.getElem?_take_of_lt h1]
  · rw [List.getElem?_append_right (by omega), h0]
    by_cases h2 : i < a + l.length
    · rw [if_pos ⟨by omega, h2⟩, List.getElem?_append_left (by omega)]
    · rw [if_neg (by omega), List.getElem?_append_right (by omega), List.getElem?_drop]
      congr 1; omega
theorem fldB_get (xs : List Int) (o : Nat) (a m : Int) (i : Nat) : (fldB xs o a m)[i]? = if i < m.toNat then xs[o + a.toNat + i]? else none := by
  unfold fldB
  rw [List.getElem?_take, List.getElem?_drop]
theorem fldB_same {xs ys : List Int} {a m : Int} (h : ∀ i, a.toNat ≤ i → i < a.toNat + m.toNat → xs[i]? = ys[i]?) : fldB xs 0 a m = fldB ys 0 a m := by
  refine List.ext_getElem? fun i => ?_
  rw [fldB_get, fldB_get]
  split
  · rw [Nat.zero_add]; exact h _ (by omega) (by omega)
  · rfl
theorem getV_same {xs ys : List Int} {a s : Int} (h : ∀ i, a.toNat ≤ i → i < a.toNat + (manyI s).toNat → xs[i]? = ys[i]?) : getV xs 0 a s = getV ys 0 a s := by
  unfold getV; rw [fldB_same h]
theorem decV_get (xs : List Int) (o : Nat) (fl : List Int) : ∀ (k i : Nat), i < k → (decV xs o fl k).getD i 0 = getV xs o (fl.getD (i * 2) 0) (fl.getD (i * 2 + 1) 0)
  | 0, i, h => by omega
  | k + 1, i, h => by
    rw [decV, List.getD_eq_getElem?_getD]
    by_cases hi : i < k
    · rw [List.getElem?_append_left (by rw [decV_len]; exact hi), ← List.getD_eq_getElem?_getD, decV_get xs o fl k i hi]
    · obtain rfl : i = k := by omega
      rw [List.getElem?_append_right (by rw [decV_len]; exact Nat.le_refl _), decV_len, Nat.sub_self]
      rfl
/-- What was laid is read. -/
theorem pay_get {len : Nat} {bs fl vs : List Int} (hb : bs.length = len) : ∀ (k : Nat), fldsOK len fl k → fldsDis fl k → fitsTo fl vs k → ∀ i, i < k → getV (payB bs fl vs k) 0 (fl.getD (i * 2) 0) (fl.getD (i * 2 + 1) 0) = vs.getD i 0
  | 0, _, _, _, i, h => by omega
  | k + 1, hf, hd, ht, i, h => by
    have hf' : fldsOK len fl k := fun j hj => hf j (by omega)
    have hd' : fldsDis fl k := ⟨fun j hj => hd.1 j (by omega), fun j hj => hd.2 j (by omega)⟩
    obtain ⟨f1, f2, f3, f4, f5⟩ := hf k (by omega)
    have hm := manyI_rng ⟨f1, f2⟩
    have hl := payB_len (vs := vs) hb k hf'
    have ha : (fl.getD (k * 2) 0).toNat + (manyI (fl.getD (k * 2 + 1) 0)).toNat ≤ (payB bs fl vs k).length := by rw [hl]; omega
    rw [payB]
    by_cases hi : i < k
    · rw [← pay_get hb k hf' hd' (fun j hj => ht j (by omega)) i hi]
      obtain ⟨e1, e2, e3, e4, e5⟩ := hf i (by omega)
      have em := manyI_rng ⟨e1, e2⟩
      have := hd.2 k (by omega) i hi
      refine getV_same fun j hj1 hj2 => ?_
      rw [putB_get (by rw [be_len]; exact ha), if_neg (by omega)]
    · obtain rfl : i = k := by omega
      exact (fit_iff ⟨f1, f2⟩ f3 ha).2 (ht i (by omega))
theorem pay_first {len : Nat} {bs fl vs : List Int} (hb : bs.length = len) : ∀ (k : Nat), fldsOK len fl k → fldsDis fl k → (payB bs fl vs k).getD 0 0 = bs.getD 0 0
  | 0, _, _ => rfl
  | k + 1, hf, hd => by
    have hf' : fldsOK len fl k := fun j hj => hf j (by omega)
    obtain ⟨f1, f2, f3, f4, f5⟩ := hf k (by omega)
    have hm := manyI_rng ⟨f1, f2⟩
    have hl := payB_len (vs := vs) hb k hf'
    have := hd.1 k (by omega)
    rw [← pay_first (vs := vs) hb k hf' ⟨fun j hj => hd.1 j (by omega), fun j hj => hd.2 j (by omega)⟩, payB, List.getD_eq_getElem?_getD, putB_get (by rw [be_len, hl]; omega), if_neg (by omega), ← List.getD_eq_getElem?_getD]
theorem valB_inj : ∀ (n : Nat) (l r : List Int), l.length = n → r.length = n → isB l → isB r → valB l = valB r → l = r
  | 0, l, r, h, h', _, _, _ => by rw [List.length_eq_zero_iff.1 h, List.length_eq_zero_iff.1 h']
  | n + 1, l, r, h, h', hl, hr, e => by
    obtain ⟨l, x, rfl⟩ : ∃ l' x, l = l' ++ [x] := ⟨l.dropLast, l.getLast (by intro e; rw [e] at h; cases h), (List.dropLast_concat_getLast _).symm⟩
    obtain ⟨r, y, rfl⟩ : ∃ l' x, r = l' ++ [x] := ⟨r.dropLast, r.getLast (by intro e; rw [e] at h'; cases h'), (List.dropLast_concat_getLast _).symm⟩
    rw [valB_snoc, valB_snoc] at e
    have hx := hl x (List.mem_append_right _ (List.mem_singleton.2 rfl))
    have hy := hr y (List.mem_append_right _ (List.mem_singleton.2 rfl))
    rw [valB_inj n l r (by simpa using h) (by simpa using h') (fun z hz => hl z (List.mem_append_left _ hz)) (fun z hz => hr z (List.mem_append_left _ hz)) (by omega), show x = y by omega]
theorem fldB_isB {xs : List Int} {o : Nat} {a m : Int} (h : isB xs) : isB (fldB xs o a m) := fun y hy => h y (List.mem_of_mem_drop (List.mem_of_mem_take hy))
theorem fldB_len0 {xs : List Int} {a m : Int} (h : a.toNat + m.toNat ≤ xs.length) : (fldB xs 0 a m).length = m.toNat := by
  unfold fldB; rw [List.length_take, List.length_drop]; omega
theorem val_rng {xs : List Int} {a m : Int} (hx : isB xs) (h : a.toNat + m.toNat ≤ xs.length) : 0 ≤ valB (fldB xs 0 a m) ∧ valB (fldB xs 0 a m) < 256 ^ m.toNat := valB_lt _ _ (fldB_len0 h) (fldB_isB hx)
theorem get_inj {xs ys : List Int} {a s : Int} (hx : isB xs) (hy : isB ys) (h1 : a.toNat + (manyI s).toNat ≤ xs.length) (h2 : a.toNat + (manyI s).toNat ≤ ys.length) (e : getV xs 0 a s = getV ys 0 a s) : fldB xs 0 a (manyI s) = fldB ys 0 a (manyI s) := by
  refine valB_inj _ _ _ (fldB_len0 h1) (fldB_len0 h2) (fldB_isB hx) (fldB_isB hy) ?_
  have v1 := val_rng hx h1
  have v2 := val_rng hy h2
  unfold getV sgnV at e
  generalize valB (fldB xs 0 a (manyI s)) = u at *
  generalize valB (fldB ys 0 a (manyI s)) = v at *
  generalize (256 : Int) ^ (manyI s).toNat = p at *
  split at e <;> (try split at e) <;> (try split at e) <;> omega
theorem get_fit {xs : List Int} {a s : Int} (hs : -4 ≤ s ∧ s ≤ 4) (h0 : s ≠ 0) (hx : isB xs) (h1 : a.toNat + (manyI s).toNat ≤ xs.length) : fitI (getV xs 0 a s) s := by
  have v1 : 0 ≤ valB (fldB xs 0 a (manyI s)) ∧ valB (fldB xs 0 a (manyI s)) < pw256 (manyI s) := val_rng hx h1
  have hm1 : 1 ≤ manyI s := by unfold manyI; split <;> omega
  have he := pw_even hm1
  unfold fitI getV sgnV
  rw [show (256 : Int) ^ (manyI s).toNat = pw256 (manyI s) from rfl]
  generalize valB (fldB xs 0 a (manyI s)) = u at *
  generalize pw256 (manyI s) = p at *
  split <;> (try split) <;> omega
/-- A byte within a field. -/
def inF (fl : List Int) (a : Int) (k : Nat) : Prop := ∃ i, i < k ∧ fl.getD (i * 2) 0 ≤ a ∧ a < fl.getD (i * 2) 0 + manyI (fl.getD (i * 2 + 1) 0)
theorem set_same {len : Nat} {xs fl : List Int} {a : Nat} {y : Int} {k : Nat} (hf : fldsOK len fl k) (hn : ¬ inF fl a k) : sameTo (decV xs 0 fl k) (decV (xs.set a y) 0 fl k) k := fun i hi => by
  rw [decV_get _ _ _ _ _ hi, decV_get _ _ _ _ _ hi]
  obtain ⟨f1, f2, f3, f4, f5⟩ := hf i hi
  have hm := manyI_rng ⟨f1, f2⟩
  refine getV_same fun j h1 h2 => ?_
  rw [List.getElem?_set_ne]
  rintro rfl
  exact hn ⟨i, hi, by omega, by omega⟩
theorem set_diff {len : Nat} {xs fl : List Int} {a : Nat} {y : Int} {k : Nat} (hx : isB xs) (hy : 0 ≤ y ∧ y ≤ 255) (hl : xs.length = len) (hne : y ≠ xs.getD a 0) (hf : fldsOK len fl k) (hin : inF fl a k) : ¬ sameTo (decV xs 0 fl k) (decV (xs.set a y) 0 fl k) k := fun hs => by
  obtain ⟨i, hi, h1, h2⟩ := hin
  obtain ⟨f1, f2, f3, f4, f5⟩ := hf i hi
  have hm := manyI_rng ⟨f1, f2⟩
  have e := hs i hi
  rw [decV_get _ _ _ _ _ hi, decV_get _ _ _ _ _ hi] at e
  have := get_inj hx (fun z hz => by rcases List.mem_or_eq_of_mem_set hz with h | h; exact hx z h; rw [h]; exact hy) (by omega) (by rw [List.length_set]; omega) e
  have e2 := congrArg (fun l => l[a - (fl.getD (i * 2) 0).toNat]?) this
  simp only [fldB_get] at e2
  rw [if_pos (by omega), if_pos (by omega), show 0 + (fl.getD (i * 2) 0).toNat + (a - (fl.getD (i * 2) 0).toNat) = a by omega, List.getElem?_set_self (by omega)] at e2
  rw [List.getD_eq_getElem?_getD, e2] at hne
  exact hne rfl
end Go.Proofs.Ytcjjngdkkihgjaa.VC
