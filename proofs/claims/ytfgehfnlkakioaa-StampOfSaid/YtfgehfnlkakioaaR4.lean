/- The document's numbers: plain laws of digits. -/
import Derived.Test.YtfgehfnlkakioaaR2
namespace Go.Proofs.Ytfgehfnlkakioaa.VC
open Go Go.Proofs

abbrev BB : Nat := 4294967296

theorem digits_len (v p : Nat) : p < (digits v).length ↔ v / BB ^ p ≠ 0 := by
  induction p generalizing v with
  | zero =>
    by_cases h : v = 0
    · subst h; simp [digits_zero]
    · rw [digits_pos h]; simp; exact h
  | succ p ih =>
    by_cases h : v = 0
    · subst h; simp [digits_zero]
    · rw [digits_pos h, List.length_cons, Nat.succ_lt_succ_iff, ih, Nat.div_div_eq_div_mul, Nat.pow_succ, Nat.mul_comm (BB ^ p)]

theorem digits_len_le {v k : Nat} (h : v < BB ^ k) : (digits v).length ≤ k := by
  rcases Nat.lt_or_ge k (digits v).length with h1 | h1
  · exact ((digits_len v k).1 h1 (Nat.div_eq_of_lt h)).elim
  · exact h1

theorem lt_pow_digits (v : Nat) : v < BB ^ (digits v).length := by
  rcases Nat.lt_or_ge v (BB ^ (digits v).length) with h | h
  · exact h
  · have := (digits_len v (digits v).length).2 (by have := Nat.div_pos h (Nat.pow_pos (by decide)); omega)
    omega

/-- Is it so? A test that is never worked out. -/
noncomputable def chk (p : Prop) : Bool := @decide p (Classical.propDecidable p)
theorem chk_iff {p : Prop} : chk p = true ↔ p := by unfold chk; exact @decide_eq_true_iff p (Classical.propDecidable p)
theorem chk_t {p : Prop} (h : p) : chk p = true := chk_iff.2 h

/-- The number of the first n of a list. -/
def numW (n : Nat) (xs : List Int) : Nat := num (xs.take n)

/-- The first n of a list are a number's digits. -/
noncomputable def normB (n : Nat) (xs : List Int) : Bool := chk (xs.take n = digits (numW n xs) ∧ n = (digits (numW n xs)).length ∧ n ≤ 1000000)

theorem normB_iff {n : Nat} {xs : List Int} : normB n xs = true ↔ xs.take n = digits (numW n xs) ∧ n = (digits (numW n xs)).length ∧ n ≤ 1000000 := chk_iff

theorem normB_mk {n v : Nat} {xs : List Int} (h1 : xs.take n = digits v) (h2 : n = (digits v).length) (h3 : n ≤ 1000000) : normB n xs = true ∧ numW n xs = v := by
  have e : numW n xs = v := by unfold numW; rw [h1, num_digits]
  exact ⟨normB_iff.2 ⟨by rw [e]; exact h1, by rw [e]; exact h2, h3⟩, e⟩

theorem normB_digits {v : Nat} (h : (digits v).length ≤ 1000000) : normB (digits v).length (digits v) = true := (normB_mk (List.take_length ..) rfl h).1
theorem numW_digits (v : Nat) : numW (digits v).length (digits v) = v := by unfold numW; rw [List.take_length, num_digits]

theorem getD_take (xs : List Int) {n p : Nat} (h : p < n) : xs.getD p 0 = (xs.take n).getD p 0 := by
  simp [List.getD_eq_getElem?_getD, h]

theorem wordAt_norm {n p : Nat} {xs : List Int} (h : normB n xs = true) : wordAt n xs (p : Int) = ((numW n xs / BB ^ p % BB : Nat) : Int) := by
  obtain ⟨h1, h2, _⟩ := normB_iff.1 h
  unfold wordAt
  by_cases hp : p < n
  · rw [if_pos (by omega), Int.toNat_natCast, getD_take _ hp, h1, digits_get]
  · rw [if_neg (by omega)]
    have : ¬ p < (digits (numW n xs)).length := by omega
    rw [digits_len, Classical.not_not] at this
    rw [this]; rfl

theorem lt_norm {n p : Nat} {xs : List Int} (h : normB n xs = true) : p < n ↔ numW n xs / BB ^ p ≠ 0 := by
  obtain ⟨h1, h2, _⟩ := normB_iff.1 h
  rw [← digits_len, ← h2]

theorem numW_lt {n : Nat} {xs : List Int} (h : normB n xs = true) : numW n xs < BB ^ n := by
  obtain ⟨h1, h2, _⟩ := normB_iff.1 h
  have := lt_pow_digits (numW n xs)
  rw [← h2] at this
  exact this

/-- n words of a number. -/
def wordsN : Nat → Nat → List Int
  | 0, _ => []
  | n + 1, v => ((v % 4294967296 : Nat) : Int) :: wordsN n (v / 4294967296)

theorem wordsN_len : ∀ n v, (wordsN n v).length = n
  | 0, _ => rfl
  | n + 1, v => by rw [wordsN, List.length_cons, wordsN_len]

theorem take_digits_wordsN : ∀ (n v : Nat), v < BB ^ n → (wordsN n v).take (digits v).length = digits v
  | 0, v, h => by have : v = 0 := by simpa using h
                  subst this; rfl
  | n + 1, v, h => by
    by_cases hv : v = 0
    · subst hv; simp [digits_zero]
    · rw [digits_pos hv, wordsN, List.length_cons, List.take_succ_cons, take_digits_wordsN n (v / 4294967296) (by
        rw [Nat.pow_succ] at h
        exact Nat.div_lt_of_lt_mul (by rw [Nat.mul_comm]; exact h))]

theorem num_wordsN : ∀ (n v : Nat), v < BB ^ n → num (wordsN n v) = v
  | 0, v, h => by have : v = 0 := by simpa using h
                  subst this; rfl
  | n + 1, v, h => by
    rw [wordsN, num, num_wordsN n _ (by
        rw [Nat.pow_succ] at h
        exact Nat.div_lt_of_lt_mul (by rw [Nat.mul_comm]; exact h))]
    omega

/-- Are the first n of a list words? -/
noncomputable def wordsB (n : Nat) (xs : List Int) : Bool := chk (words (xs.take n) ∧ n ≤ 1000000)

theorem wordsB_iff {n : Nat} {xs : List Int} : wordsB n xs = true ↔ words (xs.take n) ∧ n ≤ 1000000 := chk_iff

theorem wordsN_words : ∀ n v, words (wordsN n v)
  | 0, _ => fun x h => by cases h
  | n + 1, v => fun x h => by
    rcases List.mem_cons.1 h with rfl | h
    · omega
    · exact wordsN_words n _ x h

theorem wordsB_wordsN {n v : Nat} (h : n ≤ 1000000) : wordsB n (wordsN n v) = true :=
  wordsB_iff.2 ⟨by rw [List.take_of_length_le (by rw [wordsN_len]; exact Nat.le_refl _)]; exact wordsN_words n v, h⟩
theorem numW_wordsN {n v : Nat} (h : v < BB ^ n) : numW n (wordsN n v) = v := by
  unfold numW; rw [List.take_of_length_le (by rw [wordsN_len]; exact Nat.le_refl _), num_wordsN n v h]

theorem wordsB_norm {n : Nat} {xs : List Int} (h : normB n xs = true) : wordsB n xs = true := by
  obtain ⟨h1, h2, h3⟩ := normB_iff.1 h
  exact wordsB_iff.2 ⟨by rw [h1]; exact digits_words _, h3⟩

theorem num_snoc (l : List Int) (x : Int) : num (l ++ [x]) = num l + BB ^ l.length * x.toNat := by
  induction l with
  | nil => simp [num]
  | cons y l ih =>
    simp only [List.cons_append, num, ih, List.length_cons, Nat.pow_succ]
    rw [Nat.mul_add, ← Nat.mul_assoc, Nat.mul_comm 4294967296 (BB ^ l.length), Nat.add_assoc]

theorem num_lt {l : List Int} (h : words l) : num l < BB ^ l.length := by
  induction l with
  | nil => simp [num]
  | cons y l ih =>
    have h1 := ih (fun x hx => h x (List.mem_cons_of_mem _ hx))
    have h2 := h y (List.mem_cons_self ..)
    simp only [num, List.length_cons, Nat.pow_succ]
    have : (num l + 1) * 4294967296 ≤ BB ^ l.length * 4294967296 := Nat.mul_le_mul_right _ h1
    show y.toNat + 4294967296 * num l < BB ^ l.length * 4294967296
    omega

/-- Words whose last one is not 0 are digits. -/
theorem digits_num : ∀ {l : List Int}, words l → (l = [] ∨ l.getD (l.length - 1) 0 ≠ 0) → digits (num l) = l
  | [], _, _ => rfl
  | [x], h, h2 => by
    have h1 := h x (List.mem_cons_self ..)
    have h3 : x ≠ 0 := by rcases h2 with h2 | h2; cases h2; simpa using h2
    simp only [num]
    rw [digits_pos (by omega), show (x.toNat + 4294967296 * 0) / 4294967296 = 0 by omega, digits_zero, show ((x.toNat + 4294967296 * 0) % 4294967296 : Nat) = x.toNat by omega, Int.toNat_of_nonneg h1.1]
  | x :: y :: l, h, h2 => by
    have ih := digits_num (l := y :: l) (fun z hz => h z (List.mem_cons_of_mem _ hz)) (.inr (by
      rcases h2 with h2 | h2
      · cases h2
      · simpa using h2))
    have h1 := h x (List.mem_cons_self ..)
    have hne : num (y :: l) ≠ 0 := by intro e; rw [e] at ih; cases ih
    rw [num, digits_pos (by omega), show (x.toNat + 4294967296 * num (y :: l)) / 4294967296 = num (y :: l) by omega, ih, show ((x.toNat + 4294967296 * num (y :: l)) % 4294967296 : Nat) = x.toNat by omega, Int.toNat_of_nonneg h1.1]
end Go.Proofs.Ytfgehfnlkakioaa.VC
