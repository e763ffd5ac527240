/- The document's numbers: what the functions compute. -/
import Derived.Test.YtfgehfnlkakioaaS2
import Derived.Test.YtfgehfnlkakioaaV19
namespace Go.Proofs.Ytfgehfnlkakioaa.VC
open Go Go.Proofs

/-- A number in words of 32 bits, the lowest first. -/
def digitsN : Nat → Nat → List Int
  | 0, _ => []
  | f + 1, n => if n = 0 then [] else ((n % 4294967296 : Nat) : Int) :: digitsN f (n / 4294967296)
def digits (n : Nat) : List Int := digitsN n n

theorem digitsN_eq : ∀ {f g n : Nat}, n ≤ f → n ≤ g → digitsN f n = digitsN g n
  | 0, 0, _, _, _ => rfl
  | 0, g + 1, n, h, _ => by have : n = 0 := by omega
                            subst this; simp [digitsN]
  | f + 1, 0, n, _, h => by have : n = 0 := by omega
                            subst this; simp [digitsN]
  | f + 1, g + 1, n, h1, h2 => by
    simp only [digitsN]
    split
    · rfl
    · rw [digitsN_eq (f := f) (g := g) (by omega) (by omega)]

theorem digits_zero : digits 0 = [] := rfl
theorem digits_pos {n : Nat} (h : n ≠ 0) : digits n = ((n % 4294967296 : Nat) : Int) :: digits (n / 4294967296) := by
  unfold digits
  cases n with
  | zero => exact (h rfl).elim
  | succ m =>
    rw [digitsN, if_neg (by omega), digitsN_eq (f := m) (g := (m + 1) / 4294967296) (by omega) (by omega)]

/-- A list's number. -/
def num : List Int → Nat
  | [] => 0
  | x :: r => x.toNat + 4294967296 * num r

theorem num_digits : ∀ n : Nat, num (digits n) = n := by
  intro n
  induction n using Nat.strongRecOn with
  | _ n ih =>
    by_cases h : n = 0
    · subst h; rfl
    · rw [digits_pos h]
      simp only [num]
      rw [ih (n / 4294967296) (by omega)]
      omega

/-- Words: a list of numbers below 2^32. -/
def words (l : List Int) : Prop := ∀ x ∈ l, 0 ≤ x ∧ x < 4294967296

theorem digits_words : ∀ n : Nat, words (digits n) := by
  intro n
  induction n using Nat.strongRecOn with
  | _ n ih =>
    by_cases h : n = 0
    · subst h; intro x hx; cases hx
    · rw [digits_pos h]
      intro x hx
      rcases List.mem_cons.1 hx with rfl | hx
      · omega
      · exact ih (n / 4294967296) (by omega) x hx

/-- The words at a place. -/
theorem digits_get (n i : Nat) : (digits n).getD i 0 = (((n / 4294967296 ^ i) % 4294967296 : Nat) : Int) := by
  induction i generalizing n with
  | zero =>
    by_cases h : n = 0
    · subst h; rfl
    · rw [digits_pos h]; simp
  | succ i ih =>
    by_cases h : n = 0
    · subst h; simp [digits_zero]
    · rw [digits_pos h, List.getD_cons_succ, ih, Nat.div_div_eq_div_mul, Nat.pow_succ, Nat.mul_comm]
end Go.Proofs.Ytfgehfnlkakioaa.VC
