/- Bytes and the numbers that they are (never beside K1, K2). -/
import Derived.Test.YtcjjngdkkihgjaaNX
namespace Go.Proofs.Ytcjjngdkkihgjaa.VC
open Go Go.Proofs

abbrev oU (n : Nat) (xs : List Int) : Option Blk := some ⟨true, 1, [.ints .u8 n xs]⟩
abbrev rU (n : Nat) (xs : List Int) : Option Blk := some ⟨false, 1, [.ints .u8 n xs]⟩
abbrev oI (n : Nat) (xs : List Int) : Option Blk := some ⟨true, 1, [.ints .i64 n xs]⟩
abbrev rI (n : Nat) (xs : List Int) : Option Blk := some ⟨false, 1, [.ints .i64 n xs]⟩
abbrev u64v (x : Int) : Value := .int .u64 x
abbrev u8v (x : Int) : Value := .int .u8 x
abbrev slo (id o n c : Nat) : Value := .slice (some ⟨id, o, none⟩) n c
/-- A number's byte, and its bytes, the highest one first. -/
def beB (v : Int) (k : Nat) : Int := v / 256 ^ k % 256
def be (v : Int) : Nat → List Int
  | 0 => []
  | s + 1 => beB v s :: be v s
theorem be_len (v : Int) : ∀ s, (be v s).length = s
  | 0 => rfl
  | s + 1 => by rw [be, List.length_cons, be_len v s]
theorem pow8 (i : Nat) : (2 : Int) ^ (8 * i) = 256 ^ i := by rw [Int.pow_mul]; rfl
theorem beB_shr {v : Int} {i : Nat} (hi : i ≤ 7) : IntKind.u8.wrap (v.fdiv ((2 : Int) ^ min ((8 : Int) * (i : Int)).toNat 64)) = beB v i := by
  have hp : (0 : Int) ≤ 256 ^ i := Int.le_of_lt (Int.pow_pos (by decide))
  rw [show min ((8 : Int) * (i : Int)).toNat 64 = 8 * i by omega, pow8, wU8, Int.fdiv_eq_ediv_of_nonneg _ hp]
  rfl
theorem beB_succ (v : Int) (k : Nat) : beB (v / 256) k = beB v (k + 1) := by
  have hp : (0 : Int) ≤ 256 ^ k := Int.le_of_lt (Int.pow_pos (by decide))
  unfold beB
  rw [Int.ediv_ediv_of_nonneg (by decide), Int.pow_succ, Int.mul_comm (256 ^ k)]
theorem be_snoc (v : Int) : ∀ s, be v (s + 1) = be (v / 256) s ++ [v % 256]
  | 0 => by simp [be, beB]
  | s + 1 => by
    rw [be, be_snoc v s, be, beB_succ]; rfl
theorem be_mem {v x : Int} : ∀ {s}, x ∈ be v s → 0 ≤ x ∧ x < 256
  | 0, h => by cases h
  | s + 1, h => by
    rcases List.mem_cons.1 h with rfl | h
    · unfold beB; omega
    · exact be_mem h
def valB (l : List Int) : Int := l.foldl (fun a x => a * 256 + x) 0
theorem valB_snoc (l : List Int) (x : Int) : valB (l ++ [x]) = valB l * 256 + x := by unfold valB; rw [List.foldl_append]; rfl
theorem valB_lt : ∀ (n : Nat) (l : List Int), l.length = n → (∀ x ∈ l, 0 ≤ x ∧ x ≤ 255) → 0 ≤ valB l ∧ valB l < 256 ^ n
  | 0, l, h, _ => by rw [List.length_eq_zero_iff.1 h]; decide
  | n + 1, l, h, hx => by
    obtain ⟨l, x, rfl⟩ : ∃ l' x, l = l' ++ [x] := ⟨l.dropLast, l.getLast (by intro e; rw [e] at h; cases h), (List.dropLast_concat_getLast _).symm⟩
    rw [List.length_append] at h
    have h1 := valB_lt n l (by simpa using h) fun y hy => hx y (List.mem_append_left _ hy)
    have h2 := hx x (List.mem_append_right _ (List.mem_singleton.2 rfl))
    rw [valB_snoc, Int.pow_succ]
    have : valB l * 256 + 256 ≤ 256 ^ n * 256 := by omega
    omega
theorem valB_be : ∀ (s : Nat) (v : Int), 0 ≤ v → valB (be v s) = v % 256 ^ s
  | 0, v, h => by simp [be, valB]
  | s + 1, v, h => by
    obtain ⟨v, rfl⟩ := Int.eq_ofNat_of_zero_le h
    have e : ∀ k : Nat, (256 : Int) ^ k = ((256 ^ k : Nat) : Int) := fun k => by simp
    rw [be_snoc, valB_snoc, valB_be s _ (by omega), e, e, Nat.pow_succ, Nat.mul_comm (256 ^ s)]
    have e1 : ((v : Int) / 256 % ((256 ^ s : Nat) : Int)) = ((v / 256 % 256 ^ s : Nat) : Int) := rfl
    have e2 : (v : Int) % ((256 * 256 ^ s : Nat) : Int) = ((v % (256 * 256 ^ s) : Nat) : Int) := rfl
    rw [e1, e2, Nat.mod_mul]
    generalize v / 256 % 256 ^ s = y
    omega
theorem pow_le8 {i : Nat} (h : i ≤ 7) : (256 : Int) ^ i ≤ 72057594037927936 := by
  have : (256 : Nat) ^ i ≤ 256 ^ 7 := Nat.pow_le_pow_right (by decide) h
  have e : ((256 ^ i : Nat) : Int) = (256 : Int) ^ i := by simp
  rw [← e]; omega
end Go.Proofs.Ytcjjngdkkihgjaa.VC
