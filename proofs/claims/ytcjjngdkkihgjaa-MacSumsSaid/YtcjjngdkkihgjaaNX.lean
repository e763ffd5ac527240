/- Numbers of fixed width: wraps and bits of any unsigned kind. -/
import Derived.Test.YtcjjngdkkihgjaaPX
namespace Go.Proofs.Ytcjjngdkkihgjaa.VC
open Go

theorem wrU (k : IntKind) (hk : k.signed = false) (x : Int) : k.wrap x = x % 2 ^ k.bits := by simp only [IntKind.wrap, hk]; simp
theorem wU8 (x : Int) : IntKind.u8.wrap x = x % 256 := wrU .u8 rfl x
theorem wU16 (x : Int) : IntKind.u16.wrap x = x % 65536 := wrU .u16 rfl x
theorem wU32 (x : Int) : IntKind.u32.wrap x = x % 4294967296 := wrU .u32 rfl x
theorem wU64 (x : Int) : IntKind.u64.wrap x = x % 18446744073709551616 := wrU .u64 rfl x
theorem wI8 (x : Int) : IntKind.i8.wrap x = (x + 128) % 256 - 128 := by simp only [IntKind.wrap, IntKind.signed, IntKind.bits]; simp; omega
theorem bits_nat {op : BinOp} {f : Nat → Nat → Nat} (k : IntKind) (hk : k.signed = false) (hf : ∀ (x y : Int), bits op k x y = k.wrap (f (BitVec.ofInt k.bits x).toNat (BitVec.ofInt k.bits y).toNat : Nat)) (hl : ∀ a b : Nat, a < 2 ^ k.bits → b < 2 ^ k.bits → f a b < 2 ^ k.bits)
    (a b : Nat) (ha : a < 2 ^ k.bits) (hb : b < 2 ^ k.bits) : bits op k (a : Int) (b : Int) = ((f a b : Nat) : Int) := by
  have h1 : (BitVec.ofInt k.bits (a : Int)).toNat = a := by rw [BitVec.ofInt_natCast, BitVec.toNat_ofNat]; exact Nat.mod_eq_of_lt ha
  have h2 : (BitVec.ofInt k.bits (b : Int)).toNat = b := by rw [BitVec.ofInt_natCast, BitVec.toNat_ofNat]; exact Nat.mod_eq_of_lt hb
  have hlt := hl a b ha hb
  rw [hf, h1, h2, wrU k hk]
  have e : ((2 : Int) ^ k.bits) = ((2 ^ k.bits : Nat) : Int) := by simp
  rw [e, ← Int.natCast_emod, Nat.mod_eq_of_lt hlt]
theorem bits_and (k : IntKind) (hk : k.signed = false) (a b : Nat) (ha : a < 2 ^ k.bits) (hb : b < 2 ^ k.bits) : bits .and k (a : Int) (b : Int) = ((a &&& b : Nat) : Int) :=
  bits_nat (f := fun a b => a &&& b) k hk (fun x y => by show k.wrap ((BitVec.ofInt k.bits x &&& BitVec.ofInt k.bits y).toNat : Int) = _; rw [BitVec.toNat_and]) (fun _ _ _ h => Nat.and_lt_two_pow _ h) a b ha hb
theorem bits_or (k : IntKind) (hk : k.signed = false) (a b : Nat) (ha : a < 2 ^ k.bits) (hb : b < 2 ^ k.bits) : bits .or k (a : Int) (b : Int) = ((a ||| b : Nat) : Int) :=
  bits_nat (f := fun a b => a ||| b) k hk (fun x y => by show k.wrap ((BitVec.ofInt k.bits x ||| BitVec.ofInt k.bits y).toNat : Int) = _; rw [BitVec.toNat_or]) (fun _ _ h h' => Nat.or_lt_two_pow h h') a b ha hb
theorem bits_xor (k : IntKind) (hk : k.signed = false) (a b : Nat) (ha : a < 2 ^ k.bits) (hb : b < 2 ^ k.bits) : bits .xor k (a : Int) (b : Int) = ((a ^^^ b : Nat) : Int) :=
  bits_nat (f := fun a b => a ^^^ b) k hk (fun x y => by show k.wrap ((BitVec.ofInt k.bits x ^^^ BitVec.ofInt k.bits y).toNat : Int) = _; rw [BitVec.toNat_xor]) (fun _ _ h h' => Nat.xor_lt_two_pow h h') a b ha hb
/-- A number moved up, with another one below. -/
theorem bits_up (k : IntKind) (hk : k.signed = false) {h c : Int} (s : Nat) (h0 : 0 ≤ h) (c0 : 0 ≤ c) (h1 : h * 2 ^ s < 2 ^ k.bits) (c1 : c < 2 ^ s) (hs : s ≤ k.bits) : bits .or k (h * 2 ^ s) c = h * 2 ^ s + c := by
  obtain ⟨H, rfl⟩ := Int.eq_ofNat_of_zero_le h0
  obtain ⟨C, rfl⟩ := Int.eq_ofNat_of_zero_le c0
  have e : ((H * 2 ^ s : Nat) : Int) = (H : Int) * 2 ^ s := by simp
  have e2 : ((2 ^ s : Nat) : Int) = (2 : Int) ^ s := by simp
  have e3 : ((2 ^ k.bits : Nat) : Int) = (2 : Int) ^ k.bits := by simp
  rw [← e, ← e3] at h1
  rw [← e2] at c1
  rw [← e]
  have hp : 2 ^ s ≤ 2 ^ k.bits := Nat.pow_le_pow_right (by omega) hs
  rw [bits_or k hk _ _ (by omega) (by omega), Nat.mul_comm H, ← Nat.two_pow_add_eq_or_of_lt (by omega)]
  simp
/-- The low bits. -/
theorem bits_low (k : IntKind) (hk : k.signed = false) {a : Int} (s : Nat) (h0 : 0 ≤ a) (h1 : a < 2 ^ k.bits) (hs : s < k.bits) : bits .and k a (2 ^ s - 1) = a % 2 ^ s := by
  obtain ⟨A, rfl⟩ := Int.eq_ofNat_of_zero_le h0
  have e3 : ((2 ^ k.bits : Nat) : Int) = (2 : Int) ^ k.bits := by simp
  have e2 : ((2 ^ s : Nat) : Int) = (2 : Int) ^ s := by simp
  have hp : 1 ≤ 2 ^ s := Nat.one_le_two_pow
  have hlt : 2 ^ s < 2 ^ k.bits := Nat.pow_lt_pow_right (by omega) hs
  rw [← e3] at h1
  rw [← e2, show (((2 ^ s : Nat) : Int) - 1) = ((2 ^ s - 1 : Nat) : Int) by omega, bits_and k hk _ _ (by omega) (by omega), Nat.and_two_pow_sub_one_eq_mod]
  simp
end Go.Proofs.Ytcjjngdkkihgjaa.VC
