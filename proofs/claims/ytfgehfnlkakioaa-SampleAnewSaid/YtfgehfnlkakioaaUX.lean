/- loop, and the document's answer for it: closed forms. -/
import Derived.Test.YtfgehfnlkakioaaTX
import Derived.Test.YtfgehfnlkakioaaVX3
namespace Go.Proofs.Ytfgehfnlkakioaa.VC
open Go Go.Proofs

abbrev lV (R P Q F : Int) : Value := .agg ⟨[.int .i64 R, .int .u64 P, .int .u64 Q, .int .i64 F]⟩
noncomputable def mayB (R P Q F : Int) : Bool := chk (1 ≤ R ∧ R ≤ 2147484 ∧ 0 ≤ P ∧ P ≤ 16 ∧ 0 ≤ Q ∧ Q ≤ 16 ∧ -R ≤ F ∧ F ≤ R)
def clampI (a lo hi : Int) : Int := if a < lo then lo else if a > hi then hi else a
def stepZ (R P Q F o x : Int) : Int := clampI (hold (hold (F + downI o 4294967296 x / 2 ^ (min Q 63).toNat) + o / 2 ^ (min P 63).toNat)) (-R) R
def F50 : FSpec := fun args h k => match args, h with
  | [.int .i64 r], [] => bif decide (1 ≤ r) && decide (r ≤ 500) then k (.tuple ⟨[w63 (upI r 4294967296 1000000), w63 0]⟩) [] else k (.tuple ⟨[w63 0, w63 2]⟩) []
  | _, _ => none
def S50 : Spec := mkS [(21, false, F21)]
--CF cf50 (r : Int) :: fnK Try.prog S50 noL Try.f50 [w63 r] []
theorem cf50 (r : Int) : fnK Try.prog S50 noL Try.f50 [w63 r] [] =
     (bif decide (r < 1) then some (Res.ret (Value.tuple (Array.mk [Value.int IntKind.i64 0, Value.int IntKind.i64 2])) []) else bif decide (r > 500) then some (Res.ret (Value.tuple (Array.mk [Value.int
     IntKind.i64 0, Value.int IntKind.i64 2])) []) else some (Res.ret (Value.tuple (Array.mk [Value.int IntKind.i64 (upI r 4294967296 1000000), Value.int IntKind.i64 0])) [])) := by kernel_rfl
--CFEND
noncomputable def F53 : FSpec := fun args h k => match args, h with
  | [.agg ⟨[.int .i64 R, .int .u64 P, .int .u64 Q, .int .i64 F]⟩], [] => k (.bool (mayB R P Q F)) []
  | _, _ => none
--CF cf53 (R P Q F : Int) :: fnK Try.prog (mkS []) noL Try.f53 [lV R P Q F] []
theorem cf53 (R P Q F : Int) : fnK Try.prog (mkS []) noL Try.f53 [lV R P Q F] [] =
     (bif decide (R ≥ 1) then bif decide (R ≤ 2147484) then bif decide (P ≤ 16) then bif decide (Q ≤ 16) then bif decide (F ≥ IntKind.i64.wrap (0 - R)) then some (Res.ret (Value.bool (decide (F ≤ R))) [])
     else some (Res.ret (Value.bool false) []) else some (Res.ret (Value.bool false) []) else some (Res.ret (Value.bool false) []) else some (Res.ret (Value.bool false) []) else some (Res.ret (Value.bool
     false) [])) := by kernel_rfl
--CFEND
def F101 : FSpec := fun args h k => match args, h with
  | [.agg ⟨[.int .i64 R, .int .u64 P, .int .u64 Q, .int .i64 F, .int .i64 o, .int .i64 x]⟩], [] => bif decide (1 ≤ R) then k (w63 (stepZ R P Q F o x)) [] else none
  | _, _ => none
def S101 : Spec := mkS [(19, false, F19), (23, false, F23), (33, false, F33), (34, false, F34)]
--CF cf101 (R P Q F o x : Int) :: fnK Try.prog S101 noL Try.f101 [.agg ⟨[w63 R, w64 P, w64 Q, w63 F, w63 o, w63 x]⟩] []
theorem cf101 (R P Q F o x : Int) : fnK Try.prog S101 noL Try.f101 [.agg ⟨[w63 R, w64 P, w64 Q, w63 F, w63 o, w63 x]⟩] [] =
     (some (Res.ret (Value.int IntKind.i64 (if hold (hold (F + downI o 4294967296 x / 2 ^ (min Q 63).toNat) + o / 2 ^ (min P 63).toNat) < IntKind.i64.wrap (0 - R) then IntKind.i64.wrap (0 - R) else if hold
     (hold (F + downI o 4294967296 x / 2 ^ (min Q 63).toNat) + o / 2 ^ (min P 63).toNat) > R then R else hold (hold (F + downI o 4294967296 x / 2 ^ (min Q 63).toNat) + o / 2 ^ (min P 63).toNat))) [])) := by kernel_rfl
--CFEND
noncomputable def F52 : FSpec := fun args h k => match args, h with
  | [.agg ⟨[.int .i64 R, .int .u64 P, .int .u64 Q, .int .i64 F]⟩, .int .i64 o, .int .i64 x], [] =>
    bif mayB R P Q F && decide (0 < x) then k (.tuple ⟨[lV R P Q (stepZ R P Q F o x), w63 0]⟩) [] else k (.tuple ⟨[lV 0 0 0 0, w63 2]⟩) []
  | _, _ => none
noncomputable def S52 : Spec := mkS [(53, false, F53), (101, false, F101)]
--CF cf52 (R P Q F o x : Int) :: fnK Try.prog S52 noL Try.f52 [lV R P Q F, w63 o, w63 x] []
theorem cf52 (R P Q F o x : Int) : fnK Try.prog S52 noL Try.f52 [lV R P Q F, w63 o, w63 x] [] =
     (bif !mayB R P Q F then some (Res.ret (Value.tuple (Array.mk [Value.agg (Array.mk [Value.int IntKind.i64 0, Value.int IntKind.u64 0, Value.int IntKind.u64 0, Value.int IntKind.i64 0]), Value.int
     IntKind.i64 2])) []) else bif decide (x ≤ 0) then some (Res.ret (Value.tuple (Array.mk [Value.agg (Array.mk [Value.int IntKind.i64 0, Value.int IntKind.u64 0, Value.int IntKind.u64 0, Value.int
     IntKind.i64 0]), Value.int IntKind.i64 2])) []) else bif decide (1 ≤ R) then some (Res.ret (Value.tuple (Array.mk [Value.agg (Array.mk [Value.int IntKind.i64 R, Value.int IntKind.u64 P, Value.int
     IntKind.u64 Q, Value.int IntKind.i64 (stepZ R P Q F o x)]), Value.int IntKind.i64 0])) []) else none) := by kernel_rfl
--CFEND
def F55 : FSpec := fun args h k => match args, h with
  | [.int .i64 f, .int .i64 x], [] => k (w63 (downI x f 4294967296)) []
  | _, _ => none
def S55 : Spec := mkS [(19, false, F19)]
--CF cf55 (f x : Int) :: fnK Try.prog S55 noL Try.f55 [w63 f, w63 x] []
theorem cf55 (f x : Int) : fnK Try.prog S55 noL Try.f55 [w63 f, w63 x] [] =
     (some (Res.ret (Value.int IntKind.i64 (downI x f 4294967296)) [])) := by kernel_rfl
--CFEND
def F51 : FSpec := fun args h k => match args, h with
  | [.int .i64 r], [] => k (w63 (upI r 4294967296 1000000)) []
  | _, _ => none
noncomputable def Sn : Spec := mkS [(27, false, F27), (28, false, F28), (29, false, F29), (31, false, F31), (32, false, F32), (35, false, F35), (86, false, F86)]
--CF cf51 (r : Int) :: fnK Try.prog Sn noL Try.f51 [w63 r] []
theorem cf51 (r : Int) : fnK Try.prog Sn noL Try.f51 [w63 r] [] =
     (bif normB (digits r.natAbs).length (digits r.natAbs) && normB 2 (digits 4294967296) && (digits r.natAbs).length.ble (digits r.natAbs).length && true && (digits r.natAbs).length.ble (OfNat.ofNat
     400000) && true then bif normB (digits (sgn (decide (r < 0)) (numW (digits r.natAbs).length (digits r.natAbs)) * 4294967296).natAbs).length (digits (sgn (decide (r < 0)) (numW (digits r.natAbs).length
     (digits r.natAbs)) * 4294967296).natAbs) && normB 1 (digits 1000000) && (digits (sgn (decide (r < 0)) (numW (digits r.natAbs).length (digits r.natAbs)) * 4294967296).natAbs).length.ble (digits (sgn
     (decide (r < 0)) (numW (digits r.natAbs).length (digits r.natAbs)) * 4294967296).natAbs).length && true && (digits (sgn (decide (r < 0)) (numW (digits r.natAbs).length (digits r.natAbs)) *
     4294967296).natAbs).length.ble (OfNat.ofNat 399999) && true && true && true then bif normB (digits (-(-sgn (decide (sgn (decide (r < 0)) (numW (digits r.natAbs).length (digits r.natAbs)) * 4294967296
     < 0)) (numW (digits (sgn (decide (r < 0)) (numW (digits r.natAbs).length (digits r.natAbs)) * 4294967296).natAbs).length (digits (sgn (decide (r < 0)) (numW (digits r.natAbs).length (digits r.natAbs))
     * 4294967296).natAbs)) / 1000000)).natAbs).length (digits (-(-sgn (decide (sgn (decide (r < 0)) (numW (digits r.natAbs).length (digits r.natAbs)) * 4294967296 < 0)) (numW (digits (sgn (decide (r < 0))
     (numW (digits r.natAbs).length (digits r.natAbs)) * 4294967296).natAbs).length (digits (sgn (decide (r < 0)) (numW (digits r.natAbs).length (digits r.natAbs)) * 4294967296).natAbs)) /
     1000000)).natAbs) && (digits (-(-sgn (decide (sgn (decide (r < 0)) (numW (digits r.natAbs).length (digits r.natAbs)) * 4294967296 < 0)) (numW (digits (sgn (decide (r < 0)) (numW (digits
     r.natAbs).length (digits r.natAbs)) * 4294967296).natAbs).length (digits (sgn (decide (r < 0)) (numW (digits r.natAbs).length (digits r.natAbs)) * 4294967296).natAbs)) / 1000000)).natAbs).length.ble
     (digits (-(-sgn (decide (sgn (decide (r < 0)) (numW (digits r.natAbs).length (digits r.natAbs)) * 4294967296 < 0)) (numW (digits (sgn (decide (r < 0)) (numW (digits r.natAbs).length (digits r.natAbs))
     * 4294967296).natAbs).length (digits (sgn (decide (r < 0)) (numW (digits r.natAbs).length (digits r.natAbs)) * 4294967296).natAbs)) / 1000000)).natAbs).length then some (Res.ret (Value.int IntKind.i64
     (hold (sgn (decide (-(-sgn (decide (sgn (decide (r < 0)) (numW (digits r.natAbs).length (digits r.natAbs)) * 4294967296 < 0)) (numW (digits (sgn (decide (r < 0)) (numW (digits r.natAbs).length (digits
     r.natAbs)) * 4294967296).natAbs).length (digits (sgn (decide (r < 0)) (numW (digits r.natAbs).length (digits r.natAbs)) * 4294967296).natAbs)) / 1000000) < 0)) (numW (digits (-(-sgn (decide (sgn
     (decide (r < 0)) (numW (digits r.natAbs).length (digits r.natAbs)) * 4294967296 < 0)) (numW (digits (sgn (decide (r < 0)) (numW (digits r.natAbs).length (digits r.natAbs)) * 4294967296).natAbs).length
     (digits (sgn (decide (r < 0)) (numW (digits r.natAbs).length (digits r.natAbs)) * 4294967296).natAbs)) / 1000000)).natAbs).length (digits (-(-sgn (decide (sgn (decide (r < 0)) (numW (digits
     r.natAbs).length (digits r.natAbs)) * 4294967296 < 0)) (numW (digits (sgn (decide (r < 0)) (numW (digits r.natAbs).length (digits r.natAbs)) * 4294967296).natAbs).length (digits (sgn (decide (r < 0))
     (numW (digits r.natAbs).length (digits r.natAbs)) * 4294967296).natAbs)) / 1000000)).natAbs))))) []) else none else none else none) := by kernel_rfl
--CFEND
def S54 : Spec := mkS [(51, false, F51)]
--CF cf54 (R P Q F : Int) :: fnK Try.prog S54 noL Try.f54 [lV R P Q F] []
theorem cf54 (R P Q F : Int) : fnK Try.prog S54 noL Try.f54 [lV R P Q F] [] =
     (bif decide (R > 0) then bif decide (R ≤ 2147484) then bif decide (P < 17) then bif decide (Q < 17) then bif decide (F ≤ R) then some (Res.ret (Value.bool (decide (F ≥ IntKind.i64.wrap (0 - R)))) [])
     else some (Res.ret (Value.bool false) []) else some (Res.ret (Value.bool false) []) else some (Res.ret (Value.bool false) []) else some (Res.ret (Value.bool false) []) else some (Res.ret (Value.bool
     false) [])) := by kernel_rfl
--CFEND
--CF cf56 (f x : Int) :: fnK Try.prog Sn noL Try.f56 [w63 f, w63 x] []
theorem cf56 (f x : Int) : fnK Try.prog Sn noL Try.f56 [w63 f, w63 x] [] =
     (bif normB (digits f.natAbs).length (digits f.natAbs) && normB (digits x.natAbs).length (digits x.natAbs) && (digits f.natAbs).length.ble (digits f.natAbs).length && (digits x.natAbs).length.ble
     (digits x.natAbs).length && (digits f.natAbs).length.ble (OfNat.ofNat 400000) && (digits x.natAbs).length.ble (OfNat.ofNat 400000) then bif normB (digits (sgn (decide (f < 0)) (numW (digits
     f.natAbs).length (digits f.natAbs)) * sgn (decide (x < 0)) (numW (digits x.natAbs).length (digits x.natAbs))).natAbs).length (digits (sgn (decide (f < 0)) (numW (digits f.natAbs).length (digits
     f.natAbs)) * sgn (decide (x < 0)) (numW (digits x.natAbs).length (digits x.natAbs))).natAbs) && normB 2 (digits 4294967296) && (digits (sgn (decide (f < 0)) (numW (digits f.natAbs).length (digits
     f.natAbs)) * sgn (decide (x < 0)) (numW (digits x.natAbs).length (digits x.natAbs))).natAbs).length.ble (digits (sgn (decide (f < 0)) (numW (digits f.natAbs).length (digits f.natAbs)) * sgn (decide (x
     < 0)) (numW (digits x.natAbs).length (digits x.natAbs))).natAbs).length && true && (digits (sgn (decide (f < 0)) (numW (digits f.natAbs).length (digits f.natAbs)) * sgn (decide (x < 0)) (numW (digits
     x.natAbs).length (digits x.natAbs))).natAbs).length.ble (OfNat.ofNat 399999) && true && true && true then bif normB (digits (sgn (decide (sgn (decide (f < 0)) (numW (digits f.natAbs).length (digits
     f.natAbs)) * sgn (decide (x < 0)) (numW (digits x.natAbs).length (digits x.natAbs)) < 0)) (numW (digits (sgn (decide (f < 0)) (numW (digits f.natAbs).length (digits f.natAbs)) * sgn (decide (x < 0))
     (numW (digits x.natAbs).length (digits x.natAbs))).natAbs).length (digits (sgn (decide (f < 0)) (numW (digits f.natAbs).length (digits f.natAbs)) * sgn (decide (x < 0)) (numW (digits x.natAbs).length
     (digits x.natAbs))).natAbs)) / 4294967296).natAbs).length (digits (sgn (decide (sgn (decide (f < 0)) (numW (digits f.natAbs).length (digits f.natAbs)) * sgn (decide (x < 0)) (numW (digits
     x.natAbs).length (digits x.natAbs)) < 0)) (numW (digits (sgn (decide (f < 0)) (numW (digits f.natAbs).length (digits f.natAbs)) * sgn (decide (x < 0)) (numW (digits x.natAbs).length (digits
     x.natAbs))).natAbs).length (digits (sgn (decide (f < 0)) (numW (digits f.natAbs).length (digits f.natAbs)) * sgn (decide (x < 0)) (numW (digits x.natAbs).length (digits x.natAbs))).natAbs)) /
     4294967296).natAbs) && (digits (sgn (decide (sgn (decide (f < 0)) (numW (digits f.natAbs).length (digits f.natAbs)) * sgn (decide (x < 0)) (numW (digits x.natAbs).length (digits x.natAbs)) < 0)) (numW
     (digits (sgn (decide (f < 0)) (numW (digits f.natAbs).length (digits f.natAbs)) * sgn (decide (x < 0)) (numW (digits x.natAbs).length (digits x.natAbs))).natAbs).length (digits (sgn (decide (f < 0))
     (numW (digits f.natAbs).length (digits f.natAbs)) * sgn (decide (x < 0)) (numW (digits x.natAbs).length (digits x.natAbs))).natAbs)) / 4294967296).natAbs).length.ble (digits (sgn (decide (sgn (decide
     (f < 0)) (numW (digits f.natAbs).length (digits f.natAbs)) * sgn (decide (x < 0)) (numW (digits x.natAbs).length (digits x.natAbs)) < 0)) (numW (digits (sgn (decide (f < 0)) (numW (digits
     f.natAbs).length (digits f.natAbs)) * sgn (decide (x < 0)) (numW (digits x.natAbs).length (digits x.natAbs))).natAbs).length (digits (sgn (decide (f < 0)) (numW (digits f.natAbs).length (digits
     f.natAbs)) * sgn (decide (x < 0)) (numW (digits x.natAbs).length (digits x.natAbs))).natAbs)) / 4294967296).natAbs).length then some (Res.ret (Value.int IntKind.i64 (hold (sgn (decide (sgn (decide
     (sgn (decide (f < 0)) (numW (digits f.natAbs).length (digits f.natAbs)) * sgn (decide (x < 0)) (numW (digits x.natAbs).length (digits x.natAbs)) < 0)) (numW (digits (sgn (decide (f < 0)) (numW (digits
     f.natAbs).length (digits f.natAbs)) * sgn (decide (x < 0)) (numW (digits x.natAbs).length (digits x.natAbs))).natAbs).length (digits (sgn (decide (f < 0)) (numW (digits f.natAbs).length (digits
     f.natAbs)) * sgn (decide (x < 0)) (numW (digits x.natAbs).length (digits x.natAbs))).natAbs)) / 4294967296 < 0)) (numW (digits (sgn (decide (sgn (decide (f < 0)) (numW (digits f.natAbs).length (digits
     f.natAbs)) * sgn (decide (x < 0)) (numW (digits x.natAbs).length (digits x.natAbs)) < 0)) (numW (digits (sgn (decide (f < 0)) (numW (digits f.natAbs).length (digits f.natAbs)) * sgn (decide (x < 0))
     (numW (digits x.natAbs).length (digits x.natAbs))).natAbs).length (digits (sgn (decide (f < 0)) (numW (digits f.natAbs).length (digits f.natAbs)) * sgn (decide (x < 0)) (numW (digits x.natAbs).length
     (digits x.natAbs))).natAbs)) / 4294967296).natAbs).length (digits (sgn (decide (sgn (decide (f < 0)) (numW (digits f.natAbs).length (digits f.natAbs)) * sgn (decide (x < 0)) (numW (digits
     x.natAbs).length (digits x.natAbs)) < 0)) (numW (digits (sgn (decide (f < 0)) (numW (digits f.natAbs).length (digits f.natAbs)) * sgn (decide (x < 0)) (numW (digits x.natAbs).length (digits
     x.natAbs))).natAbs).length (digits (sgn (decide (f < 0)) (numW (digits f.natAbs).length (digits f.natAbs)) * sgn (decide (x < 0)) (numW (digits x.natAbs).length (digits x.natAbs))).natAbs)) /
     4294967296).natAbs))))) []) else none else none else none) := by kernel_rfl
--CFEND
noncomputable def F102 : FSpec := fun args h k => match args, h with
  | [.int .i64 n, .int .u64 b], [] => bif decide (0 ≤ b) && decide (b ≤ 100) then k (zV 0 (n / 2 ^ b.toNat)) [zB (n / 2 ^ b.toNat)] else none
  | _, _ => none
--CF cf102 (n b : Int) :: fnK Try.prog Sn noL Try.f102 [w63 n, w64 b] []
theorem cf102 (n b : Int) : fnK Try.prog Sn noL Try.f102 [w63 n, w64 b] [] =
     (bif decide (0 ≤ b) && decide (b ≤ 1000) then bif normB (digits n.natAbs).length (digits n.natAbs) && normB (digits (2 ^ b.toNat)).length (digits (2 ^ b.toNat)) && (digits n.natAbs).length.ble (digits
     n.natAbs).length && (digits (2 ^ b.toNat)).length.ble (digits (2 ^ b.toNat)).length && (digits n.natAbs).length.ble (OfNat.ofNat 399999) && (digits (2 ^ b.toNat)).length.ble (OfNat.ofNat 399999) &&
     Nat.blt 0 (numW (digits (2 ^ b.toNat)).length (digits (2 ^ b.toNat))) && true then some (Res.ret (Value.agg (Array.mk [Value.bool (decide (sgn (decide (n < 0)) (numW (digits n.natAbs).length (digits
     n.natAbs)) / (↑(numW (digits (2 ^ b.toNat)).length (digits (2 ^ b.toNat))) : Int) < 0)), Value.slice (some (Addr.mk 0 0 none)) (digits (sgn (decide (n < 0)) (numW (digits n.natAbs).length (digits
     n.natAbs)) / (↑(numW (digits (2 ^ b.toNat)).length (digits (2 ^ b.toNat))) : Int)).natAbs).length 2])) [some (Blk.mk true 1 [Seg.ints IntKind.u64 (digits (sgn (decide (n < 0)) (numW (digits
     n.natAbs).length (digits n.natAbs)) / (↑(numW (digits (2 ^ b.toNat)).length (digits (2 ^ b.toNat))) : Int)).natAbs).length (digits (sgn (decide (n < 0)) (numW (digits n.natAbs).length (digits
     n.natAbs)) / (↑(numW (digits (2 ^ b.toNat)).length (digits (2 ^ b.toNat))) : Int)).natAbs)])]) else none else none) := by kernel_rfl
--CFEND
noncomputable def S58 : Spec := mkS [(27, false, F27), (28, false, F28), (29, false, F29), (31, false, F31), (32, false, F32), (35, false, F35), (102, false, F102)]
end Go.Proofs.Ytfgehfnlkakioaa.VC

/- loop, and the document's answer for it: proved. -/
namespace Go.Proofs.Ytfgehfnlkakioaa.VC
open Go Go.Proofs

theorem mayB_iff {R P Q F : Int} : mayB R P Q F = true ↔ (1 ≤ R ∧ R ≤ 2147484 ∧ 0 ≤ P ∧ P ≤ 16 ∧ 0 ≤ Q ∧ Q ≤ 16 ∧ -R ≤ F ∧ F ≤ R) := chk_iff
theorem mayB_f {R P Q F : Int} (h : ¬ (1 ≤ R ∧ R ≤ 2147484 ∧ 0 ≤ P ∧ P ≤ 16 ∧ 0 ≤ Q ∧ Q ≤ 16 ∧ -R ≤ F ∧ F ≤ R)) : mayB R P Q F = false := by
  cases hm : mayB R P Q F with
  | false => rfl
  | true => exact (h (mayB_iff.1 hm)).elim

/-- What a real struct of numbers is within. -/
theorem RealA.agg {args : List Value} {h : Heap} (hr : RealA args h) {i : Nat} {cs : List Value} (ha : args[i]? = some (.agg ⟨cs⟩)) {j : Nat} {k : IntKind} {x : Int} (hx : cs[j]? = some (.int k x)) : k.min ≤ x ∧ x ≤ k.max := by
  obtain ⟨ι, base, w, args', _, hv⟩ := hr
  obtain ⟨v', _, h2⟩ := hv.get ha
  cases h2 with
  | @agg _ cs' h1 h3 =>
    have hj := (List.getElem?_eq_some_iff.1 hx).1
    have hj2 : j < cs'.size := by rw [← h1]; exact hj
    exact (h3 j _ _ (by simpa using hx) (Array.getElem?_eq_getElem hj2)).int_inv.2

theorem S50_ok : SpecOK Try.prog S50 := mkS_cons ok21 (mkS_nil _)
theorem ok50 : EntryOK Try.prog 50 F50 := by
  refine EntryOK.of_fn S50_ok follows_ok Try.func50 (by kernel_rfl) (by kernel_rfl) ?_
  intro args h k out hF
  unfold F50 at hF
  split at hF
  · rename_i r
    cases hb : (decide (1 ≤ r) && decide (r ≤ 500)) with
    | false =>
      rw [hb, condF] at hF
      refine ⟨_, _, hF, fun _ => ⟨noL, noL_ok, ?_⟩⟩
      rw [cf50]
      simp only [Bool.and_eq_false_iff, decide_eq_false_iff_not] at hb
      exact dc (fun _ => rfl) (fun c1 => dc (fun _ => rfl) (fun c2 => by omega))
    | true =>
      rw [hb, condT] at hF
      refine ⟨_, _, hF, fun _ => ⟨noL, noL_ok, ?_⟩⟩
      simp only [Bool.and_eq_true, decide_eq_true_eq] at hb
      rw [cf50, dec_f (by omega), dec_f (by omega), condF, condF]
  · cases hF

theorem ok53 : EntryOK Try.prog 53 F53 := by
  refine EntryOK.of_fn (mkS_nil _) follows_ok Try.func53 (by kernel_rfl) (by kernel_rfl) ?_
  intro args h k out hF
  unfold F53 at hF
  split at hF
  · rename_i R P Q F
    refine ⟨_, _, hF, fun real => ⟨noL, noL_ok, ?_⟩⟩
    have hR : -9223372036854775808 ≤ R ∧ R ≤ 9223372036854775807 := real.agg (i := 0) rfl (j := 0) rfl
    have hP : 0 ≤ P ∧ P ≤ 18446744073709551615 := real.agg (i := 0) rfl (j := 1) rfl
    have hQ : 0 ≤ Q ∧ Q ≤ 18446744073709551615 := real.agg (i := 0) rfl (j := 2) rfl
    rw [cf53]
    have no : ¬ (1 ≤ R ∧ R ≤ 2147484 ∧ 0 ≤ P ∧ P ≤ 16 ∧ 0 ≤ Q ∧ Q ≤ 16 ∧ -R ≤ F ∧ F ≤ R) → some (Res.ret (.bool false) []) = (some (Res.ret (.bool (mayB R P Q F)) []) : Out) := fun h => by rw [mayB_f h]
    refine dc (fun c1 => dc (fun c2 => dc (fun c3 => dc (fun c4 => dc (fun c5 => ?_) (fun c => no ?_)) (fun c => no (by omega))) (fun c => no (by omega))) (fun c => no (by omega))) (fun c => no (by omega))
    · rw [swrap (by omega) (by omega)] at c5
      by_cases c6 : F ≤ R
      · rw [dec_t c6, mayB_iff.2 (by omega)]
      · rw [dec_f c6]; exact no (by omega)
    · rw [swrap (by omega) (by omega)] at c; omega
  · cases hF
theorem Sn_ok : SpecOK Try.prog Sn := mkS_cons ok27 (mkS_cons ok28 (mkS_cons ok29 (mkS_cons ok31 (mkS_cons ok32 (mkS_cons ok35 (mkS_cons ok86 (mkS_nil _)))))))
theorem nb6 : normB 1 (digits 1000000) = true := normB_digits (v := 1000000) (by decide)
theorem ok51 : EntryOK Try.prog 51 F51 := by
  refine EntryOK.of_fn Sn_ok follows_ok Try.func51 (by kernel_rfl) (by kernel_rfl) ?_
  intro args h k out hF
  unfold F51 at hF
  split at hF
  · rename_i r
    refine ⟨_, _, hF, fun real => ⟨noL, noL_ok, ?_⟩⟩
    have hr := i64r real 0 rfl
    rw [cf51]
    simp (disch := omega) only [numW_digits, sgn_self, nb4, lb4, lb4', nb232, nb6, ble_self, Bool.and_self, condT]
    unfold upI
    rw [if_neg (by decide)]
  · cases hF
theorem S54_ok : SpecOK Try.prog S54 := mkS_cons ok51 (mkS_nil _)
theorem ok54 : EntryOK Try.prog 54 F53 := by
  refine EntryOK.of_fn S54_ok follows_ok Try.func54 (by kernel_rfl) (by kernel_rfl) ?_
  intro args h k out hF
  unfold F53 at hF
  split at hF
  · rename_i R P Q F
    refine ⟨_, _, hF, fun real => ⟨noL, noL_ok, ?_⟩⟩
    have hR : -9223372036854775808 ≤ R ∧ R ≤ 9223372036854775807 := real.agg (i := 0) rfl (j := 0) rfl
    have hP : 0 ≤ P ∧ P ≤ 18446744073709551615 := real.agg (i := 0) rfl (j := 1) rfl
    have hQ : 0 ≤ Q ∧ Q ≤ 18446744073709551615 := real.agg (i := 0) rfl (j := 2) rfl
    rw [cf54]
    have no : ¬ (1 ≤ R ∧ R ≤ 2147484 ∧ 0 ≤ P ∧ P ≤ 16 ∧ 0 ≤ Q ∧ Q ≤ 16 ∧ -R ≤ F ∧ F ≤ R) → some (Res.ret (.bool false) []) = (some (Res.ret (.bool (mayB R P Q F)) []) : Out) := fun h => by rw [mayB_f h]
    refine dc (fun c1 => dc (fun c2 => dc (fun c3 => dc (fun c4 => dc (fun c5 => ?_) (fun c => no (by omega))) (fun c => no (by omega))) (fun c => no (by omega))) (fun c => no (by omega))) (fun c => no (by omega))
    rw [swrap (by omega) (by omega)]
    by_cases c6 : F ≥ 0 - R
    · rw [dec_t c6, mayB_iff.2 (by omega)]
    · rw [dec_f c6]; exact no (by omega)
  · cases hF
theorem S101_ok : SpecOK Try.prog S101 := mkS_cons ok19 (mkS_cons ok23 (mkS_cons ok33 (mkS_cons ok34 (mkS_nil _))))
theorem ok101 : EntryOK Try.prog 101 F101 := by
  refine EntryOK.of_fn S101_ok follows_ok Try.func101 (by kernel_rfl) (by kernel_rfl) ?_
  intro args h k out hF
  unfold F101 at hF
  split at hF
  · rename_i R P Q F o x
    obtain ⟨hb, hF2⟩ := bif_t hF
    have hb := of_decide_eq_true hb
    refine ⟨_, _, hF2, fun real => ⟨noL, noL_ok, ?_⟩⟩
    have hR : -9223372036854775808 ≤ R ∧ R ≤ 9223372036854775807 := real.agg (i := 0) rfl (j := 0) rfl
    refine (cf101 R P Q F o x).trans ?_
    rw [swrap (x := 0 - R) (by omega) (by omega), Int.zero_sub]
    rfl
  · cases hF
theorem S52_ok : SpecOK Try.prog S52 := mkS_cons ok53 (mkS_cons ok101 (mkS_nil _))
theorem ok52 : EntryOK Try.prog 52 F52 := by
  refine EntryOK.of_fn S52_ok follows_ok Try.func52 (by kernel_rfl) (by kernel_rfl) ?_
  intro args h k out hF
  unfold F52 at hF
  split at hF
  · rename_i R P Q F o x
    cases hb : (mayB R P Q F && decide (0 < x)) with
    | false =>
      rw [hb, condF] at hF
      refine ⟨_, _, hF, fun _ => ⟨noL, noL_ok, ?_⟩⟩
      refine (cf52 R P Q F o x).trans ?_
      cases hm : mayB R P Q F with
      | false => rfl
      | true =>
        rw [hm, Bool.true_and, decide_eq_false_iff_not] at hb
        rw [dec_t (show x ≤ 0 by omega)]
        rfl
    | true =>
      rw [hb, condT] at hF
      refine ⟨_, _, hF, fun _ => ⟨noL, noL_ok, ?_⟩⟩
      simp only [Bool.and_eq_true, decide_eq_true_eq] at hb
      refine (cf52 R P Q F o x).trans ?_
      rw [hb.1, dec_f (show ¬ x ≤ 0 by omega), dec_t (mayB_iff.1 hb.1).1]
      rfl
  · cases hF
theorem S55_ok : SpecOK Try.prog S55 := mkS_cons ok19 (mkS_nil _)
theorem ok55 : EntryOK Try.prog 55 F55 := by
  refine EntryOK.of_fn S55_ok follows_ok Try.func55 (by kernel_rfl) (by kernel_rfl) ?_
  intro args h k out hF
  unfold F55 at hF
  split at hF
  · exact ⟨_, _, hF, fun _ => ⟨noL, noL_ok, by rw [cf55]⟩⟩
  · cases hF
theorem ok56 : EntryOK Try.prog 56 F55 := by
  refine EntryOK.of_fn Sn_ok follows_ok Try.func56 (by kernel_rfl) (by kernel_rfl) ?_
  intro args h k out hF
  unfold F55 at hF
  split at hF
  · rename_i f x
    refine ⟨_, _, hF, fun real => ⟨noL, noL_ok, ?_⟩⟩
    have hf := i64r real 0 rfl
    have hx := i64r real 1 rfl
    have hm := mul_abs (a := f) (b := x) (k := 9223372036854775808) (by omega) (by omega)
    rw [cf56]
    simp (disch := omega) only [numW_digits, sgn_self, nb4, lb4, lb4', nb232, ble_self, Bool.and_self, condT]
    unfold downI
    rw [if_neg (by decide), Int.mul_comm x]
  · cases hF
theorem ok102 : EntryOK Try.prog 102 F102 := by
  refine EntryOK.of_fn Sn_ok follows_ok Try.func102 (by kernel_rfl) (by kernel_rfl) ?_
  intro args h k out hF
  unfold F102 at hF
  split at hF
  · rename_i n b
    obtain ⟨hb, hF2⟩ := bif_t hF
    simp only [Bool.and_eq_true, decide_eq_true_eq] at hb
    refine ⟨_, _, hF2, fun real => ⟨noL, noL_ok, ?_⟩⟩
    have hn := i64r real 0 rfl
    have hp : 2 ^ b.toNat < BB ^ 4 := pow_lt_BB (by omega)
    have p4 : BB ^ 4 = 340282366920938463463374607431768211456 := rfl
    rw [p4] at hp
    have p0 : 0 < 2 ^ b.toNat := Nat.pow_pos (by decide)
    have hd := div_abs_le (z := n) p0
    have e : ((2 ^ b.toNat : Nat) : Int) = (2 : Int) ^ b.toNat := by rw [Int.natCast_pow]; rfl
    rw [cf102, dec_t hb.1, dec_t (show b ≤ 1000 by omega)]
    simp (disch := omega) only [numW_digits, sgn_self, nb4, lb4', blt_t p0, ble_self, Bool.and_self, condT]
    rw [e]
  · cases hF
end Go.Proofs.Ytfgehfnlkakioaa.VC

/- The document's Step, in pieces; known; the law's closed form. -/
namespace Go.Proofs.Ytfgehfnlkakioaa.VC
open Go Go.Proofs

abbrev bl (R P Q F : Int) : Option Blk := some ⟨true, 4, [.ints .i64 1 [R], .ints .u64 2 [P, Q], .ints .i64 1 [F]]⟩
abbrev zC (id : Nat) (z : Int) : Option Blk := some ⟨true, 2, [.vals [.bool (decide (z < 0)), .slice (some ⟨id, 0, none⟩) (digits z.natAbs).length 2]]⟩
--CF cf58p0 (R P Q F o x : Int) :: pieceK Try.prog S58 noL Try.f58.ntmps 0 [1, 2, 3, 6] (fstC (bodyOf Try.f58)) (slots0 0 [lV R P Q F, w63 o, w63 x]) []
theorem cf58p0 (R P Q F o x : Int) : pieceK Try.prog S58 noL Try.f58.ntmps 0 [1, 2, 3, 6] (fstC (bodyOf Try.f58)) (slots0 0 [lV R P Q F, w63 o, w63 x]) [] =
     (some (Res.at Exit.normal [(1, some (Value.int IntKind.i64 o)), (2, some (Value.int IntKind.i64 x)), (3, some (Value.pointer (some (Addr.mk 0 0 none)))), (6, some (Value.pointer (some (Addr.mk 1 0
     none))))] [some (Blk.mk true 4 [Seg.ints IntKind.i64 1 [R], Seg.ints IntKind.u64 2 [P, Q], Seg.ints IntKind.i64 1 [F]]), some (Blk.mk true 4 [Seg.ints IntKind.i64 1 [0], Seg.ints IntKind.u64 2 [0, 0],
     Seg.ints IntKind.i64 1 [0]])])) := by kernel_rfl
--CFEND
--CF cf58p1 (R P Q F o x : Int) :: pieceK Try.prog S58 noL Try.f58.ntmps 0 [1, 3, 6, 7] (fstC (sndC (bodyOf Try.f58))) (zipS [1, 2, 3, 6] [w63 o, w63 x, pt 0, pt 1]) [bl R P Q F, bl 0 0 0 0]
theorem cf58p1 (R P Q F o x : Int) : pieceK Try.prog S58 noL Try.f58.ntmps 0 [1, 3, 6, 7] (fstC (sndC (bodyOf Try.f58))) (zipS [1, 2, 3, 6] [w63 o, w63 x, pt 0, pt 1]) [bl R P Q F, bl 0 0 0 0] =
     (bif normB (digits o.natAbs).length (digits o.natAbs) && normB 2 (digits 4294967296) && (digits o.natAbs).length.ble (digits o.natAbs).length && true && (digits o.natAbs).length.ble (OfNat.ofNat
     400000) && true then bif normB (digits (sgn (decide (o < 0)) (numW (digits o.natAbs).length (digits o.natAbs)) * 4294967296).natAbs).length (digits (sgn (decide (o < 0)) (numW (digits o.natAbs).length
     (digits o.natAbs)) * 4294967296).natAbs) && normB (digits x.natAbs).length (digits x.natAbs) && (digits (sgn (decide (o < 0)) (numW (digits o.natAbs).length (digits o.natAbs)) *
     4294967296).natAbs).length.ble (digits (sgn (decide (o < 0)) (numW (digits o.natAbs).length (digits o.natAbs)) * 4294967296).natAbs).length && (digits x.natAbs).length.ble (digits x.natAbs).length &&
     (digits (sgn (decide (o < 0)) (numW (digits o.natAbs).length (digits o.natAbs)) * 4294967296).natAbs).length.ble (OfNat.ofNat 399999) && (digits x.natAbs).length.ble (OfNat.ofNat 399999) && Nat.blt 0
     (numW (digits x.natAbs).length (digits x.natAbs)) && !decide (x < 0) then some (Res.at Exit.normal [(1, some (Value.int IntKind.i64 o)), (3, some (Value.pointer (some (Addr.mk 0 0 none)))), (6, some
     (Value.pointer (some (Addr.mk 1 0 none)))), (7, some (Value.pointer (some (Addr.mk 2 0 none))))] [some (Blk.mk true 4 [Seg.ints IntKind.i64 1 [R], Seg.ints IntKind.u64 2 [P, Q], Seg.ints IntKind.i64 1
     [F]]), some (Blk.mk true 4 [Seg.ints IntKind.i64 1 [0], Seg.ints IntKind.u64 2 [0, 0], Seg.ints IntKind.i64 1 [0]]), some (Blk.mk true 2 [Seg.vals [Value.bool (decide (sgn (decide (sgn (decide (o <
     0)) (numW (digits o.natAbs).length (digits o.natAbs)) * 4294967296 < 0)) (numW (digits (sgn (decide (o < 0)) (numW (digits o.natAbs).length (digits o.natAbs)) * 4294967296).natAbs).length (digits (sgn
     (decide (o < 0)) (numW (digits o.natAbs).length (digits o.natAbs)) * 4294967296).natAbs)) / (↑(numW (digits x.natAbs).length (digits x.natAbs)) : Int) < 0)), Value.slice (some (Addr.mk 3 0 none))
     (digits (sgn (decide (sgn (decide (o < 0)) (numW (digits o.natAbs).length (digits o.natAbs)) * 4294967296 < 0)) (numW (digits (sgn (decide (o < 0)) (numW (digits o.natAbs).length (digits o.natAbs)) *
     4294967296).natAbs).length (digits (sgn (decide (o < 0)) (numW (digits o.natAbs).length (digits o.natAbs)) * 4294967296).natAbs)) / (↑(numW (digits x.natAbs).length (digits x.natAbs)) :
     Int)).natAbs).length 2]]), some (Blk.mk true 1 [Seg.ints IntKind.u64 (digits (sgn (decide (sgn (decide (o < 0)) (numW (digits o.natAbs).length (digits o.natAbs)) * 4294967296 < 0)) (numW (digits (sgn
     (decide (o < 0)) (numW (digits o.natAbs).length (digits o.natAbs)) * 4294967296).natAbs).length (digits (sgn (decide (o < 0)) (numW (digits o.natAbs).length (digits o.natAbs)) * 4294967296).natAbs)) /
     (↑(numW (digits x.natAbs).length (digits x.natAbs)) : Int)).natAbs).length (digits (sgn (decide (sgn (decide (o < 0)) (numW (digits o.natAbs).length (digits o.natAbs)) * 4294967296 < 0)) (numW (digits
     (sgn (decide (o < 0)) (numW (digits o.natAbs).length (digits o.natAbs)) * 4294967296).natAbs).length (digits (sgn (decide (o < 0)) (numW (digits o.natAbs).length (digits o.natAbs)) *
     4294967296).natAbs)) / (↑(numW (digits x.natAbs).length (digits x.natAbs)) : Int)).natAbs)])]) else none else none) := by kernel_rfl
--CFEND
--CF cf58p2 (R P Q F o z : Int) :: pieceK Try.prog S58 noL Try.f58.ntmps 0 [1, 3, 6, 9] (fstC (sndC (sndC (bodyOf Try.f58)))) (zipS [1, 3, 6, 7] [w63 o, pt 0, pt 1, pt 2]) [bl R P Q F, bl 0 0 0 0, zC 3 z, zB z]
theorem cf58p2 (R P Q F o z : Int) : pieceK Try.prog S58 noL Try.f58.ntmps 0 [1, 3, 6, 9] (fstC (sndC (sndC (bodyOf Try.f58)))) (zipS [1, 3, 6, 7] [w63 o, pt 0, pt 1, pt 2]) [bl R P Q F, bl 0 0 0 0, zC 3 z, zB z] =
     (bif normB (digits z.natAbs).length (digits z.natAbs) && (digits z.natAbs).length.ble (digits z.natAbs).length then bif decide (0 ≤ Q) && decide (Q ≤ 100) then bif normB (digits F.natAbs).length
     (digits F.natAbs) && normB (digits (hold (sgn (decide (z < 0)) (numW (digits z.natAbs).length (digits z.natAbs))) / 2 ^ Q.toNat).natAbs).length (digits (hold (sgn (decide (z < 0)) (numW (digits
     z.natAbs).length (digits z.natAbs))) / 2 ^ Q.toNat).natAbs) && (digits F.natAbs).length.ble (digits F.natAbs).length && (digits (hold (sgn (decide (z < 0)) (numW (digits z.natAbs).length (digits
     z.natAbs))) / 2 ^ Q.toNat).natAbs).length.ble (digits (hold (sgn (decide (z < 0)) (numW (digits z.natAbs).length (digits z.natAbs))) / 2 ^ Q.toNat).natAbs).length && (digits F.natAbs).length.ble
     (OfNat.ofNat 400000) && (digits (hold (sgn (decide (z < 0)) (numW (digits z.natAbs).length (digits z.natAbs))) / 2 ^ Q.toNat).natAbs).length.ble (OfNat.ofNat 400000) then bif normB (digits (sgn
     (decide (F < 0)) (numW (digits F.natAbs).length (digits F.natAbs)) + sgn (decide (hold (sgn (decide (z < 0)) (numW (digits z.natAbs).length (digits z.natAbs))) / 2 ^ Q.toNat < 0)) (numW (digits (hold
     (sgn (decide (z < 0)) (numW (digits z.natAbs).length (digits z.natAbs))) / 2 ^ Q.toNat).natAbs).length (digits (hold (sgn (decide (z < 0)) (numW (digits z.natAbs).length (digits z.natAbs))) / 2 ^
     Q.toNat).natAbs))).natAbs).length (digits (sgn (decide (F < 0)) (numW (digits F.natAbs).length (digits F.natAbs)) + sgn (decide (hold (sgn (decide (z < 0)) (numW (digits z.natAbs).length (digits
     z.natAbs))) / 2 ^ Q.toNat < 0)) (numW (digits (hold (sgn (decide (z < 0)) (numW (digits z.natAbs).length (digits z.natAbs))) / 2 ^ Q.toNat).natAbs).length (digits (hold (sgn (decide (z < 0)) (numW
     (digits z.natAbs).length (digits z.natAbs))) / 2 ^ Q.toNat).natAbs))).natAbs) && (digits (sgn (decide (F < 0)) (numW (digits F.natAbs).length (digits F.natAbs)) + sgn (decide (hold (sgn (decide (z <
     0)) (numW (digits z.natAbs).length (digits z.natAbs))) / 2 ^ Q.toNat < 0)) (numW (digits (hold (sgn (decide (z < 0)) (numW (digits z.natAbs).length (digits z.natAbs))) / 2 ^ Q.toNat).natAbs).length
     (digits (hold (sgn (decide (z < 0)) (numW (digits z.natAbs).length (digits z.natAbs))) / 2 ^ Q.toNat).natAbs))).natAbs).length.ble (digits (sgn (decide (F < 0)) (numW (digits F.natAbs).length (digits
     F.natAbs)) + sgn (decide (hold (sgn (decide (z < 0)) (numW (digits z.natAbs).length (digits z.natAbs))) / 2 ^ Q.toNat < 0)) (numW (digits (hold (sgn (decide (z < 0)) (numW (digits z.natAbs).length
     (digits z.natAbs))) / 2 ^ Q.toNat).natAbs).length (digits (hold (sgn (decide (z < 0)) (numW (digits z.natAbs).length (digits z.natAbs))) / 2 ^ Q.toNat).natAbs))).natAbs).length then some (Res.at
     Exit.normal [(1, some (Value.int IntKind.i64 o)), (3, some (Value.pointer (some (Addr.mk 0 0 none)))), (6, some (Value.pointer (some (Addr.mk 1 0 none)))), (9, some (Value.int IntKind.i64 (hold (sgn
     (decide (sgn (decide (F < 0)) (numW (digits F.natAbs).length (digits F.natAbs)) + sgn (decide (hold (sgn (decide (z < 0)) (numW (digits z.natAbs).length (digits z.natAbs))) / 2 ^ Q.toNat < 0)) (numW
     (digits (hold (sgn (decide (z < 0)) (numW (digits z.natAbs).length (digits z.natAbs))) / 2 ^ Q.toNat).natAbs).length (digits (hold (sgn (decide (z < 0)) (numW (digits z.natAbs).length (digits
     z.natAbs))) / 2 ^ Q.toNat).natAbs)) < 0)) (numW (digits (sgn (decide (F < 0)) (numW (digits F.natAbs).length (digits F.natAbs)) + sgn (decide (hold (sgn (decide (z < 0)) (numW (digits z.natAbs).length
     (digits z.natAbs))) / 2 ^ Q.toNat < 0)) (numW (digits (hold (sgn (decide (z < 0)) (numW (digits z.natAbs).length (digits z.natAbs))) / 2 ^ Q.toNat).natAbs).length (digits (hold (sgn (decide (z < 0))
     (numW (digits z.natAbs).length (digits z.natAbs))) / 2 ^ Q.toNat).natAbs))).natAbs).length (digits (sgn (decide (F < 0)) (numW (digits F.natAbs).length (digits F.natAbs)) + sgn (decide (hold (sgn
     (decide (z < 0)) (numW (digits z.natAbs).length (digits z.natAbs))) / 2 ^ Q.toNat < 0)) (numW (digits (hold (sgn (decide (z < 0)) (numW (digits z.natAbs).length (digits z.natAbs))) / 2 ^
     Q.toNat).natAbs).length (digits (hold (sgn (decide (z < 0)) (numW (digits z.natAbs).length (digits z.natAbs))) / 2 ^ Q.toNat).natAbs))).natAbs))))))] [some (Blk.mk true 4 [Seg.ints IntKind.i64 1 [R],
     Seg.ints IntKind.u64 2 [P, Q], Seg.ints IntKind.i64 1 [F]]), some (Blk.mk true 4 [Seg.ints IntKind.i64 1 [0], Seg.ints IntKind.u64 2 [0, 0], Seg.ints IntKind.i64 1 [0]])]) else none else none else
     none else none) := by kernel_rfl
--CFEND
--CF cf58p3 (R P Q F o f : Int) :: pieceK Try.prog S58 noL Try.f58.ntmps 0 [3, 6, 9] (fstC (sndC (sndC (sndC (bodyOf Try.f58))))) (zipS [1, 3, 6, 9] [w63 o, pt 0, pt 1, w63 f]) [bl R P Q F, bl 0 0 0 0]
theorem cf58p3 (R P Q F o f : Int) : pieceK Try.prog S58 noL Try.f58.ntmps 0 [3, 6, 9] (fstC (sndC (sndC (sndC (bodyOf Try.f58))))) (zipS [1, 3, 6, 9] [w63 o, pt 0, pt 1, w63 f]) [bl R P Q F, bl 0 0 0 0] =
     (bif decide (0 ≤ P) && decide (P ≤ 100) then bif normB (digits f.natAbs).length (digits f.natAbs) && normB (digits (o / 2 ^ P.toNat).natAbs).length (digits (o / 2 ^ P.toNat).natAbs) && (digits
     f.natAbs).length.ble (digits f.natAbs).length && (digits (o / 2 ^ P.toNat).natAbs).length.ble (digits (o / 2 ^ P.toNat).natAbs).length && (digits f.natAbs).length.ble (OfNat.ofNat 400000) && (digits
     (o / 2 ^ P.toNat).natAbs).length.ble (OfNat.ofNat 400000) then bif normB (digits (sgn (decide (f < 0)) (numW (digits f.natAbs).length (digits f.natAbs)) + sgn (decide (o / 2 ^ P.toNat < 0)) (numW
     (digits (o / 2 ^ P.toNat).natAbs).length (digits (o / 2 ^ P.toNat).natAbs))).natAbs).length (digits (sgn (decide (f < 0)) (numW (digits f.natAbs).length (digits f.natAbs)) + sgn (decide (o / 2 ^
     P.toNat < 0)) (numW (digits (o / 2 ^ P.toNat).natAbs).length (digits (o / 2 ^ P.toNat).natAbs))).natAbs) && (digits (sgn (decide (f < 0)) (numW (digits f.natAbs).length (digits f.natAbs)) + sgn
     (decide (o / 2 ^ P.toNat < 0)) (numW (digits (o / 2 ^ P.toNat).natAbs).length (digits (o / 2 ^ P.toNat).natAbs))).natAbs).length.ble (digits (sgn (decide (f < 0)) (numW (digits f.natAbs).length
     (digits f.natAbs)) + sgn (decide (o / 2 ^ P.toNat < 0)) (numW (digits (o / 2 ^ P.toNat).natAbs).length (digits (o / 2 ^ P.toNat).natAbs))).natAbs).length then some (Res.at Exit.normal [(3, some
     (Value.pointer (some (Addr.mk 0 0 none)))), (6, some (Value.pointer (some (Addr.mk 1 0 none)))), (9, some (Value.int IntKind.i64 (hold (sgn (decide (sgn (decide (f < 0)) (numW (digits f.natAbs).length
     (digits f.natAbs)) + sgn (decide (o / 2 ^ P.toNat < 0)) (numW (digits (o / 2 ^ P.toNat).natAbs).length (digits (o / 2 ^ P.toNat).natAbs)) < 0)) (numW (digits (sgn (decide (f < 0)) (numW (digits
     f.natAbs).length (digits f.natAbs)) + sgn (decide (o / 2 ^ P.toNat < 0)) (numW (digits (o / 2 ^ P.toNat).natAbs).length (digits (o / 2 ^ P.toNat).natAbs))).natAbs).length (digits (sgn (decide (f < 0))
     (numW (digits f.natAbs).length (digits f.natAbs)) + sgn (decide (o / 2 ^ P.toNat < 0)) (numW (digits (o / 2 ^ P.toNat).natAbs).length (digits (o / 2 ^ P.toNat).natAbs))).natAbs))))))] [some (Blk.mk
     true 4 [Seg.ints IntKind.i64 1 [R], Seg.ints IntKind.u64 2 [P, Q], Seg.ints IntKind.i64 1 [F]]), some (Blk.mk true 4 [Seg.ints IntKind.i64 1 [0], Seg.ints IntKind.u64 2 [0, 0], Seg.ints IntKind.i64 1
     [0]])]) else none else none else none) := by kernel_rfl
--CFEND
--CF cf58p4 (R P Q F f : Int) :: tailK Try.prog S58 noL Try.f58 0 (sndC (sndC (sndC (sndC (bodyOf Try.f58))))) (zipS [3, 6, 9] [pt 0, pt 1, w63 f]) [bl R P Q F, bl 0 0 0 0]
theorem cf58p4 (R P Q F f : Int) : tailK Try.prog S58 noL Try.f58 0 (sndC (sndC (sndC (sndC (bodyOf Try.f58))))) (zipS [3, 6, 9] [pt 0, pt 1, w63 f]) [bl R P Q F, bl 0 0 0 0] =
     (bif decide (f > R) then bif decide (R < IntKind.i64.wrap (0 - R)) then some (Res.ret (Value.agg (Array.mk [Value.int IntKind.i64 R, Value.int IntKind.u64 P, Value.int IntKind.u64 Q, Value.int
     IntKind.i64 (IntKind.i64.wrap (0 - R))])) []) else some (Res.ret (Value.agg (Array.mk [Value.int IntKind.i64 R, Value.int IntKind.u64 P, Value.int IntKind.u64 Q, Value.int IntKind.i64 R])) []) else
     bif decide (f < IntKind.i64.wrap (0 - R)) then some (Res.ret (Value.agg (Array.mk [Value.int IntKind.i64 R, Value.int IntKind.u64 P, Value.int IntKind.u64 Q, Value.int IntKind.i64 (IntKind.i64.wrap (0
     - R))])) []) else some (Res.ret (Value.agg (Array.mk [Value.int IntKind.i64 R, Value.int IntKind.u64 P, Value.int IntKind.u64 Q, Value.int IntKind.i64 f])) [])) := by kernel_rfl
--CFEND
end Go.Proofs.Ytfgehfnlkakioaa.VC

/- The document's Step; known; the law's closed form. -/
namespace Go.Proofs.Ytfgehfnlkakioaa.VC
open Go Go.Proofs

theorem hold_rng (z : Int) : -9223372036854775808 ≤ hold z ∧ hold z ≤ 9223372036854775807 := by
  unfold hold
  split
  · omega
  · split <;> omega
theorem shr_abs (n : Int) (k : Nat) : (n / 2 ^ k).natAbs ≤ n.natAbs := by
  have := div_abs_le (z := n) (b := 2 ^ k) (Nat.pow_pos (by decide))
  rwa [show ((2 ^ k : Nat) : Int) = (2 : Int) ^ k by rw [Int.natCast_pow]; rfl] at this

noncomputable def F58 : FSpec := fun args h k => match args, h with
  | [.agg ⟨[.int .i64 R, .int .u64 P, .int .u64 Q, .int .i64 F]⟩, .int .i64 o, .int .i64 x], [] =>
    bif mayB R P Q F && decide (0 < x) then k (lV R P Q (stepZ R P Q F o x)) [] else none
  | _, _ => none
theorem S58_ok : SpecOK Try.prog S58 := mkS_cons ok27 (mkS_cons ok28 (mkS_cons ok29 (mkS_cons ok31 (mkS_cons ok32 (mkS_cons ok35 (mkS_cons ok102 (mkS_nil _)))))))
theorem ok58 : EntryOK Try.prog 58 F58 := by
  refine EntryOK.of_runs Try.func58 (by kernel_rfl) (by kernel_rfl) ?_
  intro args h k out hF
  unfold F58 at hF
  split at hF
  · rename_i R P Q F o x
    obtain ⟨hb, hF2⟩ := bif_t hF
    simp only [Bool.and_eq_true, decide_eq_true_eq] at hb
    obtain ⟨r1, r2, p1, p2, q1, q2, f1, f2⟩ := mayB_iff.1 hb.1
    refine ⟨_, _, hF2, fun real => ⟨ble_true (show Nat.ble 3 Try.f58.ntmps = true by kernel_rfl), ?_⟩⟩
    show RunsTo Try.prog Try.f58 0 (bodyOf Try.f58) _ _ _ _
    have ho : -9223372036854775808 ≤ o ∧ o ≤ 9223372036854775807 := i64r real 1 rfl
    have hx : -9223372036854775808 ≤ x ∧ x ≤ 9223372036854775807 := i64r real 2 rfl
    obtain ⟨X, rfl⟩ : ∃ X : Nat, x = (X : Int) := ⟨x.natAbs, by omega⟩
    have hX : 0 < X := by omega
    have hz := div_abs_le (z := o * 4294967296) hX
    have es : stepZ R P Q F o (X : Int) = clampI (hold (hold (F + hold (o * 4294967296 / (X : Int)) / 2 ^ Q.toNat) + o / 2 ^ P.toNat)) (-R) R := by
      unfold stepZ downI
      rw [if_neg (by omega), show min Q 63 = Q by omega, show min P 63 = P by omega]
    rw [es]
    -- the slots and the memory between the pieces
    refine RunsTo.piece S58_ok follows_ok (L := noL) (by kernel_rfl) noL_ok (live := [1, 2, 3, 6]) (vs1 := [w63 o, w63 X, pt 0, pt 1]) (h1 := [bl R P Q F, bl 0 0 0 0]) (cf58p0 R P Q F o X) ?_
    refine RunsTo.piece S58_ok follows_ok (L := noL) (by kernel_rfl) noL_ok (live := [1, 3, 6, 7]) (vs1 := [w63 o, pt 0, pt 1, pt 2]) (h1 := [bl R P Q F, bl 0 0 0 0, zC 3 (o * 4294967296 / (X : Int)), zB (o * 4294967296 / (X : Int))]) ?_ ?_
    · rw [cf58p1]
      simp (disch := omega) only [numW_digits, sgn_self, nb4, lb4, lb4', nb232, ble_self, Bool.and_self, condT, Int.natAbs_natCast, blt_t hX, dec_f (show ¬ (X : Int) < 0 by omega), Bool.not_false]
      rfl
    · generalize o * 4294967296 / (X : Int) = z at *
      have hh := hold_rng z
      have hd := shr_abs (hold z) Q.toNat
      refine RunsTo.piece S58_ok follows_ok (L := noL) (by kernel_rfl) noL_ok (live := [1, 3, 6, 9]) (vs1 := [w63 o, pt 0, pt 1, w63 (hold (F + hold z / 2 ^ Q.toNat))]) (h1 := [bl R P Q F, bl 0 0 0 0]) ?_ ?_
      · rw [cf58p2]
        simp (disch := omega) only [numW_digits, sgn_self, nb4, lb4, ble_self, Bool.and_self, condT, dec_t (show 0 ≤ Q by omega), dec_t (show Q ≤ 100 by omega)]
        rfl
      · have hg := hold_rng (F + hold z / 2 ^ Q.toNat)
        generalize hold (F + hold z / 2 ^ Q.toNat) = g at *
        have hp := shr_abs o P.toNat
        refine RunsTo.piece S58_ok follows_ok (L := noL) (by kernel_rfl) noL_ok (live := [3, 6, 9]) (vs1 := [pt 0, pt 1, w63 (hold (g + o / 2 ^ P.toNat))]) (h1 := [bl R P Q F, bl 0 0 0 0]) ?_ ?_
        · rw [cf58p3]
          simp (disch := omega) only [numW_digits, sgn_self, nb4, lb4, ble_self, Bool.and_self, condT, dec_t (show 0 ≤ P by omega), dec_t (show P ≤ 100 by omega)]
          rfl
        · refine RunsTo.tail S58_ok follows_ok (L := noL) noL_ok ?_
          generalize hold (g + o / 2 ^ P.toNat) = y
          refine (cf58p4 R P Q F y).trans ?_
          rw [swrap (x := 0 - R) (by omega) (by omega), Int.zero_sub]
          have put : ∀ {a b : Int}, a = b → (some (Res.ret (lV R P Q a) []) : Out) = some (Res.ret (lV R P Q b) []) := fun e => by rw [e]
          unfold clampI
          refine dc (fun c => dc (fun c2 => by omega) (fun _ => put ?_)) (fun c => dc (fun c2 => put ?_) (fun c2 => put ?_))
          · rw [if_neg (by omega), if_pos c]
          · rw [if_pos c2]
          · rw [if_neg c2, if_neg c]
  · cases hF
end Go.Proofs.Ytfgehfnlkakioaa.VC

/- LoopSteps: the law. -/
namespace Go.Proofs.Ytfgehfnlkakioaa.VC
open Go Go.Proofs

noncomputable def S57 : Spec := mkS [(50, false, F50), (52, false, F52), (55, false, F55)]
theorem S57_ok : SpecOK Try.prog S57 := mkS_cons ok50 (mkS_cons ok52 (mkS_cons ok55 (mkS_nil _)))
--CF cf57 . :: fnK Try.prog S57 noL Try.f57 [] []
theorem cf57  : fnK Try.prog S57 noL Try.f57 [] [] =
     (bif mayB 2147484 16 2 0 && true then some (Res.ret (Value.bool true) []) else some (Res.ret (Value.bool false) [])) := by kernel_rfl
--CFEND
noncomputable def S10 : Spec := mkS [(50, false, F50), (51, false, F51), (52, false, F52), (53, false, F53), (54, false, F53), (55, false, F55), (56, false, F55), (57, false, F22), (58, false, F58)]
--CF cf10 (R P Q F o x r : Int) :: fnK Try.prog S10 noL Try.f10 [lV R P Q F, w63 o, w63 x, w63 r] []
theorem cf10 (R P Q F o x r : Int) : fnK Try.prog S10 noL Try.f10 [lV R P Q F, w63 o, w63 x, w63 r] [] =
     (bif decide (1 ≤ r) && decide (r ≤ 500) then bif decide (r ≥ 1) then bif decide (r ≤ 500) then bif upI r 4294967296 1000000 != upI r 4294967296 1000000 then some (Res.ret (Value.bool false) []) else
     bif mayB R P Q F && decide (0 < x) then bif !mayB R P Q F == mayB R P Q F then some (Res.ret (Value.bool false) []) else bif downI x o 4294967296 != downI x o 4294967296 then some (Res.ret (Value.bool
     false) []) else bif !mayB R P Q F then bif R == 0 && (P == 0 && (Q == 0 && (stepZ R P Q F o x == 0 && true))) then some (Res.ret (Value.bool false) []) else some (Res.ret (Value.bool false) []) else
     bif decide (x ≤ 0) then bif R == 0 && (P == 0 && (Q == 0 && (stepZ R P Q F o x == 0 && true))) then some (Res.ret (Value.bool false) []) else some (Res.ret (Value.bool false) []) else bif mayB R P Q F
     && decide (0 < x) then bif R == R && (P == P && (Q == Q && (stepZ R P Q F o x == stepZ R P Q F o x && true))) then some (Res.ret (Value.bool true) []) else some (Res.ret (Value.bool false) []) else
     none else bif !mayB R P Q F == mayB R P Q F then some (Res.ret (Value.bool false) []) else bif downI x o 4294967296 != downI x o 4294967296 then some (Res.ret (Value.bool false) []) else bif !mayB R P
     Q F then some (Res.ret (Value.bool true) []) else bif decide (x ≤ 0) then some (Res.ret (Value.bool true) []) else bif mayB R P Q F && decide (0 < x) then bif 0 == R && (0 == P && (0 == Q && (0 ==
     stepZ R P Q F o x && true))) then some (Res.ret (Value.bool false) []) else some (Res.ret (Value.bool false) []) else none else some (Res.ret (Value.bool false) []) else some (Res.ret (Value.bool
     false) []) else bif decide (r ≥ 1) then bif decide (r ≤ 500) then some (Res.ret (Value.bool false) []) else bif mayB R P Q F && decide (0 < x) then bif !mayB R P Q F == mayB R P Q F then some (Res.ret
     (Value.bool false) []) else bif downI x o 4294967296 != downI x o 4294967296 then some (Res.ret (Value.bool false) []) else bif !mayB R P Q F then bif R == 0 && (P == 0 && (Q == 0 && (stepZ R P Q F o
     x == 0 && true))) then some (Res.ret (Value.bool false) []) else some (Res.ret (Value.bool false) []) else bif decide (x ≤ 0) then bif R == 0 && (P == 0 && (Q == 0 && (stepZ R P Q F o x == 0 &&
     true))) then some (Res.ret (Value.bool false) []) else some (Res.ret (Value.bool false) []) else bif mayB R P Q F && decide (0 < x) then bif R == R && (P == P && (Q == Q && (stepZ R P Q F o x == stepZ
     R P Q F o x && true))) then some (Res.ret (Value.bool true) []) else some (Res.ret (Value.bool false) []) else none else bif !mayB R P Q F == mayB R P Q F then some (Res.ret (Value.bool false) [])
     else bif downI x o 4294967296 != downI x o 4294967296 then some (Res.ret (Value.bool false) []) else bif !mayB R P Q F then some (Res.ret (Value.bool true) []) else bif decide (x ≤ 0) then some
     (Res.ret (Value.bool true) []) else bif mayB R P Q F && decide (0 < x) then bif 0 == R && (0 == P && (0 == Q && (0 == stepZ R P Q F o x && true))) then some (Res.ret (Value.bool false) []) else some
     (Res.ret (Value.bool false) []) else none else bif mayB R P Q F && decide (0 < x) then bif !mayB R P Q F == mayB R P Q F then some (Res.ret (Value.bool false) []) else bif downI x o 4294967296 !=
     downI x o 4294967296 then some (Res.ret (Value.bool false) []) else bif !mayB R P Q F then bif R == 0 && (P == 0 && (Q == 0 && (stepZ R P Q F o x == 0 && true))) then some (Res.ret (Value.bool false)
     []) else some (Res.ret (Value.bool false) []) else bif decide (x ≤ 0) then bif R == 0 && (P == 0 && (Q == 0 && (stepZ R P Q F o x == 0 && true))) then some (Res.ret (Value.bool false) []) else some
     (Res.ret (Value.bool false) []) else bif mayB R P Q F && decide (0 < x) then bif R == R && (P == P && (Q == Q && (stepZ R P Q F o x == stepZ R P Q F o x && true))) then some (Res.ret (Value.bool true)
     []) else some (Res.ret (Value.bool false) []) else none else bif !mayB R P Q F == mayB R P Q F then some (Res.ret (Value.bool false) []) else bif downI x o 4294967296 != downI x o 4294967296 then some
     (Res.ret (Value.bool false) []) else bif !mayB R P Q F then some (Res.ret (Value.bool true) []) else bif decide (x ≤ 0) then some (Res.ret (Value.bool true) []) else bif mayB R P Q F && decide (0 < x)
     then bif 0 == R && (0 == P && (0 == Q && (0 == stepZ R P Q F o x && true))) then some (Res.ret (Value.bool false) []) else some (Res.ret (Value.bool false) []) else none) := by kernel_rfl
--CFEND

theorem ok57 : EntryOK Try.prog 57 F22 := by
  refine EntryOK.of_fn S57_ok follows_ok Try.func57 (by kernel_rfl) (by kernel_rfl) ?_
  intro args h k out hF
  unfold F22 at hF
  split at hF
  · exact ⟨_, _, hF, fun _ => ⟨noL, noL_ok, by rw [cf57, mayB_iff.2 (by omega)]; rfl⟩⟩
  · cases hF
theorem S10_ok : SpecOK Try.prog S10 := mkS_cons ok50 (mkS_cons ok51 (mkS_cons ok52 (mkS_cons ok53 (mkS_cons ok54 (mkS_cons ok55 (mkS_cons ok56 (mkS_cons ok57 (mkS_cons ok58 (mkS_nil _)))))))))
theorem law10 {R P Q F o x r : Int} : fnK Try.prog S10 noL Try.f10 [lV R P Q F, w63 o, w63 x, w63 r] [] = some (.ret (.bool true) []) := by
  rw [cf10]
  have hR : mayB R P Q F = true → (0 == R) = false := fun h => beq_eq_false_iff_ne.2 (by have := (mayB_iff.1 h).1; omega)
  cases hm : mayB R P Q F <;> by_cases hx : 0 < x <;> by_cases h1 : 1 ≤ r <;> by_cases h2 : r ≤ 500
  all_goals first | rw [dec_t hx, dec_f (show ¬ x ≤ 0 by omega)] | rw [dec_f hx, dec_t (show x ≤ 0 by omega)]
  all_goals first | rw [dec_t h1] | rw [dec_f h1]
  all_goals first | rw [dec_t h2] | rw [dec_f h2]
  all_goals simp only [Bool.and_self, Bool.and_true, Bool.and_false, Bool.not_true, Bool.not_false, condT, condF, beq_self_eq_true, bne_self_eq_false]
def F10 : FSpec := fun args h k => match args, h with
  | [.agg ⟨[.int .i64 _, .int .u64 _, .int .u64 _, .int .i64 _]⟩, .int .i64 _, .int .i64 _, .int .i64 _], [] => k (.bool true) []
  | _, _ => none
theorem ok10 : EntryOK Try.prog 10 F10 := by
  refine EntryOK.of_fn S10_ok follows_ok Try.func10 (by kernel_rfl) (by kernel_rfl) ?_
  intro args h k out hF
  unfold F10 at hF
  split at hF
  · exact ⟨_, _, hF, fun _ => ⟨noL, noL_ok, law10⟩⟩
  · cases hF
theorem VR.aggSelf {l : List Value} (h : ∀ v ∈ l, ∀ ι, VR ι v v) (ι : Map) : VR ι (.agg ⟨l⟩) (.agg ⟨l⟩) := .agg rfl fun i v v' a b => by
  rw [a] at b
  cases b
  exact h v (List.mem_of_getElem? (l := l) (i := i) (by simpa using a)) ι
end Go.Proofs.Ytfgehfnlkakioaa.VC
