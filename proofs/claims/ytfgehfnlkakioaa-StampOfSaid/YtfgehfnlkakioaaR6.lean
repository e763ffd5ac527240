/- The document's numbers: the functions over sizes. -/
import Derived.Test.YtfgehfnlkakioaaR5
namespace Go.Proofs.Ytfgehfnlkakioaa.VC
open Go Go.Proofs

abbrev LF := List Value → Heap → (Exit → List Value → Heap → Out) → Out
abbrev nilS : Value := .slice none 0 0

noncomputable def L96f : LF := fun vs h k => match vs, h with
  | [.slice (some ⟨0, 0, none⟩) n c, .slice (some ⟨1, 0, none⟩) m d, .slice none 0 0, .int .u64 ca, .int .i64 p], [some ⟨false, 1, [.ints .u64 n1 xs]⟩, some ⟨false, 1, [.ints .u64 m1 ys]⟩] =>
    bif normB n xs && normB m ys && Nat.ble n n1 && Nat.ble m m1 && (ca == 0) && (p == 0) then
      k (.exit 0) [sl 0 n c, sl 1 m d, sl 2 (digits (numW n xs + numW m ys)).length 1, w64 0, w63 ((digits (numW n xs + numW m ys)).length : Nat)] [wb n1 xs, wb m1 ys, ob (digits (numW n xs + numW m ys)).length (digits (numW n xs + numW m ys))]
    else none
  | _, _ => none
noncomputable def L96 : LSpec := oneL 4 live96 L96f
--CF cf96 (n c m d n1 m1 : Nat) (xs ys : List Int) :: fnK Try.prog S95 L96 Try.f96 [sl 0 n c, sl 1 m d] [wb n1 xs, wb m1 ys]
theorem cf96 (n c m d n1 m1 : Nat) (xs ys : List Int) : fnK Try.prog S95 L96 Try.f96 [sl 0 n c, sl 1 m d] [wb n1 xs, wb m1 ys] =
    (bif normB n xs && normB m ys && n.ble n1 && m.ble m1 && true && true then
       some
         (Res.ret (Value.slice (some (Addr.mk 2 0 none)) (digits (numW n xs + numW m ys)).length 1)
           [some (Blk.mk false 1 [Seg.ints IntKind.u64 n1 xs]), some (Blk.mk false 1 [Seg.ints IntKind.u64 m1 ys]),
             some
               (Blk.mk true 1
                 [Seg.ints IntKind.u64 (digits (numW n xs + numW m ys)).length (digits (numW n xs + numW m ys))])])
     else none) := by kernel_rfl
--CFEND

noncomputable def L90f : LF := fun vs h k => match vs, h with
  | [.slice (some ⟨0, 0, none⟩) n c, .slice none 0 0, .int .u64 ca, .int .i64 p], [some ⟨false, 1, [.ints .u64 n1 xs]⟩] =>
    bif normB n xs && Nat.ble n n1 && decide (0 ≤ ca) && decide (ca ≤ 1) && (p == 0) then
      k (.exit 0) [sl 0 n c, sl 1 (digits (2 * numW n xs + ca.toNat)).length 1, w64 0, w63 ((digits (2 * numW n xs + ca.toNat)).length : Nat)] [wb n1 xs, ob (digits (2 * numW n xs + ca.toNat)).length (digits (2 * numW n xs + ca.toNat))]
    else none
  | _, _ => none
noncomputable def L90 : LSpec := oneL 6 live90 L90f
--CF cf90 (n c n1 : Nat) (xs : List Int) (b : Bool) :: fnK Try.prog S95 L90 Try.f90 [sl 0 n c, .bool b] [wb n1 xs]
theorem cf90 (n c n1 : Nat) (xs : List Int) (b : Bool) : fnK Try.prog S95 L90 Try.f90 [sl 0 n c, .bool b] [wb n1 xs] =
    (bif b then
       bif normB n xs && n.ble n1 && true && true && true then
         some
           (Res.ret (Value.slice (some (Addr.mk 1 0 none)) (digits (2 * numW n xs + 1)).length 1)
             [some (Blk.mk false 1 [Seg.ints IntKind.u64 n1 xs]),
               some (Blk.mk true 1 [Seg.ints IntKind.u64 (digits (2 * numW n xs + 1)).length (digits (2 * numW n xs + 1))])])
       else none
     else
       bif normB n xs && n.ble n1 && true && true && true then
         some
           (Res.ret (Value.slice (some (Addr.mk 1 0 none)) (digits (2 * numW n xs)).length 1)
             [some (Blk.mk false 1 [Seg.ints IntKind.u64 n1 xs]),
               some (Blk.mk true 1 [Seg.ints IntKind.u64 (digits (2 * numW n xs)).length (digits (2 * numW n xs))])])
       else none) := by kernel_rfl
--CFEND

noncomputable def L94f : LF := fun vs h k => match vs, h with
  | [.slice (some ⟨0, 0, none⟩) n c, .slice (some ⟨1, 0, none⟩) m d, .slice none 0 0, .int .u64 ca, .int .i64 p], [some ⟨false, 1, [.ints .u64 n1 xs]⟩, some ⟨false, 1, [.ints .u64 m1 ys]⟩] =>
    bif normB n xs && normB m ys && Nat.ble n n1 && Nat.ble m m1 && Nat.ble (numW m ys) (numW n xs) && (ca == 0) && (p == 0) then
      k (.exit 0) [sl 0 n c, sl 1 m d, sl 2 n 1, w64 0, w63 n] [wb n1 xs, wb m1 ys, ob n (wordsN n (numW n xs - numW m ys))]
    else none
  | _, _ => none
noncomputable def L94 : LSpec := oneL 4 live94 L94f
--CF cf94 (n c m d n1 m1 : Nat) (xs ys : List Int) :: fnK Try.prog S95 L94 Try.f94 [sl 0 n c, sl 1 m d] [wb n1 xs, wb m1 ys]
theorem cf94 (n c m d n1 m1 : Nat) (xs ys : List Int) : fnK Try.prog S95 L94 Try.f94 [sl 0 n c, sl 1 m d] [wb n1 xs, wb m1 ys] =
    (bif normB n xs && normB m ys && n.ble n1 && m.ble m1 && (numW m ys).ble (numW n xs) && true && true then
       some
         (Res.ret (Value.slice (some (Addr.mk 2 0 none)) n 1)
           [some (Blk.mk false 1 [Seg.ints IntKind.u64 n1 xs]), some (Blk.mk false 1 [Seg.ints IntKind.u64 m1 ys]),
             some (Blk.mk true 1 [Seg.ints IntKind.u64 n (wordsN n (numW n xs - numW m ys))])])
     else none) := by kernel_rfl
--CFEND

/-- Which is larger. -/
def cmpI (a b : Nat) : Int := if b < a then 1 else if a < b then -1 else 0
/-- Where they part. -/
def diffAt (a b : Nat) : Nat → Nat
  | 0 => 0
  | r + 1 => if a / BB ^ r = b / BB ^ r then diffAt a b r else r
noncomputable def L92f : LF := fun vs h k => match vs, h with
  | [.slice (some ⟨0, 0, none⟩) n c, .slice (some ⟨1, 0, none⟩) m d, .int .i64 q, .int .i64 p], [some ⟨false, 1, [.ints .u64 n1 xs]⟩, some ⟨false, 1, [.ints .u64 m1 ys]⟩] =>
    bif normB n xs && normB m ys && Nat.ble n n1 && Nat.ble m m1 && (q == 0) && (p == IntKind.i64.wrap (n + m)) then
      (bif decide (numW n xs = numW m ys) then k (.exit 0) [sl 0 n c, sl 1 m d, w63 0, w63 (-1)] [wb n1 xs, wb m1 ys]
      else k .ret [sl 0 n c, sl 1 m d, w63 (cmpI (numW n xs) (numW m ys)), w63 (diffAt (numW n xs) (numW m ys) (n + m + 1) : Nat)] [wb n1 xs, wb m1 ys])
    else none
  | _, _ => none
--CF cf92 (n c m d n1 m1 : Nat) (xs ys : List Int) :: fnK Try.prog S95 (oneL 2 live92 L92f) Try.f92 [sl 0 n c, sl 1 m d] [wb n1 xs, wb m1 ys]
theorem cf92 (n c m d n1 m1 : Nat) (xs ys : List Int) : fnK Try.prog S95 (oneL 2 live92 L92f) Try.f92 [sl 0 n c, sl 1 m d] [wb n1 xs, wb m1 ys] =
    (bif
         normB n xs && normB m ys && n.ble n1 && m.ble m1 && true &&
           IntKind.i64.wrap ((↑n : Int) + (↑m : Int)) == IntKind.i64.wrap ((↑n : Int) + (↑m : Int)) then
       bif decide (numW n xs = numW m ys) then
         some
           (Res.ret (Value.int IntKind.i64 0)
             [some (Blk.mk false 1 [Seg.ints IntKind.u64 n1 xs]), some (Blk.mk false 1 [Seg.ints IntKind.u64 m1 ys])])
       else
         some
           (Res.ret (Value.int IntKind.i64 (cmpI (numW n xs) (numW m ys)))
             [some (Blk.mk false 1 [Seg.ints IntKind.u64 n1 xs]), some (Blk.mk false 1 [Seg.ints IntKind.u64 m1 ys])])
     else none) := by kernel_rfl
--CFEND

noncomputable def L93f : LF := fun vs h k => match vs, h with
  | [.bool b, .slice (some ⟨0, 0, none⟩) n c, .pointer (some ⟨1, 0, none⟩), .int .i64 p], [some ⟨false, 1, [.ints .u64 n1 xs]⟩, some ⟨true, 2, [.vals [.bool false, .slice none 0 0]]⟩] =>
    bif wordsB n xs && Nat.ble n n1 && (p == n) then
      k (.exit 0) [.bool b, sl 0 n c, .pointer (some ⟨1, 0, none⟩), w63 ((digits (numW n xs)).length : Nat)] [wb n1 xs, nb false]
    else none
  | _, _ => none
noncomputable def L93 : LSpec := oneL 2 live93 L93f
--CF cf93 (b : Bool) (n c n1 : Nat) (xs : List Int) :: fnK Try.prog S95 L93 Try.f93 [.bool b, sl 0 n c] [wb n1 xs]
theorem cf93 (b : Bool) (n c n1 : Nat) (xs : List Int) : fnK Try.prog S95 L93 Try.f93 [.bool b, sl 0 n c] [wb n1 xs] =
    (bif wordsB n xs && n.ble n1 && (↑n : Int) == (↑n : Int) then
       bif (↑(digits (numW n xs)).length : Int) == 0 then
         some
           (Res.ret (Value.agg (Array.mk [Value.bool false, Value.slice none 0 0]))
             [some (Blk.mk false 1 [Seg.ints IntKind.u64 n1 xs])])
       else
         bif
             decide (0 ≤ (↑(digits (numW n xs)).length : Int)) &&
               decide ((↑(digits (numW n xs)).length : Int) ≤ (↑n : Int)) then
           bif c.beq (OfNat.ofNat 1) && true then
             some
               (Res.ret
                 (Value.agg
                   (Array.mk
                     [Value.bool b,
                       Value.slice (some (Addr.mk 0 0 none)) ((↑(digits (numW n xs)).length : Int) - 0).toNat 1]))
                 [some (Blk.mk false 1 [Seg.ints IntKind.u64 n1 xs])])
           else
             some
               (Res.ret
                 (Value.agg
                   (Array.mk
                     [Value.bool b,
                       Value.slice (some (Addr.mk 0 0 none)) ((↑(digits (numW n xs)).length : Int) - 0).toNat 2]))
                 [some (Blk.mk false 1 [Seg.ints IntKind.u64 n1 xs])])
         else none
     else none) := by kernel_rfl
--CFEND

--CF cf91 (n c n1 : Nat) (xs : List Int) (p : Int) :: fnK Try.prog S95 noL Try.f91 [sl 0 n c, w63 p] [wb n1 xs]
theorem cf91 (n c n1 : Nat) (xs : List Int) (p : Int) : fnK Try.prog S95 noL Try.f91 [sl 0 n c, w63 p] [wb n1 xs] =
    (bif n.ble n1 && decide (0 ≤ IntKind.i64.wrap (p.tdiv 32)) then
       bif decide (IntKind.u64.wrap (p.tmod 32) < 0) then none
       else
         some
           (Res.ret
             (Value.bool
               (bits BinOp.and IntKind.u64
                   ((wordAt n xs (IntKind.i64.wrap (p.tdiv 32))).fdiv (2 ^ min (IntKind.u64.wrap (p.tmod 32)).toNat 64)) 1 ==
                 1))
             [some (Blk.mk false 1 [Seg.ints IntKind.u64 n1 xs])])
     else none) := by kernel_rfl
--CFEND
end Go.Proofs.Ytfgehfnlkakioaa.VC
