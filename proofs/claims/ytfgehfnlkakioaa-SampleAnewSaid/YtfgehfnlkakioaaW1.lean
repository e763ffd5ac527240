/- sample: closed forms. -/
import Derived.Test.YtfgehfnlkakioaaUX
namespace Go.Proofs.Ytfgehfnlkakioaa.VC
open Go Go.Proofs

abbrev a3 (x y z : Int) : Value := .agg ⟨[.int .i64 x, .int .i64 y, .int .i64 z]⟩
noncomputable def readB (e t b : Int) : Bool := chk (e = 7 ∨ e = 9 ∨ e = 10 ∨ (e = 0 ∧ 0 ≤ t ∧ t ≤ 6000000000000000000 ∧ 0 ≤ b ∧ b ≤ 4611686018427387904))
noncomputable def sampB (c t e : Int) : Bool := chk (0 ≤ c ∧ 0 ≤ t ∧ t ≤ 6000000000000000000 ∧ 0 ≤ e ∧ e ≤ 1000000000)
noncomputable def F103 : FSpec := fun args h k => match args, h with
  | [.agg ⟨[.int .i64 e, .int .i64 t, .int .i64 b]⟩], [] => k (.bool (readB e t b)) []
  | _, _ => none
noncomputable def F104 : FSpec := fun args h k => match args, h with
  | [.agg ⟨[.int .i64 c, .int .i64 t, .int .i64 e]⟩], [] => k (.bool (sampB c t e)) []
  | _, _ => none
--CF cf103 (e t b : Int) :: fnK Try.prog (mkS []) noL Try.f103 [a3 e t b] []
theorem cf103 (e t b : Int) : fnK Try.prog (mkS []) noL Try.f103 [a3 e t b] [] =
     (bif e == 7 then bif e == 7 then some (Res.ret (Value.bool true) []) else bif e == 0 then bif decide (t ≥ 0) then bif decide (t ≤ 6000000000000000000) then bif decide (b ≥ 0) then some (Res.ret
     (Value.bool (decide (b ≤ 4611686018427387904))) []) else some (Res.ret (Value.bool false) []) else some (Res.ret (Value.bool false) []) else some (Res.ret (Value.bool false) []) else some (Res.ret
     (Value.bool false) []) else bif e == 9 then bif e == 9 then some (Res.ret (Value.bool true) []) else bif e == 0 then bif decide (t ≥ 0) then bif decide (t ≤ 6000000000000000000) then bif decide (b ≥
     0) then some (Res.ret (Value.bool (decide (b ≤ 4611686018427387904))) []) else some (Res.ret (Value.bool false) []) else some (Res.ret (Value.bool false) []) else some (Res.ret (Value.bool false) [])
     else some (Res.ret (Value.bool false) []) else bif e == 10 then some (Res.ret (Value.bool true) []) else bif e == 0 then bif decide (t ≥ 0) then bif decide (t ≤ 6000000000000000000) then bif decide (b
     ≥ 0) then some (Res.ret (Value.bool (decide (b ≤ 4611686018427387904))) []) else some (Res.ret (Value.bool false) []) else some (Res.ret (Value.bool false) []) else some (Res.ret (Value.bool false)
     []) else some (Res.ret (Value.bool false) [])) := by kernel_rfl
--CFEND
--CF cf104 (c t e : Int) :: fnK Try.prog (mkS []) noL Try.f104 [a3 c t e] []
theorem cf104 (c t e : Int) : fnK Try.prog (mkS []) noL Try.f104 [a3 c t e] [] =
     (bif decide (c ≥ 0) then bif decide (t ≥ 0) then bif decide (t ≤ 6000000000000000000) then bif decide (e ≥ 0) then some (Res.ret (Value.bool (decide (e ≤ 1000000000))) []) else some (Res.ret
     (Value.bool false) []) else some (Res.ret (Value.bool false) []) else some (Res.ret (Value.bool false) []) else some (Res.ret (Value.bool false) [])) := by kernel_rfl
--CFEND
def S105 : Spec := mkS [(21, false, F21)]
--CF cf105 (f x r c t e : Int) :: fnK Try.prog S105 noL Try.f105 [w63 f, pt 0, pt 1, pt 2] [some ⟨false, 1, [.ints .i64 1 [x]]⟩, some ⟨false, 1, [.ints .i64 1 [r]]⟩, some ⟨false, 3, [.ints .i64 3 [c, t, e]]⟩]
theorem cf105 (f x r c t e : Int) : fnK Try.prog S105 noL Try.f105 [w63 f, pt 0, pt 1, pt 2] [some ⟨false, 1, [.ints .i64 1 [x]]⟩, some ⟨false, 1, [.ints .i64 1 [r]]⟩, some ⟨false, 3, [.ints .i64 3 [c, t, e]]⟩] =
     (some (Res.ret (Value.bool (decide (f ≤ IntKind.i64.wrap (IntKind.i64.wrap (upI x (IntKind.i64.wrap (IntKind.i64.wrap (2 * r) + 1)) 1000000 + IntKind.i64.wrap (2 * e)) + 2)))) [some (Blk.mk false 1
     [Seg.ints IntKind.i64 1 [x]]), some (Blk.mk false 1 [Seg.ints IntKind.i64 1 [r]]), some (Blk.mk false 3 [Seg.ints IntKind.i64 3 [c, t, e]])])) := by kernel_rfl
--CFEND
/-- Does an offset follow, of a lapse x? -/
noncomputable def offB (f x r e : Int) : Bool := chk (f ≤ -(-(x * (2 * r + 1)) / 1000000) + 2 * e + 2)
noncomputable def F105 : FSpec := fun args h k => match args, h with
  | [.int .i64 f, .pointer (some ⟨0, 0, none⟩), .pointer (some ⟨1, 0, none⟩), .pointer (some ⟨2, 0, none⟩)], [some ⟨false, 1, [.ints .i64 1 [x]]⟩, some ⟨false, 1, [.ints .i64 1 [r]]⟩, some ⟨false, 3, [.ints .i64 3 [c, t, e]]⟩] =>
    bif chk (1 ≤ r ∧ r ≤ 500 ∧ 500000000 ≤ x ∧ x ≤ 1500000000 ∧ 0 ≤ e ∧ e ≤ 1152921504606846976) then k (.bool (offB f x r e)) [some ⟨false, 1, [.ints .i64 1 [x]]⟩, some ⟨false, 1, [.ints .i64 1 [r]]⟩, some ⟨false, 3, [.ints .i64 3 [c, t, e]]⟩] else none
  | _, _ => none
noncomputable def S61 : Spec := mkS [(25, false, F25), (38, false, F38), (105, false, F105)]
--CF cf61 (r n cc ct sc st se : Int) :: fnK Try.prog S61 noL Try.f61 [w63 r, a3 n cc ct, a3 sc st se] []
theorem cf61 (r n cc ct sc st se : Int) : fnK Try.prog S61 noL Try.f61 [w63 r, a3 n cc ct, a3 sc st se] [] =
     (bif decide (r < 1) then some (Res.ret (Value.bool false) []) else bif decide (r > 500) then some (Res.ret (Value.bool false) []) else bif decide (n < 1) then some (Res.ret (Value.bool false) []) else
     bif decide (hold (sc - cc) ≥ 500000000) then bif decide (hold (sc - cc) ≤ 1500000000) then bif chk (1 ≤ r ∧ r ≤ 500 ∧ 500000000 ≤ hold (sc - cc) ∧ hold (sc - cc) ≤ 1500000000 ∧ 0 ≤ se ∧ se ≤
     1152921504606846976) then some (Res.ret (Value.bool (offB (hold (sizeI (hold (hold (st - ct) - hold (sc - cc))))) (hold (sc - cc)) r se)) []) else none else some (Res.ret (Value.bool false) []) else
     some (Res.ret (Value.bool false) [])) := by kernel_rfl
--CFEND
/-- Does a sample follow candidates? -/
noncomputable def followsB (r n cc ct sc st se : Int) : Bool := chk (1 ≤ r ∧ r ≤ 500 ∧ 1 ≤ n ∧ 500000000 ≤ sc - cc ∧ sc - cc ≤ 1500000000 ∧ ((hold (st - ct) - (sc - cc)).natAbs : Int) ≤ -(-((sc - cc) * (2 * r + 1)) / 1000000) + 2 * se + 2)
noncomputable def F61 : FSpec := fun args h k => match args, h with
  | [.int .i64 r, .agg ⟨[.int .i64 n, .int .i64 cc, .int .i64 ct]⟩, .agg ⟨[.int .i64 sc, .int .i64 st, .int .i64 se]⟩], [] =>
    bif chk (0 ≤ se ∧ se ≤ 1152921504606846976) then k (.bool (followsB r n cc ct sc st se)) [] else none
  | _, _ => none
noncomputable def S60 : Spec := mkS [(23, false, F23), (25, false, F25), (38, false, F38), (61, false, F61), (103, false, F103), (104, false, F104)]
--CF cf60 (r e t b n cc ct sc st se need : Int) :: fnK Try.prog S60 noL Try.f60 [w63 r, a3 e t b, a3 n cc ct, a3 sc st se, w63 need] []
theorem cf60 (r e t b n cc ct sc st se need : Int) : fnK Try.prog S60 noL Try.f60 [w63 r, a3 e t b, a3 n cc ct, a3 sc st se, w63 need] [] =
     (bif decide (r < 1) then some (Res.ret (Value.tuple (Array.mk [Value.int IntKind.u8 0, Value.agg (Array.mk [Value.int IntKind.i64 0, Value.int IntKind.i64 0, Value.int IntKind.i64 0]), Value.int
     IntKind.i64 2])) []) else bif decide (r > 500) then some (Res.ret (Value.tuple (Array.mk [Value.int IntKind.u8 0, Value.agg (Array.mk [Value.int IntKind.i64 0, Value.int IntKind.i64 0, Value.int
     IntKind.i64 0]), Value.int IntKind.i64 2])) []) else bif !readB e t b then some (Res.ret (Value.tuple (Array.mk [Value.int IntKind.u8 0, Value.agg (Array.mk [Value.int IntKind.i64 0, Value.int
     IntKind.i64 0, Value.int IntKind.i64 0]), Value.int IntKind.i64 2])) []) else bif !sampB sc st se then some (Res.ret (Value.tuple (Array.mk [Value.int IntKind.u8 0, Value.agg (Array.mk [Value.int
     IntKind.i64 0, Value.int IntKind.i64 0, Value.int IntKind.i64 0]), Value.int IntKind.i64 2])) []) else bif decide (need < 1) then some (Res.ret (Value.tuple (Array.mk [Value.int IntKind.u8 0,
     Value.agg (Array.mk [Value.int IntKind.i64 0, Value.int IntKind.i64 0, Value.int IntKind.i64 0]), Value.int IntKind.i64 2])) []) else bif decide (need > 100) then some (Res.ret (Value.tuple (Array.mk
     [Value.int IntKind.u8 0, Value.agg (Array.mk [Value.int IntKind.i64 0, Value.int IntKind.i64 0, Value.int IntKind.i64 0]), Value.int IntKind.i64 2])) []) else bif decide (n < 0) then some (Res.ret
     (Value.tuple (Array.mk [Value.int IntKind.u8 0, Value.agg (Array.mk [Value.int IntKind.i64 0, Value.int IntKind.i64 0, Value.int IntKind.i64 0]), Value.int IntKind.i64 2])) []) else bif decide (n >
     1000) then some (Res.ret (Value.tuple (Array.mk [Value.int IntKind.u8 0, Value.agg (Array.mk [Value.int IntKind.i64 0, Value.int IntKind.i64 0, Value.int IntKind.i64 0]), Value.int IntKind.i64 2]))
     []) else bif e == 7 then bif e == 7 then some (Res.ret (Value.tuple (Array.mk [Value.int IntKind.u8 1, Value.agg (Array.mk [Value.int IntKind.i64 0, Value.int IntKind.i64 0, Value.int IntKind.i64 0]),
     Value.int IntKind.i64 0])) []) else bif e == 10 then some (Res.ret (Value.tuple (Array.mk [Value.int IntKind.u8 2, Value.agg (Array.mk [Value.int IntKind.i64 n, Value.int IntKind.i64 cc, Value.int
     IntKind.i64 ct]), Value.int IntKind.i64 0])) []) else bif decide (hold (sizeI (hold (t - st))) ≤ hold (b + se)) then some (Res.ret (Value.tuple (Array.mk [Value.int IntKind.u8 1, Value.agg (Array.mk
     [Value.int IntKind.i64 0, Value.int IntKind.i64 0, Value.int IntKind.i64 0]), Value.int IntKind.i64 0])) []) else bif chk (0 ≤ se ∧ se ≤ 1152921504606846976) then bif followsB r n cc ct sc st se then
     bif decide (IntKind.i64.wrap (n + 1) ≥ need) then some (Res.ret (Value.tuple (Array.mk [Value.int IntKind.u8 3, Value.agg (Array.mk [Value.int IntKind.i64 0, Value.int IntKind.i64 0, Value.int
     IntKind.i64 0]), Value.int IntKind.i64 0])) []) else some (Res.ret (Value.tuple (Array.mk [Value.int IntKind.u8 2, Value.agg (Array.mk [Value.int IntKind.i64 (IntKind.i64.wrap (n + 1)), Value.int
     IntKind.i64 sc, Value.int IntKind.i64 st]), Value.int IntKind.i64 0])) []) else bif decide (1 ≥ need) then some (Res.ret (Value.tuple (Array.mk [Value.int IntKind.u8 3, Value.agg (Array.mk [Value.int
     IntKind.i64 0, Value.int IntKind.i64 0, Value.int IntKind.i64 0]), Value.int IntKind.i64 0])) []) else some (Res.ret (Value.tuple (Array.mk [Value.int IntKind.u8 2, Value.agg (Array.mk [Value.int
     IntKind.i64 1, Value.int IntKind.i64 sc, Value.int IntKind.i64 st]), Value.int IntKind.i64 0])) []) else none else bif e == 9 then some (Res.ret (Value.tuple (Array.mk [Value.int IntKind.u8 1,
     Value.agg (Array.mk [Value.int IntKind.i64 0, Value.int IntKind.i64 0, Value.int IntKind.i64 0]), Value.int IntKind.i64 0])) []) else bif e == 10 then some (Res.ret (Value.tuple (Array.mk [Value.int
     IntKind.u8 2, Value.agg (Array.mk [Value.int IntKind.i64 n, Value.int IntKind.i64 cc, Value.int IntKind.i64 ct]), Value.int IntKind.i64 0])) []) else bif decide (hold (sizeI (hold (t - st))) ≤ hold (b
     + se)) then some (Res.ret (Value.tuple (Array.mk [Value.int IntKind.u8 1, Value.agg (Array.mk [Value.int IntKind.i64 0, Value.int IntKind.i64 0, Value.int IntKind.i64 0]), Value.int IntKind.i64 0]))
     []) else bif chk (0 ≤ se ∧ se ≤ 1152921504606846976) then bif followsB r n cc ct sc st se then bif decide (IntKind.i64.wrap (n + 1) ≥ need) then some (Res.ret (Value.tuple (Array.mk [Value.int
     IntKind.u8 3, Value.agg (Array.mk [Value.int IntKind.i64 0, Value.int IntKind.i64 0, Value.int IntKind.i64 0]), Value.int IntKind.i64 0])) []) else some (Res.ret (Value.tuple (Array.mk [Value.int
     IntKind.u8 2, Value.agg (Array.mk [Value.int IntKind.i64 (IntKind.i64.wrap (n + 1)), Value.int IntKind.i64 sc, Value.int IntKind.i64 st]), Value.int IntKind.i64 0])) []) else bif decide (1 ≥ need)
     then some (Res.ret (Value.tuple (Array.mk [Value.int IntKind.u8 3, Value.agg (Array.mk [Value.int IntKind.i64 0, Value.int IntKind.i64 0, Value.int IntKind.i64 0]), Value.int IntKind.i64 0])) []) else
     some (Res.ret (Value.tuple (Array.mk [Value.int IntKind.u8 2, Value.agg (Array.mk [Value.int IntKind.i64 1, Value.int IntKind.i64 sc, Value.int IntKind.i64 st]), Value.int IntKind.i64 0])) []) else
     none) := by kernel_rfl
--CFEND
end Go.Proofs.Ytfgehfnlkakioaa.VC
