/- ubx: Payload: its loop, and closed forms. -/
import Derived.Test.YtcjjngdkkihgjaaUA
import Derived.Test.YtcjjngdkkihgjaaMA
namespace Go.Proofs.Ytcjjngdkkihgjaa.VC
open Go Go.Proofs

def pyOKU (k' : Int) (k q n len M : Nat) (fv : List FV) (fl : List Int) : Prop := k'.toNat = k ∧ 0 < k ∧ k ≤ 100 ∧ q = n ∧ k ≤ q ∧ fl.length = 2 * k ∧ M = 3 * k ∧ fv = fvU fl ∧ fldsOK len fl k ∧ len ≤ 1000000
noncomputable def LPyUTf (fl : List Int) : LF := fun vs h k => match vs, h with
  | [.pointer (some ⟨1, 0, none⟩), .slice none 0 0, .int .i64 0, .slice (some ⟨2, 0, none⟩) len' 0, .slice (some ⟨3, 0, none⟩) q' 0, .int .i64 k', .int .i64 0], [some ⟨false, 1, [.ints .i64 n vl]⟩, some ⟨true, 3, [.ints .u8 2 [x, y], .vals [.slice (some ⟨0, 0, none⟩) q c]]⟩, some ⟨true, 1, [.ints .u8 len bs]⟩, some ⟨true, 3, [.any M fv]⟩] =>
    bif chk (len' = len ∧ pyOKU k' q' q n len M fv fl ∧ fitsTo fl vl q') then
      k (.exit 1) (stPayU 0 len q' q') (hpPayU x y n q c len q' vl (payL bs fl vl q') (fvU fl)) else none
  | _, _ => none
noncomputable def LPyUT (fl : List Int) : LSpec := oneL 8 livePayU (LPyUTf fl)
noncomputable def LPyUFf (fl : List Int) : LF := fun vs h k => match vs, h with
  | [.pointer (some ⟨1, 0, none⟩), .slice none 0 0, .int .i64 0, .slice (some ⟨2, 0, none⟩) len' 0, .slice (some ⟨3, 0, none⟩) q' 0, .int .i64 k', .int .i64 0], [some ⟨false, 1, [.ints .i64 n vl]⟩, some ⟨true, 3, [.ints .u8 2 [x, y], .vals [.slice (some ⟨0, 0, none⟩) q c]]⟩, some ⟨true, 1, [.ints .u8 len bs]⟩, some ⟨true, 3, [.any M fv]⟩] =>
    bif chk (len' = len ∧ pyOKU k' q' q n len M fv fl ∧ ¬ fitsTo fl vl q') then
      k .ret (stPayU 2 len q' (endPy fl vl q')) (hpPayU x y n q c len q' vl (payL bs fl vl (endPy fl vl q' + 1)) (fvU fl)) else none
  | _, _ => none
noncomputable def LPyUF (fl : List Int) : LSpec := oneL 8 livePayU (LPyUFf fl)
noncomputable def SPayUl : Spec := mkS [(57, false, FLayU)]
--CF cfPyUN (x y) (n q c : Nat) (vs : List Int) :: fnK Try.prog (SPayUl.on [(19, true)]) noL Try.f18 [.agg #[u8v x, u8v y, sl 0 q c]] [rI n vs]
theorem cfPyUN (x y) (n q c : Nat) (vs : List Int) : fnK Try.prog (SPayUl.on [(19, true)]) noL Try.f18 [.agg #[u8v x, u8v y, sl 0 q c]] [rI n vs] =
     (bif x == 1 && (y == 7 && true) then none else bif x == 1 && (y == 32 && true) then none else bif x == 1 && (y == 33 && true) then none else bif x == 1 && (y == 38 && true) then none else bif x == 13
     && (y == 1 && true) then none else bif x == 5 && (y == 0 && true) then none else bif x == 5 && (y == 1 && true) then none else bif x == 6 && (y == 1 && true) then none else bif x == 6 && (y == 8 &&
     true) then none else bif x == 6 && (y == 49 && true) then none else some (Res.ret (Value.tuple (Array.mk [Value.slice none 0 0, Value.int IntKind.i64 7])) [some (Blk.mk false 1 [Seg.ints IntKind.i64 n
     vs])])) := by kernel_rfl
--CFEND
--CF cfPyUC (x y) (n q c : Nat) (vs : List Int) :: fnK Try.prog (SPayUl.on [(19, false), (22, true)]) noL Try.f18 [.agg #[u8v x, u8v y, sl 0 q c]] [rI n vs]
theorem cfPyUC (x y) (n q c : Nat) (vs : List Int) : fnK Try.prog (SPayUl.on [(19, false), (22, true)]) noL Try.f18 [.agg #[u8v x, u8v y, sl 0 q c]] [rI n vs] =
     (bif x == 1 && (y == 7 && true) then bif (↑q : Int) != 12 then some (Res.ret (Value.tuple (Array.mk [Value.slice none 0 0, Value.int IntKind.i64 2])) [some (Blk.mk false 1 [Seg.ints IntKind.i64 n
     vs])]) else none else bif x == 1 && (y == 32 && true) then bif (↑q : Int) != 6 then some (Res.ret (Value.tuple (Array.mk [Value.slice none 0 0, Value.int IntKind.i64 2])) [some (Blk.mk false 1
     [Seg.ints IntKind.i64 n vs])]) else none else bif x == 1 && (y == 33 && true) then bif (↑q : Int) != 10 then some (Res.ret (Value.tuple (Array.mk [Value.slice none 0 0, Value.int IntKind.i64 2]))
     [some (Blk.mk false 1 [Seg.ints IntKind.i64 n vs])]) else none else bif x == 1 && (y == 38 && true) then bif (↑q : Int) != 10 then some (Res.ret (Value.tuple (Array.mk [Value.slice none 0 0, Value.int
     IntKind.i64 2])) [some (Blk.mk false 1 [Seg.ints IntKind.i64 n vs])]) else none else bif x == 13 && (y == 1 && true) then bif (↑q : Int) != 6 then some (Res.ret (Value.tuple (Array.mk [Value.slice
     none 0 0, Value.int IntKind.i64 2])) [some (Blk.mk false 1 [Seg.ints IntKind.i64 n vs])]) else none else bif x == 5 && (y == 0 && true) then bif (↑q : Int) != 2 then some (Res.ret (Value.tuple
     (Array.mk [Value.slice none 0 0, Value.int IntKind.i64 2])) [some (Blk.mk false 1 [Seg.ints IntKind.i64 n vs])]) else none else bif x == 5 && (y == 1 && true) then bif (↑q : Int) != 2 then some
     (Res.ret (Value.tuple (Array.mk [Value.slice none 0 0, Value.int IntKind.i64 2])) [some (Blk.mk false 1 [Seg.ints IntKind.i64 n vs])]) else none else bif x == 6 && (y == 1 && true) then bif (↑q : Int)
     != 3 then some (Res.ret (Value.tuple (Array.mk [Value.slice none 0 0, Value.int IntKind.i64 2])) [some (Blk.mk false 1 [Seg.ints IntKind.i64 n vs])]) else none else bif x == 6 && (y == 8 && true) then
     bif (↑q : Int) != 3 then some (Res.ret (Value.tuple (Array.mk [Value.slice none 0 0, Value.int IntKind.i64 2])) [some (Blk.mk false 1 [Seg.ints IntKind.i64 n vs])]) else none else bif x == 6 && (y ==
     49 && true) then bif (↑q : Int) != 5 then some (Res.ret (Value.tuple (Array.mk [Value.slice none 0 0, Value.int IntKind.i64 2])) [some (Blk.mk false 1 [Seg.ints IntKind.i64 n vs])]) else none else
     none) := by kernel_rfl
--CFEND
--CF cfPyUT (x y) (n q c : Nat) (vs fl : List Int) :: fnK Try.prog (SPayUl.on [(19, false), (22, false)]) (LPyUT fl) Try.f18 [.agg #[u8v x, u8v y, sl 0 q c]] [rI n vs]
theorem cfPyUT (x y) (n q c : Nat) (vs fl : List Int) : fnK Try.prog (SPayUl.on [(19, false), (22, false)]) (LPyUT fl) Try.f18 [.agg #[u8v x, u8v y, sl 0 q c]] [rI n vs] =
     (bif x == 1 && (y == 7 && true) then bif (↑q : Int) != 12 then none else bif chk (92 = 92 ∧ pyOKU 12 12 q n 92 36 (fvU [0, 4, 4, 2, 6, 1, 7, 1, 8, 1, 9, 1, 10, 1, 11, 1, 12, 4, 16, -4, 20, 1, 21, 1])
     fl ∧ fitsTo fl vs 12) then some (Res.ret (Value.tuple (Array.mk [Value.slice (some (Addr.mk 1 0 none)) 92 0, Value.int IntKind.i64 0])) [some (Blk.mk false 1 [Seg.ints IntKind.i64 n vs]), some (Blk.mk
     true 1 [Seg.ints IntKind.u8 92 (payL (List.replicate 92 0) fl vs 12)])]) else none else bif x == 1 && (y == 32 && true) then bif (↑q : Int) != 6 then none else bif chk (16 = 16 ∧ pyOKU 6 6 q n 16 18
     (fvU [0, 4, 4, -4, 8, 2, 10, -1, 11, 1, 12, 4]) fl ∧ fitsTo fl vs 6) then some (Res.ret (Value.tuple (Array.mk [Value.slice (some (Addr.mk 1 0 none)) 16 0, Value.int IntKind.i64 0])) [some (Blk.mk
     false 1 [Seg.ints IntKind.i64 n vs]), some (Blk.mk true 1 [Seg.ints IntKind.u8 16 (payL (List.replicate 16 0) fl vs 6)])]) else none else bif x == 1 && (y == 33 && true) then bif (↑q : Int) != 10 then
     none else bif chk (20 = 20 ∧ pyOKU 10 10 q n 20 30 (fvU [0, 4, 4, 4, 8, -4, 12, 2, 14, 1, 15, 1, 16, 1, 17, 1, 18, 1, 19, 1]) fl ∧ fitsTo fl vs 10) then some (Res.ret (Value.tuple (Array.mk
     [Value.slice (some (Addr.mk 1 0 none)) 20 0, Value.int IntKind.i64 0])) [some (Blk.mk false 1 [Seg.ints IntKind.i64 n vs]), some (Blk.mk true 1 [Seg.ints IntKind.u8 20 (payL (List.replicate 20 0) fl
     vs 10)])]) else none else bif x == 1 && (y == 38 && true) then bif (↑q : Int) != 10 then none else bif chk (24 = 24 ∧ pyOKU 10 10 q n 24 30 (fvU [0, 4, 4, 1, 8, 1, 9, -1, 10, 1, 11, -1, 12, -4, 16, 2,
     18, 2, 23, 1]) fl ∧ fitsTo fl vs 10) then some (Res.ret (Value.tuple (Array.mk [Value.slice (some (Addr.mk 1 0 none)) 24 0, Value.int IntKind.i64 0])) [some (Blk.mk false 1 [Seg.ints IntKind.i64 n
     vs]), some (Blk.mk true 1 [Seg.ints IntKind.u8 24 (payL (List.replicate 24 0) fl vs 10)])]) else none else bif x == 13 && (y == 1 && true) then bif (↑q : Int) != 6 then none else bif chk (16 = 16 ∧
     pyOKU 6 6 q n 16 18 (fvU [0, 4, 4, 4, 8, -4, 12, 2, 14, 1, 15, 1]) fl ∧ fitsTo fl vs 6) then some (Res.ret (Value.tuple (Array.mk [Value.slice (some (Addr.mk 1 0 none)) 16 0, Value.int IntKind.i64
     0])) [some (Blk.mk false 1 [Seg.ints IntKind.i64 n vs]), some (Blk.mk true 1 [Seg.ints IntKind.u8 16 (payL (List.replicate 16 0) fl vs 6)])]) else none else bif x == 5 && (y == 0 && true) then bif (↑q
     : Int) != 2 then none else bif chk (2 = 2 ∧ pyOKU 2 2 q n 2 6 (fvU [0, 1, 1, 1]) fl ∧ fitsTo fl vs 2) then some (Res.ret (Value.tuple (Array.mk [Value.slice (some (Addr.mk 1 0 none)) 2 0, Value.int
     IntKind.i64 0])) [some (Blk.mk false 1 [Seg.ints IntKind.i64 n vs]), some (Blk.mk true 1 [Seg.ints IntKind.u8 2 (payL (List.replicate 2 0) fl vs 2)])]) else none else bif x == 5 && (y == 1 && true)
     then bif (↑q : Int) != 2 then none else bif chk (2 = 2 ∧ pyOKU 2 2 q n 2 6 (fvU [0, 1, 1, 1]) fl ∧ fitsTo fl vs 2) then some (Res.ret (Value.tuple (Array.mk [Value.slice (some (Addr.mk 1 0 none)) 2 0,
     Value.int IntKind.i64 0])) [some (Blk.mk false 1 [Seg.ints IntKind.i64 n vs]), some (Blk.mk true 1 [Seg.ints IntKind.u8 2 (payL (List.replicate 2 0) fl vs 2)])]) else none else bif x == 6 && (y == 1
     && true) then bif (↑q : Int) != 3 then none else bif chk (3 = 3 ∧ pyOKU 3 3 q n 3 9 (fvU [0, 1, 1, 1, 2, 1]) fl ∧ fitsTo fl vs 3) then some (Res.ret (Value.tuple (Array.mk [Value.slice (some (Addr.mk
     1 0 none)) 3 0, Value.int IntKind.i64 0])) [some (Blk.mk false 1 [Seg.ints IntKind.i64 n vs]), some (Blk.mk true 1 [Seg.ints IntKind.u8 3 (payL (List.replicate 3 0) fl vs 3)])]) else none else bif x
     == 6 && (y == 8 && true) then bif (↑q : Int) != 3 then none else bif chk (6 = 6 ∧ pyOKU 3 3 q n 6 9 (fvU [0, 2, 2, 2, 4, 2]) fl ∧ fitsTo fl vs 3) then some (Res.ret (Value.tuple (Array.mk [Value.slice
     (some (Addr.mk 1 0 none)) 6 0, Value.int IntKind.i64 0])) [some (Blk.mk false 1 [Seg.ints IntKind.i64 n vs]), some (Blk.mk true 1 [Seg.ints IntKind.u8 6 (payL (List.replicate 6 0) fl vs 3)])]) else
     none else bif x == 6 && (y == 49 && true) then bif (↑q : Int) != 5 then none else bif chk (32 = 32 ∧ pyOKU 5 5 q n 32 15 (fvU [0, 1, 4, -2, 8, 4, 16, 4, 28, 4]) fl ∧ fitsTo fl vs 5) then some (Res.ret
     (Value.tuple (Array.mk [Value.slice (some (Addr.mk 1 0 none)) 32 0, Value.int IntKind.i64 0])) [some (Blk.mk false 1 [Seg.ints IntKind.i64 n vs]), some (Blk.mk true 1 [Seg.ints IntKind.u8 32 (payL
     (List.replicate 32 0) fl vs 5)])]) else none else none) := by kernel_rfl
--CFEND
--CF cfPyUF (x y) (n q c : Nat) (vs fl : List Int) :: fnK Try.prog (SPayUl.on [(19, false), (22, false)]) (LPyUF fl) Try.f18 [.agg #[u8v x, u8v y, sl 0 q c]] [rI n vs]
theorem cfPyUF (x y) (n q c : Nat) (vs fl : List Int) : fnK Try.prog (SPayUl.on [(19, false), (22, false)]) (LPyUF fl) Try.f18 [.agg #[u8v x, u8v y, sl 0 q c]] [rI n vs] =
     (bif x == 1 && (y == 7 && true) then bif (↑q : Int) != 12 then none else bif chk (92 = 92 ∧ pyOKU 12 12 q n 92 36 (fvU [0, 4, 4, 2, 6, 1, 7, 1, 8, 1, 9, 1, 10, 1, 11, 1, 12, 4, 16, -4, 20, 1, 21, 1])
     fl ∧ ¬fitsTo fl vs 12) then some (Res.ret (Value.tuple (Array.mk [Value.slice none 0 0, Value.int IntKind.i64 2])) [some (Blk.mk false 1 [Seg.ints IntKind.i64 n vs])]) else none else bif x == 1 && (y
     == 32 && true) then bif (↑q : Int) != 6 then none else bif chk (16 = 16 ∧ pyOKU 6 6 q n 16 18 (fvU [0, 4, 4, -4, 8, 2, 10, -1, 11, 1, 12, 4]) fl ∧ ¬fitsTo fl vs 6) then some (Res.ret (Value.tuple
     (Array.mk [Value.slice none 0 0, Value.int IntKind.i64 2])) [some (Blk.mk false 1 [Seg.ints IntKind.i64 n vs])]) else none else bif x == 1 && (y == 33 && true) then bif (↑q : Int) != 10 then none else
     bif chk (20 = 20 ∧ pyOKU 10 10 q n 20 30 (fvU [0, 4, 4, 4, 8, -4, 12, 2, 14, 1, 15, 1, 16, 1, 17, 1, 18, 1, 19, 1]) fl ∧ ¬fitsTo fl vs 10) then some (Res.ret (Value.tuple (Array.mk [Value.slice none 0
     0, Value.int IntKind.i64 2])) [some (Blk.mk false 1 [Seg.ints IntKind.i64 n vs])]) else none else bif x == 1 && (y == 38 && true) then bif (↑q : Int) != 10 then none else bif chk (24 = 24 ∧ pyOKU 10
     10 q n 24 30 (fvU [0, 4, 4, 1, 8, 1, 9, -1, 10, 1, 11, -1, 12, -4, 16, 2, 18, 2, 23, 1]) fl ∧ ¬fitsTo fl vs 10) then some (Res.ret (Value.tuple (Array.mk [Value.slice none 0 0, Value.int IntKind.i64
     2])) [some (Blk.mk false 1 [Seg.ints IntKind.i64 n vs])]) else none else bif x == 13 && (y == 1 && true) then bif (↑q : Int) != 6 then none else bif chk (16 = 16 ∧ pyOKU 6 6 q n 16 18 (fvU [0, 4, 4,
     4, 8, -4, 12, 2, 14, 1, 15, 1]) fl ∧ ¬fitsTo fl vs 6) then some (Res.ret (Value.tuple (Array.mk [Value.slice none 0 0, Value.int IntKind.i64 2])) [some (Blk.mk false 1 [Seg.ints IntKind.i64 n vs])])
     else none else bif x == 5 && (y == 0 && true) then bif (↑q : Int) != 2 then none else bif chk (2 = 2 ∧ pyOKU 2 2 q n 2 6 (fvU [0, 1, 1, 1]) fl ∧ ¬fitsTo fl vs 2) then some (Res.ret (Value.tuple
     (Array.mk [Value.slice none 0 0, Value.int IntKind.i64 2])) [some (Blk.mk false 1 [Seg.ints IntKind.i64 n vs])]) else none else bif x == 5 && (y == 1 && true) then bif (↑q : Int) != 2 then none else
     bif chk (2 = 2 ∧ pyOKU 2 2 q n 2 6 (fvU [0, 1, 1, 1]) fl ∧ ¬fitsTo fl vs 2) then some (Res.ret (Value.tuple (Array.mk [Value.slice none 0 0, Value.int IntKind.i64 2])) [some (Blk.mk false 1 [Seg.ints
     IntKind.i64 n vs])]) else none else bif x == 6 && (y == 1 && true) then bif (↑q : Int) != 3 then none else bif chk (3 = 3 ∧ pyOKU 3 3 q n 3 9 (fvU [0, 1, 1, 1, 2, 1]) fl ∧ ¬fitsTo fl vs 3) then some
     (Res.ret (Value.tuple (Array.mk [Value.slice none 0 0, Value.int IntKind.i64 2])) [some (Blk.mk false 1 [Seg.ints IntKind.i64 n vs])]) else none else bif x == 6 && (y == 8 && true) then bif (↑q : Int)
     != 3 then none else bif chk (6 = 6 ∧ pyOKU 3 3 q n 6 9 (fvU [0, 2, 2, 2, 4, 2]) fl ∧ ¬fitsTo fl vs 3) then some (Res.ret (Value.tuple (Array.mk [Value.slice none 0 0, Value.int IntKind.i64 2])) [some
     (Blk.mk false 1 [Seg.ints IntKind.i64 n vs])]) else none else bif x == 6 && (y == 49 && true) then bif (↑q : Int) != 5 then none else bif chk (32 = 32 ∧ pyOKU 5 5 q n 32 15 (fvU [0, 1, 4, -2, 8, 4,
     16, 4, 28, 4]) fl ∧ ¬fitsTo fl vs 5) then some (Res.ret (Value.tuple (Array.mk [Value.slice none 0 0, Value.int IntKind.i64 2])) [some (Blk.mk false 1 [Seg.ints IntKind.i64 n vs])]) else none else
     none) := by kernel_rfl
--CFEND
end Go.Proofs.Ytcjjngdkkihgjaa.VC

/- ubx: Payload: what it is. -/
namespace Go.Proofs.Ytcjjngdkkihgjaa.VC
open Go Go.Proofs

theorem loopPyUT {x y : Int} {n q c len k : Nat} {vs bs fl : List Int} (hk : k ≤ q) (hq : q = n) (hk1 : k ≤ 100) (hl : fl.length = 2 * k) (hf : fldsOK len fl k) (hlen : len ≤ 1000000) (hb : bs.length = len) (hfit : fitsTo fl vs k) : ∀ (r i : Nat), i + r = k →
    LoopT Try.prog Try.f18.ntmps 1 (loopOf Try.f18 0) (zipS livePayU (stPayU 0 len k i)) (hpPayU x y n q c len k vs (payL bs fl vs i) (fvU fl)) (.exit 1)
      (zipS livePayU (stPayU 0 len k k)) (hpPayU x y n q c len k vs (payL bs fl vs k) (fvU fl)) := by
  intro r
  induction r with
  | zero =>
    intro i hi
    obtain rfl : i = k := by omega
    exact LoopT.last (by intro h; cases h) (CodeT.out (SPayU_ok.on _) noL_ok fun on out => pPyUX x y n q c len i i vs _ _ on out)
  | succ r ih =>
    intro i hi
    exact LoopT.step (CodeT.on (live := livePayU) (vs1 := stPayU 0 len k ((i + 1 : Nat) : Int)) (h1 := hpPayU x y n q c len k vs (payL bs fl vs (i + 1)) (fvU fl)) (SPayU_ok.on _) noL_ok fun on out =>
      roundPyU (by omega) hk1 hk hq hl hf hlen hb (hfit i (by omega)) on out) (ih (i + 1) (by omega))
theorem loopPyUF {x y : Int} {n q c len k e : Nat} {vs bs fl : List Int} (hk : k ≤ q) (hq : q = n) (hk1 : k ≤ 100) (hl : fl.length = 2 * k) (hf : fldsOK len fl k) (hlen : len ≤ 1000000) (hb : bs.length = len) (he : e < k) (hno : ¬ fitI (vs.getD e 0) (fl.getD (e * 2 + 1) 0)) (hfit : fitsTo fl vs e) : ∀ (r i : Nat), i + r = e →
    LoopT Try.prog Try.f18.ntmps 1 (loopOf Try.f18 0) (zipS livePayU (stPayU 0 len k i)) (hpPayU x y n q c len k vs (payL bs fl vs i) (fvU fl)) .ret
      (zipS livePayU (stPayU 2 len k e)) (hpPayU x y n q c len k vs (payL bs fl vs (e + 1)) (fvU fl)) := by
  intro r
  induction r with
  | zero =>
    intro i hi
    obtain rfl : i = e := by omega
    exact LoopT.last (by intro h; cases h) (CodeT.out (SPayU_ok.on _) noL_ok fun on out => roundPyUN he hk1 hk hq hl hf hlen hb hno on out)
  | succ r ih =>
    intro i hi
    exact LoopT.step (CodeT.on (live := livePayU) (vs1 := stPayU 0 len k ((i + 1 : Nat) : Int)) (h1 := hpPayU x y n q c len k vs (payL bs fl vs (i + 1)) (fvU fl)) (SPayU_ok.on _) noL_ok fun on out =>
      roundPyU (by omega) hk1 hk hq hl hf hlen hb (hfit i (by omega)) on out) (ih (i + 1) (by omega))
theorem loopOKPyUT (fl : List Int) : LoopOK Try.prog Try.f18.ntmps 1 (loopOf Try.f18 0) livePayU (LPyUTf fl) := by
  refine LoopOK.of_T ?_
  intro vs h k out hk
  unfold LPyUTf at hk
  split at hk
  · rename_i len' q' k' n vl x y q c len bs M fv
    obtain ⟨hb, hk2⟩ := bif_t hk
    obtain ⟨rfl, ⟨h1, h2, h3, h4, h5, h6, rfl, rfl, h8, h9⟩, h10⟩ := chk_iff.1 hb
    refine ⟨_, _, _, hk2, fun real => ?_⟩
    have hs := real.segs (i := 2) rfl rfl _ (List.mem_cons_self ..)
    obtain rfl : k' = q' := by omega
    exact loopPyUT h5 h4 h3 h6 h8 h9 hs.1 h10 _ 0 (Nat.zero_add _)
  · cases hk
theorem loopOKPyUF (fl : List Int) : LoopOK Try.prog Try.f18.ntmps 1 (loopOf Try.f18 0) livePayU (LPyUFf fl) := by
  refine LoopOK.of_T ?_
  intro vs h k out hk
  unfold LPyUFf at hk
  split at hk
  · rename_i len' q' k' n vl x y q c len bs M fv
    obtain ⟨hb, hk2⟩ := bif_t hk
    obtain ⟨rfl, ⟨h1, h2, h3, h4, h5, h6, rfl, rfl, h8, h9⟩, h10⟩ := chk_iff.1 hb
    refine ⟨_, _, _, hk2, fun real => ?_⟩
    have hs := real.segs (i := 2) rfl rfl _ (List.mem_cons_self ..)
    obtain rfl : k' = q' := by omega
    obtain ⟨g1, g2, g3⟩ := endPy_spec h10
    exact loopPyUF h5 h4 h3 h6 h8 h9 hs.1 g1 g2 g3 _ 0 (Nat.zero_add _)
  · cases hk
theorem loopsPyUT (fl : List Int) : LoopsOK Try.prog (LPyUT fl) Try.f18.ntmps 1 (bodyOf Try.f18) := loops_one rfl (by kernel_rfl) (loopOKPyUT fl)
theorem loopsPyUF (fl : List Int) : LoopsOK Try.prog (LPyUF fl) Try.f18.ntmps 1 (bodyOf Try.f18) := loops_one rfl (by kernel_rfl) (loopOKPyUF fl)
/-- What forbids a payload. -/
noncomputable def payErrU (x y : Int) (q : Nat) (vs : List Int) : Int := match layU x y with
  | none => 7
  | some (_, fl) => @ite _ (2 * q = fl.length ∧ fitsTo fl vs q) (Classical.propDecidable _) 0 2
noncomputable def FPayUK (len : Nat) (fl : List Int) : FSpec := fun args h k => match args, h with
  | [.agg ⟨[.int .u8 x, .int .u8 y, .slice (some ⟨0, 0, none⟩) q _]⟩], [some ⟨false, 1, [.ints .i64 n vs]⟩] =>
    bif chk (layU x y = some (len, fl) ∧ 2 * q = fl.length ∧ q = n ∧ fitsTo fl vs q) then k (.tuple #[sl 1 len 0, w63 0]) [rI n vs, oU len (payL (List.replicate len 0) fl vs q)] else none
  | _, _ => none
noncomputable def FPayUE (e : Int) : FSpec := fun args h k => match args, h with
  | [.agg ⟨[.int .u8 x, .int .u8 y, .slice (some ⟨0, 0, none⟩) q _]⟩], [some ⟨false, 1, [.ints .i64 n vs]⟩] =>
    bif chk (payErrU x y q vs = e ∧ e ≠ 0 ∧ q = n ∧ q ≤ 1000000000) then k (.tuple #[.slice none 0 0, w63 e]) [rI n vs] else none
  | _, _ => none
theorem SPayUl_ok : SpecOK Try.prog SPayUl := mkS_cons okLayU (mkS_nil _)
theorem okPayUK (len : Nat) (fl : List Int) : EntryOK Try.prog 18 (FPayUK len fl) := by
  refine EntryOK.of_paths (fn := Try.f18) follows_ok Try.func18 (by kernel_rfl) (by kernel_rfl) ?_
  intro args h k out hF
  unfold FPayUK at hF
  split at hF
  · rename_i x y q c n vs
    obtain ⟨hb, hF2⟩ := bif_t hF
    obtain ⟨hl, h2, h3, h4⟩ := chk_iff.1 hb
    obtain ⟨g1, g2, g3, g4, g5, g6⟩ := layU_ok hl
    refine ⟨_, _, hF2, fun _ => ⟨_, LPyUT fl, SPayUl_ok.on _, loopsPyUT fl, (cfPyUT x y n q c vs fl).trans ?_⟩⟩
    obtain ⟨p, hp⟩ : ∃ p, p = fl.length / 2 := ⟨_, rfl⟩
    obtain rfl : q = p := by omega
    have hpy : pyOKU (q : Int) q q n len (3 * q) (fvU fl) fl := ⟨by omega, by omega, by omega, h3, Nat.le_refl _, h2.symm, rfl, rfl, by rw [hp]; exact g5, by omega⟩
    rcases layU_cases hl with e | e | e | e | e | e | e | e | e | e <;>
    · obtain ⟨rfl, rfl⟩ := e
      cases hl
      simp only [List.length_cons, List.length_nil, Nat.reduceAdd, Nat.reduceDiv] at hp
      subst hp
      try simp only [Int.reduceBEq, Bool.and_true, Bool.true_and, Bool.false_and, Bool.and_false, condT, condF]
      exact go_f (bne_f rfl) (go_t (chk_t ⟨by first | rfl | trivial, hpy, h4⟩) rfl)
  · cases hF
theorem okPayUE (e : Int) : EntryOK Try.prog 18 (FPayUE e) := by
  refine EntryOK.of_paths (fn := Try.f18) follows_ok Try.func18 (by kernel_rfl) (by kernel_rfl) ?_
  intro args h k out hF
  unfold FPayUE at hF
  split at hF
  · rename_i x y q c n vs
    obtain ⟨hb, hF2⟩ := bif_t hF
    obtain ⟨he, h0, h3, _⟩ := chk_iff.1 hb
    refine ⟨_, _, hF2, fun _ => ?_⟩
    unfold payErrU at he
    split at he
    · rename_i hl
      subst he
      have hn := layU_none hl
      refine ⟨_, noL, SPayUl_ok.on _, noL_ok, (cfPyUN x y n q c vs).trans ?_⟩
      have f : ∀ a b : Int, ¬ (x = a ∧ y = b) → (x == a && (y == b && true)) = false := fun a b h => by
        rw [Bool.and_true, Bool.and_eq_false_iff, beq_eq_false_iff_ne, beq_eq_false_iff_ne]
        by_cases hx : x = a
        · exact .inr fun hy => h ⟨hx, hy⟩
        · exact .inl hx
      simp only [not_or] at hn
      obtain ⟨n1, n2, n3, n4, n5, n6, n7, n8, n9, n10⟩ := hn
      rw [f _ _ n1, f _ _ n2, f _ _ n3, f _ _ n4, f _ _ n5, f _ _ n6, f _ _ n7, f _ _ n8, f _ _ n9, f _ _ n10]; rfl
    · rename_i len fl hl
      obtain ⟨g1, g2, g3, g4, g5, g6⟩ := layU_ok hl
      by_cases hc : 2 * q = fl.length ∧ fitsTo fl vs q
      · rw [if_pos hc] at he; exact (h0 he.symm).elim
      · rw [if_neg hc] at he
        subst he
        by_cases hq : 2 * q = fl.length
        · have hnf : ¬ fitsTo fl vs q := fun x => hc ⟨hq, x⟩
          refine ⟨_, LPyUF fl, SPayUl_ok.on _, loopsPyUF fl, (cfPyUF x y n q c vs fl).trans ?_⟩
          obtain ⟨p, hp⟩ : ∃ p, p = fl.length / 2 := ⟨_, rfl⟩
          obtain rfl : q = p := by omega
          have hpy : pyOKU (q : Int) q q n len (3 * q) (fvU fl) fl := ⟨by omega, by omega, by omega, h3, Nat.le_refl _, hq.symm, rfl, rfl, by rw [hp]; exact g5, by omega⟩
          rcases layU_cases hl with e | e | e | e | e | e | e | e | e | e <;>
          · obtain ⟨rfl, rfl⟩ := e
            cases hl
            simp only [List.length_cons, List.length_nil, Nat.reduceAdd, Nat.reduceDiv] at hp
            subst hp
            try simp only [Int.reduceBEq, Bool.and_true, Bool.true_and, Bool.false_and, Bool.and_false, condT, condF]
            exact go_f (bne_f rfl) (go_t (chk_t ⟨by first | rfl | trivial, hpy, hnf⟩) rfl)
        · refine ⟨_, noL, SPayUl_ok.on _, noL_ok, (cfPyUC x y n q c vs).trans ?_⟩
          rcases layU_cases hl with e | e | e | e | e | e | e | e | e | e <;>
          · obtain ⟨rfl, rfl⟩ := e
            cases hl
            simp only [List.length_cons, List.length_nil, Nat.reduceAdd] at hq
            try simp only [Int.reduceBEq, Bool.and_true, Bool.true_and, Bool.false_and, Bool.and_false, condT, condF]
            exact go_t (c := ((q : Int) != _)) (bne_t (by omega)) rfl
  · cases hF
end Go.Proofs.Ytcjjngdkkihgjaa.VC

/- sums: Fletcher; the document's: closed forms. -/
namespace Go.Proofs.Ytcjjngdkkihgjaa.VC
open Go Go.Proofs

def flt : List Int → Int → Int → Int × Int
  | [], p, q => (p, q)
  | x :: r, p, q => flt r ((p + x) % 256) ((q + (p + x) % 256) % 256)
/-- The document's sums. -/
def fltP : List Int → Int → Int
  | [], p => p
  | x :: r, p => fltP r ((p + x) % 256)
def fltQ : List Int → Int → Int
  | [], q => q
  | x :: r, q => fltQ r ((q + x * (((r.length : Int) + 1) % 256)) % 256)
theorem flt_P : ∀ (l : List Int) (p q : Int), (flt l p q).1 = fltP l p
  | [], _, _ => rfl
  | _ :: r, _, _ => flt_P r _ _
theorem flt_rng : ∀ (l : List Int) {p q : Int}, (0 ≤ p ∧ p < 256) → (0 ≤ q ∧ q < 256) → (0 ≤ (flt l p q).1 ∧ (flt l p q).1 < 256) ∧ (0 ≤ (flt l p q).2 ∧ (flt l p q).2 < 256)
  | [], _, _, hp, hq => ⟨hp, hq⟩
  | x :: r, p, q, _, _ => flt_rng r (by omega) (by omega)
theorem flt_Q : ∀ (l : List Int) (p q q0 k : Int), (0 ≤ q ∧ q < 256) → (0 ≤ q0 ∧ q0 < 256) → q0 = q + l.length * p + 256 * k → fltQ l q0 = (flt l p q).2
  | [], p, q, q0, k, h1, h2, h => by
    rw [List.length_nil] at h
    show q0 = q
    omega
  | x :: r, p, q, q0, k, h1, h2, h => by
    rw [List.length_cons] at h
    rw [fltQ, flt]
    have a1 := Int.emod_add_mul_ediv (q0 + x * (((r.length : Int) + 1) % 256)) 256
    have a2 := Int.emod_add_mul_ediv ((r.length : Int) + 1) 256
    have a3 := Int.emod_add_mul_ediv (p + x) 256
    have a4 := Int.emod_add_mul_ediv (q + (p + x) % 256) 256
    refine flt_Q r _ _ _ (k - x * (((r.length : Int) + 1) / 256) - (q0 + x * (((r.length : Int) + 1) % 256)) / 256 + (p + x) / 256 + (q + (p + x) % 256) / 256 + r.length * ((p + x) / 256)) (by omega) (by omega) ?_
    have h3 : ((r.length + 1 : Nat) : Int) = (r.length : Int) + 1 := by omega
    rw [h3] at h
    generalize (r.length : Int) = m at *
    generalize (m + 1) % 256 = u at *
    generalize (m + 1) / 256 = v at *
    generalize (p + x) % 256 = s at *
    generalize (p + x) / 256 = w at *
    generalize (q0 + x * u) % 256 = A at *
    generalize (q0 + x * u) / 256 = a at *
    generalize (q + s) % 256 = B at *
    generalize (q + s) / 256 = b at *
    grind
abbrev o8 (x : Int) : Option Blk := some ⟨true, 1, [.ints .u8 1 [x]]⟩
abbrev fnFl : Value := .func (.func 98) #[] #[pt 1, pt 2]
def FFl1 : FSpec := fun args h k => match args, h with
  | [.int .u8 x, .pointer (some ⟨0, 0, none⟩), .pointer (some ⟨1, 0, none⟩)], [some ⟨true, 1, [.ints .u8 1 [p]]⟩, some ⟨true, 1, [.ints .u8 1 [q]]⟩] => k undef [o8 ((p + x) % 256), o8 ((q + (p + x) % 256) % 256)]
  | _, _ => none
--CF cfFl1 (x p q) :: fnK Try.prog (mkS []) noL Try.f98 [u8v x, pt 0, pt 1] [o8 p, o8 q]
theorem cfFl1 (x p q) : fnK Try.prog (mkS []) noL Try.f98 [u8v x, pt 0, pt 1] [o8 p, o8 q] =
     (some (Res.ret (Value.tuple (Array.mk [])) [some (Blk.mk true 1 [Seg.ints IntKind.u8 1 [IntKind.u8.wrap (p + x)]]), some (Blk.mk true 1 [Seg.ints IntKind.u8 1 [IntKind.u8.wrap (q + IntKind.u8.wrap (p
     + x))]])])) := by kernel_rfl
--CFEND
def SEaF : Spec := mkS [(98, true, FFl1)]
--CP pEaFl (p q) (o n c i N : Nat) (xs : List Int) (on : List Value → Heap → Out) (out : Exit → List Value → Heap → Out) :: roundK Try.prog (SEaF.on [(9, true)]) noL Try.f97.ntmps 3 (loopOf Try.f97 0) liveEa [fnFl, slo 0 o n c, w63 n, w63 i] [rU N xs, o8 p, o8 q] on out
theorem pEaFl (p q) (o n c i N : Nat) (xs : List Int) (on : List Value → Heap → Out) (out : Exit → List Value → Heap → Out)
    (w1 : -9223372036854775808 ≤ (↑i : Int) + (1 : Int) ∧ (↑i : Int) + (1 : Int) ≤ 9223372036854775807 := by omega)
    (h1 : (↑i : Int) < (↑n : Int) := by first | omega | assumption | rfl)
    (h2 : (0 : Int) ≤ (↑i : Int) := by first | omega | assumption | rfl)
    (h3 : o + i < N := by first | omega | assumption | rfl) : roundK Try.prog (SEaF.on [(9, true)]) noL Try.f97.ntmps 3 (loopOf Try.f97 0) liveEa [fnFl, slo 0 o n c, w63 n, w63 i] [rU N xs, o8 p, o8 q] on out =
     (on [Value.func (Fn.func (OfNat.ofNat (98 : Nat))) #[] #[Value.pointer (some (Addr.mk (1 : Nat) (0 : Nat) none)), Value.pointer (some (Addr.mk (2 : Nat) (0 : Nat) none))], Value.slice (some (Addr.mk
     (0 : Nat) o none)) n c, Value.int IntKind.i64 (↑n : Int), Value.int IntKind.i64 ((↑i : Int) + (1 : Int))] [some (Blk.mk false (1 : Nat) [Seg.ints IntKind.u8 N xs]), some (Blk.mk true (1 : Nat)
     [Seg.ints IntKind.u8 (1 : Nat) [(p + xs.getD (o + i) (0 : Int)) % (256 : Int)]]), some (Blk.mk true (1 : Nat) [Seg.ints IntKind.u8 (1 : Nat) [(q + (p + xs.getD (o + i) (0 : Int)) % (256 : Int)) % (256
     : Int)]])]) :=
  Eq.trans (b :=
     bif decide ((↑i : Int) < (↑n : Int)) then bif decide ((0 : Int) ≤ (↑i : Int)) && decide ((↑i : Int) < (↑n : Int)) then bif (o + (↑i : Int).toNat * (1 : Nat)).blt N then on [Value.func (Fn.func
     (OfNat.ofNat (98 : Nat))) #[] #[Value.pointer (some (Addr.mk (1 : Nat) (0 : Nat) none)), Value.pointer (some (Addr.mk (2 : Nat) (0 : Nat) none))], Value.slice (some (Addr.mk (0 : Nat) o none)) n c,
     Value.int IntKind.i64 (↑n : Int), Value.int IntKind.i64 (IntKind.i64.wrap ((↑i : Int) + (1 : Int)))] [some (Blk.mk false (1 : Nat) [Seg.ints IntKind.u8 N xs]), some (Blk.mk true (1 : Nat) [Seg.ints
     IntKind.u8 (1 : Nat) [(p + xs.getD (o + (↑i : Int).toNat * (1 : Nat)) (0 : Int)) % (256 : Int)]]), some (Blk.mk true (1 : Nat) [Seg.ints IntKind.u8 (1 : Nat) [(q + (p + xs.getD (o + (↑i : Int).toNat *
     (1 : Nat)) (0 : Int)) % (256 : Int)) % (256 : Int)]])] else none else none else none) (by kernel_rfl) (by simp only [-eq_self, Int.toNat_natCast, Nat.mul_one, swrap w1.1 w1.2]; exact (go_t (dec_t h1) (go_t (and_t (dec_t h2) (dec_t h1)) (go_t (blt_t h3) rfl))))
--CFEND
--CP pEaFlX (p q) (o n c i N : Nat) (xs : List Int) (on : List Value → Heap → Out) (out : Exit → List Value → Heap → Out) :: roundK Try.prog (SEaF.on [(9, false)]) noL Try.f97.ntmps 3 (loopOf Try.f97 0) liveEa [fnFl, slo 0 o n c, w63 n, w63 i] [rU N xs, o8 p, o8 q] on out
theorem pEaFlX (p q) (o n c i N : Nat) (xs : List Int) (on : List Value → Heap → Out) (out : Exit → List Value → Heap → Out)
    (h1 : ¬(↑i : Int) < (↑n : Int) := by first | omega | assumption | rfl) : roundK Try.prog (SEaF.on [(9, false)]) noL Try.f97.ntmps 3 (loopOf Try.f97 0) liveEa [fnFl, slo 0 o n c, w63 n, w63 i] [rU N xs, o8 p, o8 q] on out =
     (out (Exit.exit (0 : Nat)) [Value.func (Fn.func (OfNat.ofNat (98 : Nat))) #[] #[Value.pointer (some (Addr.mk (1 : Nat) (0 : Nat) none)), Value.pointer (some (Addr.mk (2 : Nat) (0 : Nat) none))],
     Value.slice (some (Addr.mk (0 : Nat) o none)) n c, Value.int IntKind.i64 (↑n : Int), Value.int IntKind.i64 (↑i : Int)] [some (Blk.mk false (1 : Nat) [Seg.ints IntKind.u8 N xs]), some (Blk.mk true (1 :
     Nat) [Seg.ints IntKind.u8 (1 : Nat) [p]]), some (Blk.mk true (1 : Nat) [Seg.ints IntKind.u8 (1 : Nat) [q]])]) :=
  Eq.trans (by kernel_rfl) (go_f (dec_f h1) rfl)
--CFEND
/-- Some bytes of a row. -/
def cutS' (xs : List Int) (o n : Nat) : List Int := (xs.drop o).take n
noncomputable def LEaFlf : LF := fun vs h k => match vs, h with
  | [.func (.func 98) ⟨[]⟩ ⟨[.pointer (some ⟨1, 0, none⟩), .pointer (some ⟨2, 0, none⟩)]⟩, .slice (some ⟨0, o, none⟩) n c, .int .i64 m, .int .i64 0], [some ⟨false, 1, [.ints .u8 N xs]⟩, some ⟨true, 1, [.ints .u8 1 [0]]⟩, some ⟨true, 1, [.ints .u8 1 [0]]⟩] =>
    bif chk (m.toNat = n ∧ m = n ∧ o + n ≤ N ∧ N ≤ 1000000) then k (.exit 0) [fnFl, slo 0 o n c, w63 n, w63 n] [rU N xs, o8 (flt (cutS' xs o n) 0 0).1, o8 (flt (cutS' xs o n) 0 0).2] else none
  | _, _ => none
noncomputable def LEaFl : LSpec := oneL 1 liveEa LEaFlf
--CP pEaFlF (o n c N : Nat) (xs : List Int) :: fnK Try.prog (mkS []) LEaFl Try.f97 [slo 0 o n c, fnFl] [rU N xs, o8 0, o8 0]
theorem pEaFlF (o n c N : Nat) (xs : List Int)
    (h1 : n = n ∧ (↑n : Int) = (↑n : Int) ∧ o + n ≤ N ∧ N ≤ (1000000 : Nat) := by first | omega | assumption | rfl | ((repeat' with_reducible apply And.intro) <;> first | rfl | assumption | omega)) : fnK Try.prog (mkS []) LEaFl Try.f97 [slo 0 o n c, fnFl] [rU N xs, o8 0, o8 0] =
     (some (Res.ret (Value.tuple (Array.mk [])) [some (Blk.mk false (1 : Nat) [Seg.ints IntKind.u8 N xs]), some (Blk.mk true (1 : Nat) [Seg.ints IntKind.u8 (1 : Nat) [(flt (cutS' xs o n) (0 : Int) (0 :
     Int)).fst]]), some (Blk.mk true (1 : Nat) [Seg.ints IntKind.u8 (1 : Nat) [(flt (cutS' xs o n) (0 : Int) (0 : Int)).snd]])])) :=
  Eq.trans (b :=
     bif chk ((↑n : Int).toNat = n ∧ (↑n : Int) = (↑n : Int) ∧ o + n ≤ N ∧ N ≤ (1000000 : Nat)) then some (Res.ret (Value.tuple (Array.mk [])) [some (Blk.mk false (1 : Nat) [Seg.ints IntKind.u8 N xs]),
     some (Blk.mk true (1 : Nat) [Seg.ints IntKind.u8 (1 : Nat) [(flt (cutS' xs o n) (0 : Int) (0 : Int)).fst]]), some (Blk.mk true (1 : Nat) [Seg.ints IntKind.u8 (1 : Nat) [(flt (cutS' xs o n) (0 : Int)
     (0 : Int)).snd]])]) else none) (by kernel_rfl) (by simp only [-eq_self, Int.toNat_natCast]; exact (go_t (chk_t h1) rfl))
--CFEND
noncomputable def FEaFl : FSpec := fun args h k => match args, h with
  | [.slice (some ⟨0, o, none⟩) n _, .func (.func 98) ⟨[]⟩ ⟨[.pointer (some ⟨1, 0, none⟩), .pointer (some ⟨2, 0, none⟩)]⟩], [some ⟨false, 1, [.ints .u8 N xs]⟩, some ⟨true, 1, [.ints .u8 1 [0]]⟩, some ⟨true, 1, [.ints .u8 1 [0]]⟩] =>
    bif chk (o + n ≤ N ∧ N ≤ 1000000) then k undef [rU N xs, o8 (flt (cutS' xs o n) 0 0).1, o8 (flt (cutS' xs o n) 0 0).2] else none
  | _, _ => none
noncomputable def SFl : Spec := mkS [(97, true, FEaFl)]
--CP pFl (o n c N : Nat) (xs : List Int) :: fnK Try.prog SFl noL Try.f63 [slo 0 o n c] [rU N xs]
theorem pFl (o n c N : Nat) (xs : List Int)
    (h1 : o + n ≤ N ∧ N ≤ (1000000 : Nat) := by first | omega | assumption | rfl | ((repeat' with_reducible apply And.intro) <;> first | rfl | assumption | omega)) : fnK Try.prog SFl noL Try.f63 [slo 0 o n c] [rU N xs] =
     (some (Res.ret (Value.tuple (Array.mk [Value.int IntKind.u8 (flt (cutS' xs o n) (0 : Int) (0 : Int)).fst, Value.int IntKind.u8 (flt (cutS' xs o n) (0 : Int) (0 : Int)).snd])) [some (Blk.mk false (1 :
     Nat) [Seg.ints IntKind.u8 N xs])])) :=
  Eq.trans (by kernel_rfl) (go_t (chk_t h1) rfl)
--CFEND
noncomputable def FFl : FSpec := fun args h k => match args, h with
  | [.slice (some ⟨0, o, none⟩) n _], [some ⟨false, 1, [.ints .u8 N xs]⟩] => bif chk (o + n ≤ N ∧ N ≤ 1000000) then k (.tuple #[u8v (flt (cutS' xs o n) 0 0).1, u8v (flt (cutS' xs o n) 0 0).2]) [rU N xs] else none
  | _, _ => none
def liveFlR : List Nat := [0, 2, 3, 4, 5, 6]
--CP pFlR (p q) (n c i : Nat) (xs : List Int) (on : List Value → Heap → Out) (out : Exit → List Value → Heap → Out) :: roundK Try.prog ((mkS []).on [(10, true)]) noL Try.f64.ntmps 1 (loopOf Try.f64 0) liveFlR [sl 0 n c, u8v 0, u8v 0, w63 p, w63 q, w63 i] [rU n xs] on out
theorem pFlR (p q) (n c i : Nat) (xs : List Int) (on : List Value → Heap → Out) (out : Exit → List Value → Heap → Out)
    (w1 : -9223372036854775808 ≤ xs.getD i (0 : Int) ∧ xs.getD i (0 : Int) ≤ 9223372036854775807 := by omega)
    (w2 : -9223372036854775808 ≤ p + xs.getD i (0 : Int) ∧ p + xs.getD i (0 : Int) ≤ 9223372036854775807 := by omega)
    (w3 : -9223372036854775808 ≤ (↑n : Int) - (↑i : Int) ∧ (↑n : Int) - (↑i : Int) ≤ 9223372036854775807 := by omega)
    (w4 : -9223372036854775808 ≤ xs.getD i (0 : Int) * ((↑n : Int) - (↑i : Int)).tmod (256 : Int) ∧ xs.getD i (0 : Int) * ((↑n : Int) - (↑i : Int)).tmod (256 : Int) ≤ 9223372036854775807 := by omega)
    (w5 : -9223372036854775808 ≤ q + xs.getD i (0 : Int) * ((↑n : Int) - (↑i : Int)).tmod (256 : Int) ∧ q + xs.getD i (0 : Int) * ((↑n : Int) - (↑i : Int)).tmod (256 : Int) ≤ 9223372036854775807 := by omega)
    (w6 : -9223372036854775808 ≤ (↑i : Int) + (1 : Int) ∧ (↑i : Int) + (1 : Int) ≤ 9223372036854775807 := by omega)
    (h1 : (↑i : Int) < (↑n : Int) := by first | omega | assumption | rfl)
    (h2 : (0 : Int) ≤ (↑i : Int) := by first | omega | assumption | rfl)
    (h3 : i < n := by first | omega | assumption | rfl) : roundK Try.prog ((mkS []).on [(10, true)]) noL Try.f64.ntmps 1 (loopOf Try.f64 0) liveFlR [sl 0 n c, u8v 0, u8v 0, w63 p, w63 q, w63 i] [rU n xs] on out =
     (on [Value.slice (some (Addr.mk (0 : Nat) (0 : Nat) none)) n c, Value.int IntKind.u8 (0 : Int), Value.int IntKind.u8 (0 : Int), Value.int IntKind.i64 ((p + xs.getD i (0 : Int)).tmod (256 : Int)),
     Value.int IntKind.i64 ((q + xs.getD i (0 : Int) * ((↑n : Int) - (↑i : Int)).tmod (256 : Int)).tmod (256 : Int)), Value.int IntKind.i64 ((↑i : Int) + (1 : Int))] [some (Blk.mk false (1 : Nat) [Seg.ints
     IntKind.u8 n xs])]) :=
  Eq.trans (b :=
     bif decide ((↑i : Int) < (↑n : Int)) then bif decide ((0 : Int) ≤ (↑i : Int)) && decide ((↑i : Int) < (↑n : Int)) then bif ((0 : Nat) + (↑i : Int).toNat * (1 : Nat)).blt n then bif decide ((0 : Int) ≤
     (↑i : Int)) && decide ((↑i : Int) < (↑n : Int)) then bif ((0 : Nat) + (↑i : Int).toNat * (1 : Nat)).blt n then on [Value.slice (some (Addr.mk (0 : Nat) (0 : Nat) none)) n c, Value.int IntKind.u8 (0 :
     Int), Value.int IntKind.u8 (0 : Int), Value.int IntKind.i64 ((IntKind.i64.wrap (p + IntKind.i64.wrap (xs.getD ((0 : Nat) + (↑i : Int).toNat * (1 : Nat)) (0 : Int)))).tmod (256 : Int)), Value.int
     IntKind.i64 ((IntKind.i64.wrap (q + IntKind.i64.wrap (IntKind.i64.wrap (xs.getD ((0 : Nat) + (↑i : Int).toNat * (1 : Nat)) (0 : Int)) * (IntKind.i64.wrap ((↑n : Int) - (↑i : Int))).tmod (256 :
     Int)))).tmod (256 : Int)), Value.int IntKind.i64 (IntKind.i64.wrap ((↑i : Int) + (1 : Int)))] [some (Blk.mk false (1 : Nat) [Seg.ints IntKind.u8 n xs])] else none else none else none else none else
     none) (by kernel_rfl) (by simp only [-eq_self, Int.toNat_natCast, Nat.mul_one, Nat.zero_add, swrap w1.1 w1.2, swrap w2.1 w2.2, swrap w3.1 w3.2, swrap w4.1 w4.2, swrap w5.1 w5.2, swrap w6.1 w6.2]; exact (go_t (dec_t h1) (go_t (and_t (dec_t h2) (dec_t h1)) (go_t (blt_t h3) (go_t (and_t (dec_t h2) (dec_t h1)) (go_t (blt_t h3) rfl))))))
--CFEND
--CP pFlRX (p q) (n c i : Nat) (xs : List Int) (on : List Value → Heap → Out) (out : Exit → List Value → Heap → Out) :: roundK Try.prog ((mkS []).on [(10, false)]) noL Try.f64.ntmps 1 (loopOf Try.f64 0) liveFlR [sl 0 n c, u8v 0, u8v 0, w63 p, w63 q, w63 i] [rU n xs] on out
theorem pFlRX (p q) (n c i : Nat) (xs : List Int) (on : List Value → Heap → Out) (out : Exit → List Value → Heap → Out)
    (h1 : ¬(↑i : Int) < (↑n : Int) := by first | omega | assumption | rfl) : roundK Try.prog ((mkS []).on [(10, false)]) noL Try.f64.ntmps 1 (loopOf Try.f64 0) liveFlR [sl 0 n c, u8v 0, u8v 0, w63 p, w63 q, w63 i] [rU n xs] on out =
     (out (Exit.exit (0 : Nat)) [Value.slice (some (Addr.mk (0 : Nat) (0 : Nat) none)) n c, Value.int IntKind.u8 (0 : Int), Value.int IntKind.u8 (0 : Int), Value.int IntKind.i64 p, Value.int IntKind.i64 q,
     Value.int IntKind.i64 (↑i : Int)] [some (Blk.mk false (1 : Nat) [Seg.ints IntKind.u8 n xs])]) :=
  Eq.trans (by kernel_rfl) (go_f (dec_f h1) rfl)
--CFEND
noncomputable def LFlRf : LF := fun vs h k => match vs, h with
  | [.slice (some ⟨0, 0, none⟩) n' c, .int .u8 0, .int .u8 0, .int .i64 0, .int .i64 0, .int .i64 0], [some ⟨false, 1, [.ints .u8 n xs]⟩] =>
    bif chk (n' = n ∧ n ≤ 1000000) then k (.exit 0) [sl 0 n c, u8v 0, u8v 0, w63 (fltP xs 0), w63 (fltQ xs 0), w63 n] [rU n xs] else none
  | _, _ => none
noncomputable def LFlR : LSpec := oneL 3 liveFlR LFlRf
--CF cfFlRF (n n' c : Nat) (xs : List Int) :: fnK Try.prog (mkS []) LFlR Try.f64 [sl 0 n' c] [rU n xs]
theorem cfFlRF (n n' c : Nat) (xs : List Int) : fnK Try.prog (mkS []) LFlR Try.f64 [sl 0 n' c] [rU n xs] =
     (bif chk (n' = n ∧ n ≤ 1000000) then some (Res.ret (Value.tuple (Array.mk [Value.int IntKind.u8 (IntKind.u8.wrap (fltP xs 0)), Value.int IntKind.u8 (IntKind.u8.wrap (fltQ xs 0))])) [some (Blk.mk false
     1 [Seg.ints IntKind.u8 n xs])]) else none) := by kernel_rfl
--CFEND
end Go.Proofs.Ytcjjngdkkihgjaa.VC

/- sums: Fletcher; the document's: what they are. -/
namespace Go.Proofs.Ytcjjngdkkihgjaa.VC
open Go Go.Proofs

theorem cutS_len {xs : List Int} {o n : Nat} (h : o + n ≤ xs.length) : (cutS' xs o n).length = n := by
  unfold cutS'; rw [List.length_take, List.length_drop]; omega
theorem cutS_get {xs : List Int} {o n i : Nat} (h : i < n) : (cutS' xs o n).getD i 0 = xs.getD (o + i) 0 := by
  unfold cutS'
  rw [List.getD_eq_getElem?_getD, List.getD_eq_getElem?_getD, List.getElem?_take_of_lt h, List.getElem?_drop]
theorem cutS_all {xs : List Int} {n : Nat} (h : xs.length = n) : cutS' xs 0 n = xs := by
  unfold cutS'; rw [List.drop_zero, List.take_of_length_le (by omega)]
theorem okFl1 : EntryOK Try.prog 98 FFl1 := by
  refine EntryOK.of_paths (fn := Try.f98) follows_ok Try.func98 (by kernel_rfl) (by kernel_rfl) ?_
  intro args h k out hF
  unfold FFl1 at hF
  split at hF
  · rename_i x p q
    refine ⟨_, _, hF, fun _ => ⟨_, noL, mk0, noL_ok, (cfFl1 x p q).trans ?_⟩⟩
    simp only [wU8]
    rfl
  · cases hF
theorem SEaF_ok : SpecOK Try.prog SEaF := mkS_cons okFl1 (mkS_nil _)
theorem loopEaFl {o n c N : Nat} {xs : List Int} (hn : o + n ≤ N) (hN : N ≤ 1000000) (hl : xs.length = N) : ∀ (r i : Nat) (p q : Int), i + r = n →
    LoopT Try.prog Try.f97.ntmps 3 (loopOf Try.f97 0) (zipS liveEa [fnFl, slo 0 o n c, w63 n, w63 i]) [rU N xs, o8 p, o8 q] (.exit 0) (zipS liveEa [fnFl, slo 0 o n c, w63 n, w63 n]) [rU N xs, o8 (flt ((cutS' xs o n).drop i) p q).1, o8 (flt ((cutS' xs o n).drop i) p q).2] := by
  intro r
  have hlen := cutS_len (xs := xs) (o := o) (n := n) (by omega)
  induction r with
  | zero =>
    intro i p q hi
    obtain rfl : i = n := by omega
    rw [List.drop_eq_nil_of_le (by omega), flt]
    exact LoopT.last (by intro h; cases h) (CodeT.out (SEaF_ok.on _) noL_ok fun on out => pEaFlX p q o i c i N xs on out)
  | succ r ih =>
    intro i p q hi
    rw [drop_one (q := i) (by omega), flt, cutS_get (by omega)]
    exact LoopT.step (CodeT.on (live := liveEa) (vs1 := [fnFl, slo 0 o n c, w63 n, w63 ((i + 1 : Nat) : Int)]) (h1 := [rU N xs, o8 _, o8 _]) (SEaF_ok.on [(9, true)]) noL_ok fun on out => pEaFl p q o n c i N xs on out) (ih (i + 1) _ _ (by omega))
theorem loopOKEaFl : LoopOK Try.prog Try.f97.ntmps 3 (loopOf Try.f97 0) liveEa LEaFlf := by
  refine LoopOK.of_T ?_
  intro vs h k out hk
  unfold LEaFlf at hk
  split at hk
  · obtain ⟨hb, hk2⟩ := bif_t hk
    obtain ⟨h0, rfl, h3, h4⟩ := chk_iff.1 hb
    refine ⟨_, _, _, hk2, fun real => ?_⟩
    have hs := real.segs (i := 0) rfl rfl _ (List.mem_cons_self ..)
    exact loopEaFl h3 h4 hs.1 _ 0 0 0 (Nat.zero_add _)
  · cases hk
theorem loopsEaFl : LoopsOK Try.prog LEaFl Try.f97.ntmps 3 (bodyOf Try.f97) := loops_one rfl (by kernel_rfl) loopOKEaFl
theorem okEaFl : EntryOK Try.prog 97 FEaFl := by
  refine EntryOK.of_paths (fn := Try.f97) follows_ok Try.func97 (by kernel_rfl) (by kernel_rfl) ?_
  intro args h k out hF
  unfold FEaFl at hF
  split at hF
  · obtain ⟨hb, hF2⟩ := bif_t hF
    obtain ⟨h1, h2⟩ := chk_iff.1 hb
    exact ⟨_, _, hF2, fun _ => ⟨_, LEaFl, mk0, loopsEaFl, pEaFlF _ _ _ _ _⟩⟩
  · cases hF
theorem okFl : EntryOK Try.prog 63 FFl := by
  refine EntryOK.of_paths (fn := Try.f63) follows_ok Try.func63 (by kernel_rfl) (by kernel_rfl) ?_
  intro args h k out hF
  unfold FFl at hF
  split at hF
  · obtain ⟨hb, hF2⟩ := bif_t hF
    have hc := chk_iff.1 hb
    exact ⟨_, _, hF2, fun _ => ⟨SFl, noL, mkS_cons okEaFl (mkS_nil _), noL_ok, pFl _ _ _ _ _ hc⟩⟩
  · cases hF
theorem loopFlR {n c : Nat} {xs : List Int} (hn : n ≤ 1000000) (hl : xs.length = n) (hx : ∀ x ∈ xs, 0 ≤ x ∧ x ≤ 255) : ∀ (r i : Nat) (p q : Int), (0 ≤ p ∧ p < 256) → (0 ≤ q ∧ q < 256) → i + r = n →
    LoopT Try.prog Try.f64.ntmps 1 (loopOf Try.f64 0) (zipS liveFlR [sl 0 n c, u8v 0, u8v 0, w63 p, w63 q, w63 i]) [rU n xs] (.exit 0) (zipS liveFlR [sl 0 n c, u8v 0, u8v 0, w63 (fltP (xs.drop i) p), w63 (fltQ (xs.drop i) q), w63 n]) [rU n xs] := by
  intro r
  induction r with
  | zero =>
    intro i p q hp hq hi
    obtain rfl : i = n := by omega
    rw [List.drop_eq_nil_of_le (by omega), fltP, fltQ]
    exact LoopT.last (by intro h; cases h) (CodeT.out (mk0.on _) noL_ok fun on out => pFlRX p q i c i xs on out)
  | succ r ih =>
    intro i p q hp hq hi
    have hb := getD_rng0 hx (i := i) (by omega)
    have hd : ((xs.drop (i + 1)).length : Int) + 1 = (n : Int) - i := by rw [List.length_drop]; omega
    rw [drop_one (q := i) (by omega), fltP, fltQ, hd]
    have e1 : (p + xs.getD i 0).tmod 256 = (p + xs.getD i 0) % 256 := Int.tmod_eq_emod_of_nonneg (by omega)
    have e2 : ((n : Int) - i).tmod 256 = ((n : Int) - i) % 256 := Int.tmod_eq_emod_of_nonneg (by omega)
    have hm : 0 ≤ xs.getD i 0 * (((n : Int) - i) % 256) ∧ xs.getD i 0 * (((n : Int) - i) % 256) ≤ 255 * 255 := by
      have hu : 0 ≤ ((n : Int) - i) % 256 ∧ ((n : Int) - i) % 256 ≤ 255 := by omega
      exact ⟨Int.mul_nonneg hb.1 hu.1, Int.mul_le_mul hb.2 hu.2 hu.1 (by decide)⟩
    have e3 : (q + xs.getD i 0 * (((n : Int) - i) % 256)).tmod 256 = (q + xs.getD i 0 * (((n : Int) - i) % 256)) % 256 := Int.tmod_eq_emod_of_nonneg (by omega)
    refine LoopT.step (CodeT.on (live := liveFlR) (vs1 := [sl 0 n c, u8v 0, u8v 0, w63 _, w63 _, w63 ((i + 1 : Nat) : Int)]) (h1 := [rU n xs]) (mk0.on [(10, true)]) noL_ok fun on out => ?_) (ih (i + 1) _ _ (by omega) (by omega) (by omega))
    have key := @pFlR p q n c i xs on out
    rw [e1, e2, e3] at key
    generalize hv : xs.getD i 0 * (((n : Int) - i) % 256) = v at *
    exact key (by omega) (by omega) (by omega) (by omega) (by omega) (by omega) (by omega) (by omega) (by omega)
theorem loopOKFlR : LoopOK Try.prog Try.f64.ntmps 1 (loopOf Try.f64 0) liveFlR LFlRf := by
  refine LoopOK.of_T ?_
  intro vs h k out hk
  unfold LFlRf at hk
  split at hk
  · obtain ⟨hb, hk2⟩ := bif_t hk
    obtain ⟨rfl, h3⟩ := chk_iff.1 hb
    refine ⟨_, _, _, hk2, fun real => ?_⟩
    have hs := real.segs (i := 0) rfl rfl _ (List.mem_cons_self ..)
    exact loopFlR h3 hs.1 (fun x hx => hs.2 x hx) _ 0 0 0 (by decide) (by decide) (Nat.zero_add _)
  · cases hk
theorem loopsFlR : LoopsOK Try.prog LFlR Try.f64.ntmps 1 (bodyOf Try.f64) := loops_one rfl (by kernel_rfl) loopOKFlR
noncomputable def FFl0 : FSpec := fun args h k => match args, h with
  | [.slice (some ⟨0, 0, none⟩) n' _], [some ⟨false, 1, [.ints .u8 n xs]⟩] => bif chk (n' = n ∧ n ≤ 1000000) then k (.tuple #[u8v (flt xs 0 0).1, u8v (flt xs 0 0).2]) [rU n xs] else none
  | _, _ => none
theorem okFlR : EntryOK Try.prog 64 FFl0 := by
  refine EntryOK.of_paths (fn := Try.f64) follows_ok Try.func64 (by kernel_rfl) (by kernel_rfl) ?_
  intro args h k out hF
  unfold FFl0 at hF
  split at hF
  · rename_i n' c n xs
    obtain ⟨hb, hF2⟩ := bif_t hF
    have hc := chk_iff.1 hb
    refine ⟨_, _, hF2, fun real => ⟨_, LFlR, mk0, loopsFlR, (cfFlRF n n' c xs).trans (go_t (chk_t hc) ?_)⟩⟩
    have hq := flt_Q xs 0 0 0 0 (by decide) (by decide) (by omega)
    have hr := flt_rng xs (p := 0) (q := 0) (by decide) (by decide)
    rw [flt_P] at hr ⊢
    rw [← hq] at hr ⊢
    rw [wU8, wU8, Int.emod_eq_of_lt (by omega) (by omega), Int.emod_eq_of_lt (by omega) (by omega)]
  · cases hF
end Go.Proofs.Ytcjjngdkkihgjaa.VC

/- ubx, the document's: Layout; Decode: closed forms. -/
namespace Go.Proofs.Ytcjjngdkkihgjaa.VC
open Go Go.Proofs

--CF cfLayUR (x y) :: fnK Try.prog (mkS []) noL Try.f22 [u8v x, u8v y] []
theorem cfLayUR (x y) : fnK Try.prog (mkS []) noL Try.f22 [u8v x, u8v y] [] =
     (bif IntKind.i64.wrap (IntKind.i64.wrap (IntKind.i64.wrap x * 256) + IntKind.i64.wrap y) == 263 then some (Res.ret (Value.tuple (Array.mk [Value.int IntKind.i64 92, Value.slice (some (Addr.mk 0 0
     none)) 24 0])) [some (Blk.mk true 1 [Seg.ints IntKind.i64 24 [0, 4, 4, 2, 6, 1, 7, 1, 8, 1, 9, 1, 10, 1, 11, 1, 12, 4, 16, -4, 20, 1, 21, 1]])]) else bif IntKind.i64.wrap (IntKind.i64.wrap
     (IntKind.i64.wrap x * 256) + IntKind.i64.wrap y) == 288 then some (Res.ret (Value.tuple (Array.mk [Value.int IntKind.i64 16, Value.slice (some (Addr.mk 0 0 none)) 12 0])) [some (Blk.mk true 1
     [Seg.ints IntKind.i64 12 [0, 4, 4, -4, 8, 2, 10, -1, 11, 1, 12, 4]])]) else bif IntKind.i64.wrap (IntKind.i64.wrap (IntKind.i64.wrap x * 256) + IntKind.i64.wrap y) == 289 then some (Res.ret
     (Value.tuple (Array.mk [Value.int IntKind.i64 20, Value.slice (some (Addr.mk 0 0 none)) 20 0])) [some (Blk.mk true 1 [Seg.ints IntKind.i64 20 [0, 4, 4, 4, 8, -4, 12, 2, 14, 1, 15, 1, 16, 1, 17, 1, 18,
     1, 19, 1]])]) else bif IntKind.i64.wrap (IntKind.i64.wrap (IntKind.i64.wrap x * 256) + IntKind.i64.wrap y) == 294 then some (Res.ret (Value.tuple (Array.mk [Value.int IntKind.i64 24, Value.slice (some
     (Addr.mk 0 0 none)) 20 0])) [some (Blk.mk true 1 [Seg.ints IntKind.i64 20 [0, 4, 4, 1, 8, 1, 9, -1, 10, 1, 11, -1, 12, -4, 16, 2, 18, 2, 23, 1]])]) else bif IntKind.i64.wrap (IntKind.i64.wrap
     (IntKind.i64.wrap x * 256) + IntKind.i64.wrap y) == 3329 then some (Res.ret (Value.tuple (Array.mk [Value.int IntKind.i64 16, Value.slice (some (Addr.mk 0 0 none)) 12 0])) [some (Blk.mk true 1
     [Seg.ints IntKind.i64 12 [0, 4, 4, 4, 8, -4, 12, 2, 14, 1, 15, 1]])]) else bif IntKind.i64.wrap (IntKind.i64.wrap (IntKind.i64.wrap x * 256) + IntKind.i64.wrap y) == 1280 then some (Res.ret
     (Value.tuple (Array.mk [Value.int IntKind.i64 2, Value.slice (some (Addr.mk 0 0 none)) 4 0])) [some (Blk.mk true 1 [Seg.ints IntKind.i64 4 [0, 1, 1, 1]])]) else bif IntKind.i64.wrap (IntKind.i64.wrap
     (IntKind.i64.wrap x * 256) + IntKind.i64.wrap y) == 1281 then some (Res.ret (Value.tuple (Array.mk [Value.int IntKind.i64 2, Value.slice (some (Addr.mk 0 0 none)) 4 0])) [some (Blk.mk true 1 [Seg.ints
     IntKind.i64 4 [0, 1, 1, 1]])]) else bif IntKind.i64.wrap (IntKind.i64.wrap (IntKind.i64.wrap x * 256) + IntKind.i64.wrap y) == 1537 then some (Res.ret (Value.tuple (Array.mk [Value.int IntKind.i64 3,
     Value.slice (some (Addr.mk 0 0 none)) 6 0])) [some (Blk.mk true 1 [Seg.ints IntKind.i64 6 [0, 1, 1, 1, 2, 1]])]) else bif IntKind.i64.wrap (IntKind.i64.wrap (IntKind.i64.wrap x * 256) +
     IntKind.i64.wrap y) == 1544 then some (Res.ret (Value.tuple (Array.mk [Value.int IntKind.i64 6, Value.slice (some (Addr.mk 0 0 none)) 6 0])) [some (Blk.mk true 1 [Seg.ints IntKind.i64 6 [0, 2, 2, 2,
     4, 2]])]) else bif IntKind.i64.wrap (IntKind.i64.wrap (IntKind.i64.wrap x * 256) + IntKind.i64.wrap y) == 1585 then some (Res.ret (Value.tuple (Array.mk [Value.int IntKind.i64 32, Value.slice (some
     (Addr.mk 0 0 none)) 10 0])) [some (Blk.mk true 1 [Seg.ints IntKind.i64 10 [0, 1, 4, -2, 8, 4, 16, 4, 28, 4]])]) else some (Res.ret (Value.tuple (Array.mk [Value.int IntKind.i64 0, Value.slice none 0
     0])) [])) := by kernel_rfl
--CFEND
noncomputable def FLayURv (len : Nat) (fl : List Int) : FSpec := fun args h k => match args, h with
  | [.int .u8 x, .int .u8 y], [] => bif chk (layU x y = some (len, fl)) then k (.tuple #[w63 len, sl 0 fl.length 0]) [oI fl.length fl] else none
  | _, _ => none
noncomputable def FLayURn : FSpec := fun args h k => match args, h with
  | [.int .u8 x, .int .u8 y], [] => bif chk (layU x y = none) then k (.tuple #[w63 0, .slice none 0 0]) [] else none
  | _, _ => none
noncomputable def SDecUR : Spec := mkS [(59, false, FGetR)]
def liveDecUR : List Nat := [2, 6, 7, 9, 10, 11]
--CP pDuR (x y) (o n c i k N : Nat) (xs vs fl : List Int) (on : List Value → Heap → Out) (out : Exit → List Value → Heap → Out) :: roundK Try.prog (SDecUR.on [(32, true)]) noL Try.f16.ntmps 1 (loopOf Try.f16 0) liveDecUR [slo 0 o n c, pt 1, w63 0, sl 2 (2 * k) 0, pt 3, w63 ((2 * i : Nat))] [rU N xs, uB 0 0 (.slice none 0 0), oI (2 * k) fl, uB x y (sl 4 i 1), oI i vs] on out
theorem pDuR (x y) (o n c i k N : Nat) (xs vs fl : List Int) (on : List Value → Heap → Out) (out : Exit → List Value → Heap → Out)
    (w1 : -9223372036854775808 ≤ (↑((2 : Nat) * i) : Int) + (1 : Int) ∧ (↑((2 : Nat) * i) : Int) + (1 : Int) ≤ 9223372036854775807 := by omega)
    (w2 : -9223372036854775808 ≤ (↑((2 : Nat) * i) : Int) + (2 : Int) ∧ (↑((2 : Nat) * i) : Int) + (2 : Int) ≤ 9223372036854775807 := by omega)
    (h1 : (↑((2 : Nat) * i) : Int) < (↑((2 : Nat) * k) : Int) := by first | omega | assumption | rfl)
    (h2 : (0 : Int) ≤ (↑((2 : Nat) * i) : Int) := by first | omega | assumption | rfl)
    (h3 : (2 : Nat) * i < (2 : Nat) * k := by first | omega | assumption | rfl)
    (h4 : (0 : Int) ≤ (↑((2 : Nat) * i) : Int) + (1 : Int) := by first | omega | assumption | rfl)
    (h5 : (↑((2 : Nat) * i) : Int) + (1 : Int) < (↑((2 : Nat) * k) : Int) := by first | omega | assumption | rfl)
    (h6 : ((↑((2 : Nat) * i) : Int) + (1 : Int)).toNat < (2 : Nat) * k := by first | omega | assumption | rfl)
    (h7 : (-4 : Int) ≤ fl.getD ((↑((2 : Nat) * i) : Int) + (1 : Int)).toNat (0 : Int) ∧ fl.getD ((↑((2 : Nat) * i) : Int) + (1 : Int)).toNat (0 : Int) ≤ (4 : Int) ∧ fl.getD ((↑((2 : Nat) * i) : Int) + (1 : Int)).toNat (0 : Int) ≠ (0 : Int) ∧ (0 : Int) ≤ fl.getD ((2 : Nat) * i) (0 : Int) ∧ fl.getD ((2 : Nat) * i) (0 : Int) + manyI (fl.getD ((↑((2 : Nat) * i) : Int) + (1 : Int)).toNat (0 : Int)) ≤ (↑n : Int) ∧ o + n ≤ N ∧ N ≤ (1000000 : Nat) := by first | omega | assumption | rfl | ((repeat' with_reducible apply And.intro) <;> first | rfl | assumption | omega))
    (h8 : i ≤ i := by first | omega | assumption | rfl)
    (h9 : (i + (1 : Nat)) * (8 : Nat) ≤ (140737488355328 : Nat) := by first | omega | assumption | rfl)
    (h10 : i + (1 : Nat) ≤ (4611686018427387904 : Nat) := by first | omega | assumption | rfl)
    (h11 : i = i := by first | omega | assumption | rfl) : roundK Try.prog (SDecUR.on [(32, true)]) noL Try.f16.ntmps 1 (loopOf Try.f16 0) liveDecUR [slo 0 o n c, pt 1, w63 0, sl 2 (2 * k) 0, pt 3, w63 ((2 * i : Nat))] [rU N xs, uB 0 0 (.slice none 0 0), oI (2 * k) fl, uB x y (sl 4 i 1), oI i vs] on out =
     (on [Value.slice (some (Addr.mk (0 : Nat) o none)) n c, Value.pointer (some (Addr.mk (1 : Nat) (0 : Nat) none)), Value.int IntKind.i64 (0 : Int), Value.slice (some (Addr.mk (2 : Nat) (0 : Nat) none))
     ((2 : Nat) * k) (0 : Nat), Value.pointer (some (Addr.mk (3 : Nat) (0 : Nat) none)), Value.int IntKind.i64 ((↑((2 : Nat) * i) : Int) + (2 : Int))] [some (Blk.mk false (1 : Nat) [Seg.ints IntKind.u8 N
     xs]), some (Blk.mk true (3 : Nat) [Seg.ints IntKind.u8 (2 : Nat) [(0 : Int), (0 : Int)], Seg.vals [Value.slice none (0 : Nat) (0 : Nat)]]), some (Blk.mk true (1 : Nat) [Seg.ints IntKind.i64 ((2 : Nat)
     * k) fl]), some (Blk.mk true (3 : Nat) [Seg.ints IntKind.u8 (2 : Nat) [x, y], Seg.vals [Value.slice (some (Addr.mk (4 : Nat) (0 : Nat) none)) (i + (1 : Nat)) (1 : Nat)]]), some (Blk.mk true (1 : Nat)
     [Seg.ints IntKind.i64 (i + (1 : Nat)) (List.take i vs ++ [getL xs o (fl.getD ((2 : Nat) * i) (0 : Int)) (fl.getD ((↑((2 : Nat) * i) : Int) + (1 : Int)).toNat (0 : Int))])])]) :=
  Eq.trans (b :=
     bif decide ((↑((2 : Nat) * i) : Int) < (↑((2 : Nat) * k) : Int)) then bif decide ((0 : Int) ≤ (↑((2 : Nat) * i) : Int)) && decide ((↑((2 : Nat) * i) : Int) < (↑((2 : Nat) * k) : Int)) then bif ((0 :
     Nat) + (↑((2 : Nat) * i) : Int).toNat * (1 : Nat)).blt ((2 : Nat) * k) then bif decide ((0 : Int) ≤ IntKind.i64.wrap ((↑((2 : Nat) * i) : Int) + (1 : Int))) && decide (IntKind.i64.wrap ((↑((2 : Nat) *
     i) : Int) + (1 : Int)) < (↑((2 : Nat) * k) : Int)) then bif ((0 : Nat) + (IntKind.i64.wrap ((↑((2 : Nat) * i) : Int) + (1 : Int))).toNat * (1 : Nat)).blt ((2 : Nat) * k) then bif chk ((-4 : Int) ≤
     fl.getD ((0 : Nat) + (IntKind.i64.wrap ((↑((2 : Nat) * i) : Int) + (1 : Int))).toNat * (1 : Nat)) (0 : Int) ∧ fl.getD ((0 : Nat) + (IntKind.i64.wrap ((↑((2 : Nat) * i) : Int) + (1 : Int))).toNat * (1
     : Nat)) (0 : Int) ≤ (4 : Int) ∧ fl.getD ((0 : Nat) + (IntKind.i64.wrap ((↑((2 : Nat) * i) : Int) + (1 : Int))).toNat * (1 : Nat)) (0 : Int) ≠ (0 : Int) ∧ (0 : Int) ≤ fl.getD ((0 : Nat) + (↑((2 : Nat)
     * i) : Int).toNat * (1 : Nat)) (0 : Int) ∧ fl.getD ((0 : Nat) + (↑((2 : Nat) * i) : Int).toNat * (1 : Nat)) (0 : Int) + manyI (fl.getD ((0 : Nat) + (IntKind.i64.wrap ((↑((2 : Nat) * i) : Int) + (1 :
     Int))).toNat * (1 : Nat)) (0 : Int)) ≤ (↑n : Int) ∧ o + n ≤ N ∧ N ≤ (1000000 : Nat)) then bif (i * (1 : Nat)).ble i then bif decide ((i + (1 : Nat)) * (8 : Nat) ≤ (140737488355328 : Nat)) && (i + (1 :
     Nat)).ble (OfNat.ofNat (4611686018427387904 : Nat)) then bif ((0 : Nat) + i * (1 : Nat)).beq i && true then on [Value.slice (some (Addr.mk (0 : Nat) o none)) n c, Value.pointer (some (Addr.mk (1 :
     Nat) (0 : Nat) none)), Value.int IntKind.i64 (0 : Int), Value.slice (some (Addr.mk (2 : Nat) (0 : Nat) none)) ((2 : Nat) * k) (0 : Nat), Value.pointer (some (Addr.mk (3 : Nat) (0 : Nat) none)),
     Value.int IntKind.i64 (IntKind.i64.wrap ((↑((2 : Nat) * i) : Int) + (2 : Int)))] [some (Blk.mk false (1 : Nat) [Seg.ints IntKind.u8 N xs]), some (Blk.mk true (3 : Nat) [Seg.ints IntKind.u8 (2 : Nat)
     [(0 : Int), (0 : Int)], Seg.vals [Value.slice none (0 : Nat) (0 : Nat)]]), some (Blk.mk true (1 : Nat) [Seg.ints IntKind.i64 ((2 : Nat) * k) fl]), some (Blk.mk true (3 : Nat) [Seg.ints IntKind.u8 (2 :
     Nat) [x, y], Seg.vals [Value.slice (some (Addr.mk (4 : Nat) (0 : Nat) none)) (i + (1 : Nat)) (1 : Nat)]]), some (Blk.mk true (1 : Nat) [Seg.ints IntKind.i64 (i * (1 : Nat) + (1 : Nat)) (List.take (i *
     (1 : Nat)) vs ++ [getL xs o (fl.getD ((0 : Nat) + (↑((2 : Nat) * i) : Int).toNat * (1 : Nat)) (0 : Int)) (fl.getD ((0 : Nat) + (IntKind.i64.wrap ((↑((2 : Nat) * i) : Int) + (1 : Int))).toNat * (1 :
     Nat)) (0 : Int))])])] else none else none else none else none else none else none else none else none else none) (by kernel_rfl) (by simp only [-eq_self, Int.toNat_natCast, Nat.mul_one, Nat.zero_add, swrap w1.1 w1.2, swrap w2.1 w2.2]; exact (go_t (dec_t h1) (go_t (and_t (dec_t h2) (dec_t h1)) (go_t (blt_t h3) (go_t (and_t (dec_t h4) (dec_t h5)) (go_t (blt_t h6) (go_t (chk_t h7) (go_t (ble_t h8) (go_t (and_t (dec_t h9) (ble_t h10)) (go_t (and_t (beq_t h11) rfl) rfl))))))))))
--CFEND
--CP pDuR0 (x y) (o n c k N : Nat) (xs fl : List Int) (on : List Value → Heap → Out) (out : Exit → List Value → Heap → Out) :: roundK Try.prog (SDecUR.on [(32, true)]) noL Try.f16.ntmps 1 (loopOf Try.f16 0) liveDecUR [slo 0 o n c, pt 1, w63 0, sl 2 (2 * k) 0, pt 3, w63 0] [rU N xs, uB 0 0 (.slice none 0 0), oI (2 * k) fl, uB x y (.slice none 0 0)] on out
theorem pDuR0 (x y) (o n c k N : Nat) (xs fl : List Int) (on : List Value → Heap → Out) (out : Exit → List Value → Heap → Out)
    (h1 : (0 : Int) < (↑((2 : Nat) * k) : Int) := by first | omega | assumption | rfl)
    (h2 : (0 : Nat) < (2 : Nat) * k := by first | omega | assumption | rfl)
    (h3 : (1 : Int) < (↑((2 : Nat) * k) : Int) := by first | omega | assumption | rfl)
    (h4 : (1 : Nat) < (2 : Nat) * k := by first | omega | assumption | rfl)
    (h5 : (-4 : Int) ≤ fl.getD (1 : Nat) (0 : Int) ∧ fl.getD (1 : Nat) (0 : Int) ≤ (4 : Int) ∧ fl.getD (1 : Nat) (0 : Int) ≠ (0 : Int) ∧ (0 : Int) ≤ fl.getD (0 : Nat) (0 : Int) ∧ fl.getD (0 : Nat) (0 : Int) + manyI (fl.getD (1 : Nat) (0 : Int)) ≤ (↑n : Int) ∧ o + n ≤ N ∧ N ≤ (1000000 : Nat) := by first | omega | assumption | rfl | ((repeat' with_reducible apply And.intro) <;> first | rfl | assumption | omega)) : roundK Try.prog (SDecUR.on [(32, true)]) noL Try.f16.ntmps 1 (loopOf Try.f16 0) liveDecUR [slo 0 o n c, pt 1, w63 0, sl 2 (2 * k) 0, pt 3, w63 0] [rU N xs, uB 0 0 (.slice none 0 0), oI (2 * k) fl, uB x y (.slice none 0 0)] on out =
     (on [Value.slice (some (Addr.mk (0 : Nat) o none)) n c, Value.pointer (some (Addr.mk (1 : Nat) (0 : Nat) none)), Value.int IntKind.i64 (0 : Int), Value.slice (some (Addr.mk (2 : Nat) (0 : Nat) none))
     ((2 : Nat) * k) (0 : Nat), Value.pointer (some (Addr.mk (3 : Nat) (0 : Nat) none)), Value.int IntKind.i64 (2 : Int)] [some (Blk.mk false (1 : Nat) [Seg.ints IntKind.u8 N xs]), some (Blk.mk true (3 :
     Nat) [Seg.ints IntKind.u8 (2 : Nat) [(0 : Int), (0 : Int)], Seg.vals [Value.slice none (0 : Nat) (0 : Nat)]]), some (Blk.mk true (1 : Nat) [Seg.ints IntKind.i64 ((2 : Nat) * k) fl]), some (Blk.mk true
     (3 : Nat) [Seg.ints IntKind.u8 (2 : Nat) [x, y], Seg.vals [Value.slice (some (Addr.mk (4 : Nat) (0 : Nat) none)) (1 : Nat) (1 : Nat)]]), some (Blk.mk true (1 : Nat) [Seg.ints IntKind.i64 (1 : Nat)
     [getL xs o (fl.getD (0 : Nat) (0 : Int)) (fl.getD (1 : Nat) (0 : Int))]])]) :=
  Eq.trans (b :=
     bif decide ((0 : Int) < (↑((2 : Nat) * k) : Int)) then bif decide ((0 : Int) < (↑((2 : Nat) * k) : Int)) then bif Nat.blt (0 : Nat) ((2 : Nat) * k) then bif decide ((1 : Int) < (↑((2 : Nat) * k) :
     Int)) then bif Nat.blt (1 : Nat) ((2 : Nat) * k) then bif chk ((-4 : Int) ≤ fl.getD (1 : Nat) (0 : Int) ∧ fl.getD (1 : Nat) (0 : Int) ≤ (4 : Int) ∧ fl.getD (1 : Nat) (0 : Int) ≠ (0 : Int) ∧ (0 : Int)
     ≤ fl.getD (0 : Nat) (0 : Int) ∧ fl.getD (0 : Nat) (0 : Int) + manyI (fl.getD (1 : Nat) (0 : Int)) ≤ (↑n : Int) ∧ o + n ≤ N ∧ N ≤ (1000000 : Nat)) then on [Value.slice (some (Addr.mk (0 : Nat) o none))
     n c, Value.pointer (some (Addr.mk (1 : Nat) (0 : Nat) none)), Value.int IntKind.i64 (0 : Int), Value.slice (some (Addr.mk (2 : Nat) (0 : Nat) none)) ((2 : Nat) * k) (0 : Nat), Value.pointer (some
     (Addr.mk (3 : Nat) (0 : Nat) none)), Value.int IntKind.i64 (2 : Int)] [some (Blk.mk false (1 : Nat) [Seg.ints IntKind.u8 N xs]), some (Blk.mk true (3 : Nat) [Seg.ints IntKind.u8 (2 : Nat) [(0 : Int),
     (0 : Int)], Seg.vals [Value.slice none (0 : Nat) (0 : Nat)]]), some (Blk.mk true (1 : Nat) [Seg.ints IntKind.i64 ((2 : Nat) * k) fl]), some (Blk.mk true (3 : Nat) [Seg.ints IntKind.u8 (2 : Nat) [x,
     y], Seg.vals [Value.slice (some (Addr.mk (4 : Nat) (0 : Nat) none)) (1 : Nat) (1 : Nat)]]), some (Blk.mk true (1 : Nat) [Seg.ints IntKind.i64 (1 : Nat) [getL xs o (fl.getD (0 : Nat) (0 : Int))
     (fl.getD (1 : Nat) (0 : Int))]])] else none else none else none else none else none else none) (by kernel_rfl) (by exact (go_t (dec_t h1) (go_t (dec_t h1) (go_t (blt_t h2) (go_t (dec_t h3) (go_t (blt_t h4) (go_t (chk_t h5) rfl)))))))
--CFEND
--CP pDuX (x y) (o n c i k N : Nat) (xs vs fl : List Int) (on : List Value → Heap → Out) (out : Exit → List Value → Heap → Out) :: roundK Try.prog (SDecUR.on [(32, false)]) noL Try.f16.ntmps 1 (loopOf Try.f16 0) liveDecUR [slo 0 o n c, pt 1, w63 0, sl 2 (2 * k) 0, pt 3, w63 ((2 * i : Nat))] [rU N xs, uB 0 0 (.slice none 0 0), oI (2 * k) fl, uB x y (sl 4 i 1), oI i vs] on out
theorem pDuX (x y) (o n c i k N : Nat) (xs vs fl : List Int) (on : List Value → Heap → Out) (out : Exit → List Value → Heap → Out)
    (h1 : ¬(↑((2 : Nat) * i) : Int) < (↑((2 : Nat) * k) : Int) := by first | omega | assumption | rfl) : roundK Try.prog (SDecUR.on [(32, false)]) noL Try.f16.ntmps 1 (loopOf Try.f16 0) liveDecUR [slo 0 o n c, pt 1, w63 0, sl 2 (2 * k) 0, pt 3, w63 ((2 * i : Nat))] [rU N xs, uB 0 0 (.slice none 0 0), oI (2 * k) fl, uB x y (sl 4 i 1), oI i vs] on out =
     (out (Exit.exit (0 : Nat)) [Value.slice (some (Addr.mk (0 : Nat) o none)) n c, Value.pointer (some (Addr.mk (1 : Nat) (0 : Nat) none)), Value.int IntKind.i64 (0 : Int), Value.slice (some (Addr.mk (2 :
     Nat) (0 : Nat) none)) ((2 : Nat) * k) (0 : Nat), Value.pointer (some (Addr.mk (3 : Nat) (0 : Nat) none)), Value.int IntKind.i64 (↑((2 : Nat) * i) : Int)] [some (Blk.mk false (1 : Nat) [Seg.ints
     IntKind.u8 N xs]), some (Blk.mk true (3 : Nat) [Seg.ints IntKind.u8 (2 : Nat) [(0 : Int), (0 : Int)], Seg.vals [Value.slice none (0 : Nat) (0 : Nat)]]), some (Blk.mk true (1 : Nat) [Seg.ints
     IntKind.i64 ((2 : Nat) * k) fl]), some (Blk.mk true (3 : Nat) [Seg.ints IntKind.u8 (2 : Nat) [x, y], Seg.vals [Value.slice (some (Addr.mk (4 : Nat) (0 : Nat) none)) i (1 : Nat)]]), some (Blk.mk true
     (1 : Nat) [Seg.ints IntKind.i64 i vs])]) :=
  Eq.trans (by kernel_rfl) (go_f (dec_f h1) rfl)
--CFEND
noncomputable def LDuf : LF := fun vs h k => match vs, h with
  | [.slice (some ⟨0, o, none⟩) n c, .pointer (some ⟨1, 0, none⟩), .int .i64 0, .slice (some ⟨2, 0, none⟩) q 0, .pointer (some ⟨3, 0, none⟩), .int .i64 0], [some ⟨false, 1, [.ints .u8 N xs]⟩, some ⟨true, 3, [.ints .u8 2 [0, 0], .vals [.slice none 0 0]]⟩, some ⟨true, 1, [.ints .i64 Q fl]⟩, some ⟨true, 3, [.ints .u8 2 [x, y], .vals [.slice none 0 0]]⟩] =>
    bif chk (Q = q ∧ 2 * (q / 2) = q ∧ 0 < q / 2 ∧ q / 2 ≤ 100 ∧ fldsOK n fl (q / 2) ∧ o + n ≤ N ∧ N ≤ 1000000) then
      k (.exit 0) [slo 0 o n c, pt 1, w63 0, sl 2 q 0, pt 3, w63 q] [rU N xs, uB 0 0 (.slice none 0 0), oI q fl, uB x y (sl 4 (q / 2) 1), oI (q / 2) (decL xs o fl (q / 2))] else none
  | _, _ => none
noncomputable def LDu : LSpec := oneL 8 liveDecUR LDuf
noncomputable def SDecURv (len : Nat) (fl : List Int) : Spec := mkS [(22, false, FLayURv len fl)]
noncomputable def SDecURn : Spec := mkS [(22, false, FLayURn)]
--CP pDuN (x y) (o n c N : Nat) (xs : List Int) :: fnK Try.prog (SDecURn.on [(19, true)]) LDu Try.f16 [u8v x, u8v y, slo 0 o n c] [rU N xs]
theorem pDuN (x y) (o n c N : Nat) (xs : List Int)
    (h1 : layU x y = none := by first | omega | assumption | rfl) : fnK Try.prog (SDecURn.on [(19, true)]) LDu Try.f16 [u8v x, u8v y, slo 0 o n c] [rU N xs] =
     (some (Res.ret (Value.tuple (Array.mk [Value.agg (Array.mk [Value.int IntKind.u8 (0 : Int), Value.int IntKind.u8 (0 : Int), Value.slice none (0 : Nat) (0 : Nat)]), Value.int IntKind.i64 (7 : Int)]))
     [some (Blk.mk false (1 : Nat) [Seg.ints IntKind.u8 N xs])])) :=
  Eq.trans (by kernel_rfl) (go_t (chk_t h1) rfl)
--CFEND
--CP pDuF (x y) (o n c N len : Nat) (xs fl : List Int) :: fnK Try.prog ((SDecURv len fl).on [(19, false), (24, true)]) LDu Try.f16 [u8v x, u8v y, slo 0 o n c] [rU N xs]
theorem pDuF (x y) (o n c N len : Nat) (xs fl : List Int)
    (h1 : layU x y = some (len, fl) := by first | omega | assumption | rfl)
    (h2 : (↑len : Int) ≠ (0 : Int) := by first | omega | assumption | rfl)
    (h3 : (↑n : Int) ≠ (↑len : Int) := by first | omega | assumption | rfl) : fnK Try.prog ((SDecURv len fl).on [(19, false), (24, true)]) LDu Try.f16 [u8v x, u8v y, slo 0 o n c] [rU N xs] =
     (some (Res.ret (Value.tuple (Array.mk [Value.agg (Array.mk [Value.int IntKind.u8 (0 : Int), Value.int IntKind.u8 (0 : Int), Value.slice none (0 : Nat) (0 : Nat)]), Value.int IntKind.i64 (5 : Int)]))
     [some (Blk.mk false (1 : Nat) [Seg.ints IntKind.u8 N xs])])) :=
  Eq.trans (by kernel_rfl) (go_t (chk_t h1) (go_f (eqb_f h2) (go_t (bne_t h3) rfl)))
--CFEND
--CP pDuK (x y) (o n c N len : Nat) (xs fl : List Int) :: fnK Try.prog ((SDecURv len fl).on [(19, false), (24, false)]) LDu Try.f16 [u8v x, u8v y, slo 0 o n c] [rU N xs]
theorem pDuK (x y) (o n c N len : Nat) (xs fl : List Int)
    (h1 : layU x y = some (len, fl) := by first | omega | assumption | rfl)
    (h2 : (↑len : Int) ≠ (0 : Int) := by first | omega | assumption | rfl)
    (h3 : (↑n : Int) = (↑len : Int) := by first | omega | assumption | rfl)
    (h4 : fl.length = fl.length ∧ (2 : Nat) * (fl.length / (2 : Nat)) = fl.length ∧ (0 : Nat) < fl.length / (2 : Nat) ∧ fl.length / (2 : Nat) ≤ (100 : Nat) ∧ fldsOK n fl (fl.length / (2 : Nat)) ∧ o + n ≤ N ∧ N ≤ (1000000 : Nat) := by first | omega | assumption | rfl | ((repeat' with_reducible apply And.intro) <;> first | rfl | assumption | omega)) : fnK Try.prog ((SDecURv len fl).on [(19, false), (24, false)]) LDu Try.f16 [u8v x, u8v y, slo 0 o n c] [rU N xs] =
     (some (Res.ret (Value.tuple (Array.mk [Value.agg (Array.mk [Value.int IntKind.u8 x, Value.int IntKind.u8 y, Value.slice (some (Addr.mk (1 : Nat) (0 : Nat) none)) (fl.length / (2 : Nat)) (1 : Nat)]),
     Value.int IntKind.i64 (0 : Int)])) [some (Blk.mk false (1 : Nat) [Seg.ints IntKind.u8 N xs]), some (Blk.mk true (1 : Nat) [Seg.ints IntKind.i64 (fl.length / (2 : Nat)) (decL xs o fl (fl.length / (2 :
     Nat)))])])) :=
  Eq.trans (by kernel_rfl) (go_t (chk_t h1) (go_f (eqb_f h2) (go_f (bne_f h3) (go_t (chk_t h4) rfl))))
--CFEND
end Go.Proofs.Ytcjjngdkkihgjaa.VC

/- ubx, the document's: Layout; Decode: what they are. -/
namespace Go.Proofs.Ytcjjngdkkihgjaa.VC
open Go Go.Proofs

theorem okLayURv (len : Nat) (fl : List Int) : EntryOK Try.prog 22 (FLayURv len fl) := by
  refine EntryOK.of_paths (fn := Try.f22) follows_ok Try.func22 (by kernel_rfl) (by kernel_rfl) ?_
  intro args h k out hF
  unfold FLayURv at hF
  split at hF
  · rename_i x y
    obtain ⟨hb, hF⟩ := bif_t hF
    have hl := chk_iff.1 hb
    refine ⟨_, _, hF, fun _ => ⟨_, noL, mk0, noL_ok, (cfLayUR x y).trans ?_⟩⟩
    rcases layU_cases hl with e | e | e | e | e | e | e | e | e | e <;>
    · obtain ⟨rfl, rfl⟩ := e
      cases hl
      rfl
  · cases hF
theorem okLayURn : EntryOK Try.prog 22 FLayURn := by
  refine EntryOK.of_paths (fn := Try.f22) follows_ok Try.func22 (by kernel_rfl) (by kernel_rfl) ?_
  intro args h k out hF
  unfold FLayURn at hF
  split at hF
  · rename_i x y
    obtain ⟨hb, hF⟩ := bif_t hF
    have hn := layU_none (chk_iff.1 hb)
    refine ⟨_, _, hF, fun real => ⟨_, noL, mk0, noL_ok, (cfLayUR x y).trans ?_⟩⟩
    have hx : 0 ≤ x ∧ x ≤ 255 := real.int (i := 0) rfl
    have hy : 0 ≤ y ∧ y ≤ 255 := real.int (i := 1) rfl
    rw [swrap (x := x) (by omega) (by omega), swrap (x := y) (by omega) (by omega), swrap (x := x * 256) (by omega) (by omega), swrap (x := x * 256 + y) (by omega) (by omega)]
    simp only [not_or] at hn
    obtain ⟨n1, n2, n3, n4, n5, n6, n7, n8, n9, n10⟩ := hn
    rw [eqb_f (b := 263) (by omega), eqb_f (b := 288) (by omega), eqb_f (b := 289) (by omega), eqb_f (b := 294) (by omega), eqb_f (b := 3329) (by omega), eqb_f (b := 1280) (by omega), eqb_f (b := 1281) (by omega), eqb_f (b := 1537) (by omega), eqb_f (b := 1544) (by omega), eqb_f (b := 1585) (by omega)]
    rfl
  · cases hF
theorem SDecUR_ok : SpecOK Try.prog SDecUR := mkS_cons okGetR (mkS_nil _)
theorem loopDu {x y : Int} {o n c q N : Nat} {xs fl : List Int} (hq : q ≤ 100) (hf : fldsOK n fl q) (ho : o + n ≤ N) (hN : N ≤ 1000000) : ∀ (r i : Nat), i + r = q → 1 ≤ i →
    LoopT Try.prog Try.f16.ntmps 1 (loopOf Try.f16 0) (zipS liveDecUR [slo 0 o n c, pt 1, w63 0, sl 2 (2 * q) 0, pt 3, w63 ((2 * i : Nat) : Int)]) [rU N xs, uB 0 0 (.slice none 0 0), oI (2 * q) fl, uB x y (sl 4 i 1), oI i (decL xs o fl i)] (.exit 0)
      (zipS liveDecUR [slo 0 o n c, pt 1, w63 0, sl 2 (2 * q) 0, pt 3, w63 ((2 * q : Nat) : Int)]) [rU N xs, uB 0 0 (.slice none 0 0), oI (2 * q) fl, uB x y (sl 4 q 1), oI q (decL xs o fl q)] := by
  intro r
  induction r with
  | zero =>
    intro i hi _
    obtain rfl : i = q := by omega
    exact LoopT.last (by intro h; cases h) (CodeT.out (SDecUR_ok.on _) noL_ok fun on out => pDuX x y o n c i i N xs _ fl on out)
  | succ r ih =>
    intro i hi h1
    obtain ⟨f1, f2, f3, f4, f5⟩ := hf i (by omega)
    have e1 : (((2 * i : Nat) : Int) + 1).toNat = i * 2 + 1 := by omega
    have e2 : 2 * i = i * 2 := by omega
    refine LoopT.step (CodeT.on (live := liveDecUR) (vs1 := [slo 0 o n c, pt 1, w63 0, sl 2 (2 * q) 0, pt 3, w63 ((2 * (i + 1) : Nat) : Int)]) (h1 := [rU N xs, uB 0 0 (.slice none 0 0), oI (2 * q) fl, uB x y (sl 4 (i + 1) 1), oI (i + 1) (decL xs o fl (i + 1))]) (SDecUR_ok.on [(32, true)]) noL_ok fun on out => ?_) (ih (i + 1) (by omega) (by omega))
    refine (pDuR x y o n c i q N xs _ fl on out (h7 := by rw [e1, e2]; exact ⟨f1, f2, f3, f4, f5, ho, hN⟩)).trans ?_
    rw [e1, e2, List.take_of_length_le (by rw [decL_len]; exact Nat.le_refl _), show ((2 * (i + 1) : Nat) : Int) = ((i * 2 : Nat) : Int) + 2 by omega]
    rfl
theorem loopOKDu : LoopOK Try.prog Try.f16.ntmps 1 (loopOf Try.f16 0) liveDecUR LDuf := by
  refine LoopOK.of_T ?_
  intro vs h k out hk
  unfold LDuf at hk
  split at hk
  · rename_i o n c q N xs Q fl x y
    obtain ⟨hb, hk2⟩ := bif_t hk
    obtain ⟨rfl, h2, h3, h4, h5, h6, h7⟩ := chk_iff.1 hb
    refine ⟨_, _, _, hk2, fun real => ?_⟩
    generalize hq : Q / 2 = q at h2 h3 h4 h5
    subst h2
    obtain ⟨f1, f2, f3, f4, f5⟩ := h5 0 h3
    exact LoopT.step (CodeT.on (live := liveDecUR) (vs1 := [slo 0 o n c, pt 1, w63 0, sl 2 (2 * q) 0, pt 3, w63 ((2 * 1 : Nat) : Int)]) (h1 := [rU N xs, uB 0 0 (.slice none 0 0), oI (2 * q) fl, uB x y (sl 4 1 1), oI 1 (decL xs o fl 1)]) (SDecUR_ok.on [(32, true)]) noL_ok fun on out =>
      pDuR0 x y o n c q N xs fl on out (h5 := ⟨f1, f2, f3, f4, f5, h6, h7⟩)) (loopDu h4 h5 h6 h7 (q - 1) 1 (by omega) (by omega))
  · cases hk
theorem loopsDu : LoopsOK Try.prog LDu Try.f16.ntmps 1 (bodyOf Try.f16) := loops_one rfl (by kernel_rfl) loopOKDu
theorem okDecURV (fl : List Int) : EntryOK Try.prog 16 (FDecUV fl) := by
  refine EntryOK.of_paths (fn := Try.f16) follows_ok Try.func16 (by kernel_rfl) (by kernel_rfl) ?_
  intro args h k out hF
  unfold FDecUV at hF
  split at hF
  · rename_i x y o n c N xs
    obtain ⟨hb, hF2⟩ := bif_t hF
    obtain ⟨h1, h2, h3⟩ := chk_iff.1 hb
    obtain ⟨g1, g2, g3, g4, g5, g6⟩ := layU_ok h3
    exact ⟨_, _, hF2, fun _ => ⟨_, LDu, SpecOK.on (mkS_cons (okLayURv n fl) (mkS_nil _)) _, loopsDu, pDuK x y o n c N n xs fl (h4 := ⟨rfl, g2, g3, g4, g5, h1, h2⟩)⟩⟩
  · cases hF
theorem okDecURE (e : Int) : EntryOK Try.prog 16 (FDecUE e) := by
  refine EntryOK.of_paths (fn := Try.f16) follows_ok Try.func16 (by kernel_rfl) (by kernel_rfl) ?_
  intro args h k out hF
  unfold FDecUE at hF
  split at hF
  · rename_i x y o n c N xs
    obtain ⟨hb, hF2⟩ := bif_t hF
    obtain ⟨h1, h2, h3, h4⟩ := chk_iff.1 hb
    refine ⟨_, _, hF2, fun _ => ?_⟩
    unfold errU at h3
    split at h3
    · rename_i hl
      subst h3
      exact ⟨_, LDu, SpecOK.on (mkS_cons okLayURn (mkS_nil _)) _, loopsDu, pDuN x y o n c N xs⟩
    · rename_i len fl hl
      obtain ⟨g1, _⟩ := layU_ok hl
      by_cases hc : n = len
      · rw [beq_t hc] at h3; exact (h4 h3.symm).elim
      · rw [beq_f hc] at h3
        subst h3
        exact ⟨_, LDu, SpecOK.on (mkS_cons (okLayURv len fl) (mkS_nil _)) _, loopsDu, pDuF x y o n c N len xs fl⟩
  · cases hF
end Go.Proofs.Ytcjjngdkkihgjaa.VC

/- ubx, the document's: Payload; Encode: closed forms. -/
namespace Go.Proofs.Ytcjjngdkkihgjaa.VC
open Go Go.Proofs

noncomputable def SPrUR : Spec := mkS [(61, false, FFitR), (62, false, FPow)]
noncomputable def outPu : Code := loopOf Try.f19 0
noncomputable def inPu : Code := ((loops outPu)[0]?).getD .skip
def livePuI : List Nat := [1, 2, 3, 4, 5, 6, 7, 8, 9, 10]
abbrev hpPu (x y : Int) (n q c len K : Nat) (vs bs fl : List Int) : Heap := [rI n vs, uB x y (sl 0 q c), oI K fl, oU len bs]
--CP pPuI (x y v m) (n q c cc len i j k : Nat) (vs bs fl : List Int) (on : List Value → Heap → Out) (out : Exit → List Value → Heap → Out) :: roundK Try.prog ((mkS []).on [(68, true)]) noL Try.f19.ntmps 1 inPu livePuI [pt 1, .slice none 0 0, w63 0, w63 len, sl 2 (2 * k) 0, sl 3 len cc, w63 i, w63 m, w63 v, w63 j] (hpPu x y n q c len (2 * k) vs bs fl) on out
theorem pPuI (x y v m) (n q c cc len i j k : Nat) (vs bs fl : List Int) (on : List Value → Heap → Out) (out : Exit → List Value → Heap → Out)
    (w1 : -9223372036854775808 ≤ (2 : Int) * (↑i : Int) ∧ (2 : Int) * (↑i : Int) ≤ 9223372036854775807 := by omega)
    (w2 : -9223372036854775808 ≤ fl.getD ((2 : Int) * (↑i : Int)).toNat (0 : Int) + (↑j : Int) ∧ fl.getD ((2 : Int) * (↑i : Int)).toNat (0 : Int) + (↑j : Int) ≤ 9223372036854775807 := by omega)
    (w3 : -9223372036854775808 ≤ v.tdiv (256 : Int) ∧ v.tdiv (256 : Int) ≤ 9223372036854775807 := by omega)
    (w4 : -9223372036854775808 ≤ (↑j : Int) + (1 : Int) ∧ (↑j : Int) + (1 : Int) ≤ 9223372036854775807 := by omega)
    (h1 : (↑j : Int) < m := by first | omega | assumption | rfl)
    (h2 : (0 : Int) ≤ (2 : Int) * (↑i : Int) := by first | omega | assumption | rfl)
    (h3 : (2 : Int) * (↑i : Int) < (↑((2 : Nat) * k) : Int) := by first | omega | assumption | rfl)
    (h4 : ((2 : Int) * (↑i : Int)).toNat < (2 : Nat) * k := by first | omega | assumption | rfl)
    (h5 : (0 : Int) ≤ fl.getD ((2 : Int) * (↑i : Int)).toNat (0 : Int) + (↑j : Int) := by first | omega | assumption | rfl)
    (h6 : fl.getD ((2 : Int) * (↑i : Int)).toNat (0 : Int) + (↑j : Int) < (↑len : Int) := by first | omega | assumption | rfl)
    (h7 : (fl.getD ((2 : Int) * (↑i : Int)).toNat (0 : Int) + (↑j : Int)).toNat < len := by first | omega | assumption | rfl) : roundK Try.prog ((mkS []).on [(68, true)]) noL Try.f19.ntmps 1 inPu livePuI [pt 1, .slice none 0 0, w63 0, w63 len, sl 2 (2 * k) 0, sl 3 len cc, w63 i, w63 m, w63 v, w63 j] (hpPu x y n q c len (2 * k) vs bs fl) on out =
     (on [Value.pointer (some (Addr.mk (1 : Nat) (0 : Nat) none)), Value.slice none (0 : Nat) (0 : Nat), Value.int IntKind.i64 (0 : Int), Value.int IntKind.i64 (↑len : Int), Value.slice (some (Addr.mk (2 :
     Nat) (0 : Nat) none)) ((2 : Nat) * k) (0 : Nat), Value.slice (some (Addr.mk (3 : Nat) (0 : Nat) none)) len cc, Value.int IntKind.i64 (↑i : Int), Value.int IntKind.i64 m, Value.int IntKind.i64 (v.tdiv
     (256 : Int)), Value.int IntKind.i64 ((↑j : Int) + (1 : Int))] [some (Blk.mk false (1 : Nat) [Seg.ints IntKind.i64 n vs]), some (Blk.mk true (3 : Nat) [Seg.ints IntKind.u8 (2 : Nat) [x, y], Seg.vals
     [Value.slice (some (Addr.mk (0 : Nat) (0 : Nat) none)) q c]]), some (Blk.mk true (1 : Nat) [Seg.ints IntKind.i64 ((2 : Nat) * k) fl]), some (Blk.mk true (1 : Nat) [Seg.ints IntKind.u8 len (bs.set
     (fl.getD ((2 : Int) * (↑i : Int)).toNat (0 : Int) + (↑j : Int)).toNat (IntKind.u8.wrap (v.tmod (256 : Int))))])]) :=
  Eq.trans (b :=
     bif decide ((↑j : Int) < m) then bif decide ((0 : Int) ≤ IntKind.i64.wrap ((2 : Int) * (↑i : Int))) && decide (IntKind.i64.wrap ((2 : Int) * (↑i : Int)) < (↑((2 : Nat) * k) : Int)) then bif ((0 : Nat)
     + (IntKind.i64.wrap ((2 : Int) * (↑i : Int))).toNat * (1 : Nat)).blt ((2 : Nat) * k) then bif decide ((0 : Int) ≤ IntKind.i64.wrap (fl.getD ((0 : Nat) + (IntKind.i64.wrap ((2 : Int) * (↑i :
     Int))).toNat * (1 : Nat)) (0 : Int) + (↑j : Int))) && decide (IntKind.i64.wrap (fl.getD ((0 : Nat) + (IntKind.i64.wrap ((2 : Int) * (↑i : Int))).toNat * (1 : Nat)) (0 : Int) + (↑j : Int)) < (↑len :
     Int)) then bif ((0 : Nat) + (IntKind.i64.wrap (fl.getD ((0 : Nat) + (IntKind.i64.wrap ((2 : Int) * (↑i : Int))).toNat * (1 : Nat)) (0 : Int) + (↑j : Int))).toNat * (1 : Nat)).blt len then on
     [Value.pointer (some (Addr.mk (1 : Nat) (0 : Nat) none)), Value.slice none (0 : Nat) (0 : Nat), Value.int IntKind.i64 (0 : Int), Value.int IntKind.i64 (↑len : Int), Value.slice (some (Addr.mk (2 :
     Nat) (0 : Nat) none)) ((2 : Nat) * k) (0 : Nat), Value.slice (some (Addr.mk (3 : Nat) (0 : Nat) none)) len cc, Value.int IntKind.i64 (↑i : Int), Value.int IntKind.i64 m, Value.int IntKind.i64
     (IntKind.i64.wrap (v.tdiv (256 : Int))), Value.int IntKind.i64 (IntKind.i64.wrap ((↑j : Int) + (1 : Int)))] [some (Blk.mk false (1 : Nat) [Seg.ints IntKind.i64 n vs]), some (Blk.mk true (3 : Nat)
     [Seg.ints IntKind.u8 (2 : Nat) [x, y], Seg.vals [Value.slice (some (Addr.mk (0 : Nat) (0 : Nat) none)) q c]]), some (Blk.mk true (1 : Nat) [Seg.ints IntKind.i64 ((2 : Nat) * k) fl]), some (Blk.mk true
     (1 : Nat) [Seg.ints IntKind.u8 len (bs.set ((0 : Nat) + (IntKind.i64.wrap (fl.getD ((0 : Nat) + (IntKind.i64.wrap ((2 : Int) * (↑i : Int))).toNat * (1 : Nat)) (0 : Int) + (↑j : Int))).toNat * (1 :
     Nat)) (IntKind.u8.wrap (v.tmod (256 : Int))))])] else none else none else none else none else none) (by kernel_rfl) (by simp only [-eq_self, Nat.mul_one, Nat.zero_add, swrap w1.1 w1.2, swrap w2.1 w2.2, swrap w3.1 w3.2, swrap w4.1 w4.2]; exact (go_t (dec_t h1) (go_t (and_t (dec_t h2) (dec_t h3)) (go_t (blt_t h4) (go_t (and_t (dec_t h5) (dec_t h6)) (go_t (blt_t h7) rfl))))))
--CFEND
--CP pPuIX (x y v m j) (n q c cc len i k : Nat) (vs bs fl : List Int) (on : List Value → Heap → Out) (out : Exit → List Value → Heap → Out) :: roundK Try.prog ((mkS []).on [(68, false)]) noL Try.f19.ntmps 1 inPu livePuI [pt 1, .slice none 0 0, w63 0, w63 len, sl 2 (2 * k) 0, sl 3 len cc, w63 i, w63 m, w63 v, w63 j] (hpPu x y n q c len (2 * k) vs bs fl) on out
theorem pPuIX (x y v m j) (n q c cc len i k : Nat) (vs bs fl : List Int) (on : List Value → Heap → Out) (out : Exit → List Value → Heap → Out)
    (h1 : ¬j < m := by first | omega | assumption | rfl) : roundK Try.prog ((mkS []).on [(68, false)]) noL Try.f19.ntmps 1 inPu livePuI [pt 1, .slice none 0 0, w63 0, w63 len, sl 2 (2 * k) 0, sl 3 len cc, w63 i, w63 m, w63 v, w63 j] (hpPu x y n q c len (2 * k) vs bs fl) on out =
     (out (Exit.exit (2 : Nat)) [Value.pointer (some (Addr.mk (1 : Nat) (0 : Nat) none)), Value.slice none (0 : Nat) (0 : Nat), Value.int IntKind.i64 (0 : Int), Value.int IntKind.i64 (↑len : Int),
     Value.slice (some (Addr.mk (2 : Nat) (0 : Nat) none)) ((2 : Nat) * k) (0 : Nat), Value.slice (some (Addr.mk (3 : Nat) (0 : Nat) none)) len cc, Value.int IntKind.i64 (↑i : Int), Value.int IntKind.i64
     m, Value.int IntKind.i64 v, Value.int IntKind.i64 j] [some (Blk.mk false (1 : Nat) [Seg.ints IntKind.i64 n vs]), some (Blk.mk true (3 : Nat) [Seg.ints IntKind.u8 (2 : Nat) [x, y], Seg.vals
     [Value.slice (some (Addr.mk (0 : Nat) (0 : Nat) none)) q c]]), some (Blk.mk true (1 : Nat) [Seg.ints IntKind.i64 ((2 : Nat) * k) fl]), some (Blk.mk true (1 : Nat) [Seg.ints IntKind.u8 len bs])]) :=
  Eq.trans (by kernel_rfl) (go_f (dec_f h1) rfl)
--CFEND
noncomputable def LPuIf : LF := fun vs h k => match vs, h with
  | [.pointer (some ⟨1, 0, none⟩), .slice none 0 0, .int .i64 0, .int .i64 ln, .slice (some ⟨2, 0, none⟩) K' 0, .slice (some ⟨3, 0, none⟩) len' cc, .int .i64 i, .int .i64 m, .int .i64 v, .int .i64 0], [some ⟨false, 1, [.ints .i64 n vl]⟩, some ⟨true, 3, [.ints .u8 2 [x, y], .vals [.slice (some ⟨0, 0, none⟩) q c]]⟩, some ⟨true, 1, [.ints .i64 K fl]⟩, some ⟨true, 1, [.ints .u8 len bs]⟩] =>
    bif chk (K' = K ∧ len' = len ∧ 0 ≤ m ∧ m ≤ 4 ∧ 0 ≤ i ∧ K = 2 * (K / 2) ∧ 2 * i < K ∧ ln = len ∧ 0 ≤ fl.getD (2 * i).toNat 0 ∧ fl.getD (2 * i).toNat 0 + m ≤ len ∧ len ≤ 1000000 ∧ K ≤ 1000000 ∧ 0 ≤ v ∧ v ≤ 1000000000000) then
      k (.exit 2) [pt 1, .slice none 0 0, w63 0, w63 len, sl 2 K 0, sl 3 len cc, w63 i, w63 m, w63 (v / pw256 m), w63 m] (hpPu x y n q c len K vl (putB bs (fl.getD (2 * i).toNat 0).toNat (le v m.toNat)) fl) else none
  | _, _ => none
noncomputable def LPuI : LSpec := oneL 19 livePuI LPuIf
def livePuO : List Nat := [1, 2, 3, 4, 5, 6, 7]
--CP pPuPP (x y) (n q c cc len i k : Nat) (vs bs fl : List Int) (on : List Value → Heap → Out) (out : Exit → List Value → Heap → Out) :: roundK Try.prog (SPrUR.on [(34, true), (50, false), (52, false), (61, false)]) LPuI Try.f19.ntmps 1 outPu livePuO [pt 1, .slice none 0 0, w63 0, w63 len, sl 2 (2 * k) 0, sl 3 len cc, w63 i] (hpPu x y n q c len (2 * k) vs bs fl) on out
theorem pPuPP (x y) (n q c cc len i k : Nat) (vs bs fl : List Int) (on : List Value → Heap → Out) (out : Exit → List Value → Heap → Out)
    (w1 : -9223372036854775808 ≤ (2 : Int) * (↑i : Int) ∧ (2 : Int) * (↑i : Int) ≤ 9223372036854775807 := by omega)
    (w2 : -9223372036854775808 ≤ (2 : Int) * (↑i : Int) + (1 : Int) ∧ (2 : Int) * (↑i : Int) + (1 : Int) ≤ 9223372036854775807 := by omega)
    (w3 : -9223372036854775808 ≤ (↑i : Int) + (1 : Int) ∧ (↑i : Int) + (1 : Int) ≤ 9223372036854775807 := by omega)
    (h1 : (↑i : Int) < (↑q : Int) := by first | omega | assumption | rfl)
    (h2 : (0 : Int) ≤ (2 : Int) * (↑i : Int) + (1 : Int) := by first | omega | assumption | rfl)
    (h3 : (2 : Int) * (↑i : Int) + (1 : Int) < (↑((2 : Nat) * k) : Int) := by first | omega | assumption | rfl)
    (h4 : ((2 : Int) * (↑i : Int) + (1 : Int)).toNat < (2 : Nat) * k := by first | omega | assumption | rfl)
    (h5 : (0 : Int) ≤ (↑i : Int) := by first | omega | assumption | rfl)
    (h6 : i < n := by first | omega | assumption | rfl)
    (h7 : (-4 : Int) ≤ fl.getD ((2 : Int) * (↑i : Int) + (1 : Int)).toNat (0 : Int) ∧ fl.getD ((2 : Int) * (↑i : Int) + (1 : Int)).toNat (0 : Int) ≤ (4 : Int) ∧ fl.getD ((2 : Int) * (↑i : Int) + (1 : Int)).toNat (0 : Int) ≠ (0 : Int) := by first | omega | assumption | rfl | ((repeat' with_reducible apply And.intro) <;> first | rfl | assumption | omega))
    (h8 : fitI (vs.getD i (0 : Int)) (fl.getD ((2 : Int) * (↑i : Int) + (1 : Int)).toNat (0 : Int)) := by first | omega | assumption | rfl)
    (h9 : ¬fl.getD ((2 : Int) * (↑i : Int) + (1 : Int)).toNat (0 : Int) < (0 : Int) := by first | omega | assumption | rfl)
    (h10 : ¬vs.getD i (0 : Int) < (0 : Int) := by first | omega | assumption | rfl)
    (h11 : (2 : Nat) * k = (2 : Nat) * k ∧ len = len ∧ (0 : Int) ≤ fl.getD ((2 : Int) * (↑i : Int) + (1 : Int)).toNat (0 : Int) ∧ fl.getD ((2 : Int) * (↑i : Int) + (1 : Int)).toNat (0 : Int) ≤ (4 : Int) ∧ (0 : Int) ≤ (↑i : Int) ∧ (2 : Nat) * k = (2 : Nat) * ((2 : Nat) * k / (2 : Nat)) ∧ (2 : Int) * (↑i : Int) < (↑((2 : Nat) * k) : Int) ∧ (↑len : Int) = (↑len : Int) ∧ (0 : Int) ≤ fl.getD ((2 : Int) * (↑i : Int)).toNat (0 : Int) ∧ fl.getD ((2 : Int) * (↑i : Int)).toNat (0 : Int) + fl.getD ((2 : Int) * (↑i : Int) + (1 : Int)).toNat (0 : Int) ≤ (↑len : Int) ∧ len ≤ (1000000 : Nat) ∧ (2 : Nat) * k ≤ (1000000 : Nat) ∧ (0 : Int) ≤ vs.getD i (0 : Int) ∧ vs.getD i (0 : Int) ≤ (1000000000000 : Int) := by first | omega | assumption | rfl | ((repeat' with_reducible apply And.intro) <;> first | rfl | assumption | omega)) : roundK Try.prog (SPrUR.on [(34, true), (50, false), (52, false), (61, false)]) LPuI Try.f19.ntmps 1 outPu livePuO [pt 1, .slice none 0 0, w63 0, w63 len, sl 2 (2 * k) 0, sl 3 len cc, w63 i] (hpPu x y n q c len (2 * k) vs bs fl) on out =
     (on [Value.pointer (some (Addr.mk (1 : Nat) (0 : Nat) none)), Value.slice none (0 : Nat) (0 : Nat), Value.int IntKind.i64 (0 : Int), Value.int IntKind.i64 (↑len : Int), Value.slice (some (Addr.mk (2 :
     Nat) (0 : Nat) none)) ((2 : Nat) * k) (0 : Nat), Value.slice (some (Addr.mk (3 : Nat) (0 : Nat) none)) len cc, Value.int IntKind.i64 ((↑i : Int) + (1 : Int))] [some (Blk.mk false (1 : Nat) [Seg.ints
     IntKind.i64 n vs]), some (Blk.mk true (3 : Nat) [Seg.ints IntKind.u8 (2 : Nat) [x, y], Seg.vals [Value.slice (some (Addr.mk (0 : Nat) (0 : Nat) none)) q c]]), some (Blk.mk true (1 : Nat) [Seg.ints
     IntKind.i64 ((2 : Nat) * k) fl]), some (Blk.mk true (1 : Nat) [Seg.ints IntKind.u8 len (putB bs (fl.getD ((2 : Int) * (↑i : Int)).toNat (0 : Int)).toNat (le (vs.getD i (0 : Int)) (fl.getD ((2 : Int) *
     (↑i : Int) + (1 : Int)).toNat (0 : Int)).toNat))])]) :=
  Eq.trans (b :=
     bif decide ((↑i : Int) < (↑q : Int)) then bif decide ((0 : Int) ≤ IntKind.i64.wrap (IntKind.i64.wrap ((2 : Int) * (↑i : Int)) + (1 : Int))) && decide (IntKind.i64.wrap (IntKind.i64.wrap ((2 : Int) *
     (↑i : Int)) + (1 : Int)) < (↑((2 : Nat) * k) : Int)) then bif ((0 : Nat) + (IntKind.i64.wrap (IntKind.i64.wrap ((2 : Int) * (↑i : Int)) + (1 : Int))).toNat * (1 : Nat)).blt ((2 : Nat) * k) then bif
     decide ((0 : Int) ≤ (↑i : Int)) && decide ((↑i : Int) < (↑q : Int)) then bif ((0 : Nat) + (↑i : Int).toNat * (1 : Nat)).blt n then bif chk ((-4 : Int) ≤ fl.getD ((0 : Nat) + (IntKind.i64.wrap
     (IntKind.i64.wrap ((2 : Int) * (↑i : Int)) + (1 : Int))).toNat * (1 : Nat)) (0 : Int) ∧ fl.getD ((0 : Nat) + (IntKind.i64.wrap (IntKind.i64.wrap ((2 : Int) * (↑i : Int)) + (1 : Int))).toNat * (1 :
     Nat)) (0 : Int) ≤ (4 : Int) ∧ fl.getD ((0 : Nat) + (IntKind.i64.wrap (IntKind.i64.wrap ((2 : Int) * (↑i : Int)) + (1 : Int))).toNat * (1 : Nat)) (0 : Int) ≠ (0 : Int)) then bif !decide (fitI (vs.getD
     ((0 : Nat) + (↑i : Int).toNat * (1 : Nat)) (0 : Int)) (fl.getD ((0 : Nat) + (IntKind.i64.wrap (IntKind.i64.wrap ((2 : Int) * (↑i : Int)) + (1 : Int))).toNat * (1 : Nat)) (0 : Int))) then none else bif
     decide (fl.getD ((0 : Nat) + (IntKind.i64.wrap (IntKind.i64.wrap ((2 : Int) * (↑i : Int)) + (1 : Int))).toNat * (1 : Nat)) (0 : Int) < (0 : Int)) then none else bif decide ((0 : Int) ≤ (↑i : Int)) &&
     decide ((↑i : Int) < (↑q : Int)) then bif ((0 : Nat) + (↑i : Int).toNat * (1 : Nat)).blt n then bif decide (vs.getD ((0 : Nat) + (↑i : Int).toNat * (1 : Nat)) (0 : Int) < (0 : Int)) then none else bif
     chk ((2 : Nat) * k = (2 : Nat) * k ∧ len = len ∧ (0 : Int) ≤ fl.getD ((0 : Nat) + (IntKind.i64.wrap (IntKind.i64.wrap ((2 : Int) * (↑i : Int)) + (1 : Int))).toNat * (1 : Nat)) (0 : Int) ∧ fl.getD ((0
     : Nat) + (IntKind.i64.wrap (IntKind.i64.wrap ((2 : Int) * (↑i : Int)) + (1 : Int))).toNat * (1 : Nat)) (0 : Int) ≤ (4 : Int) ∧ (0 : Int) ≤ (↑i : Int) ∧ (2 : Nat) * k = (2 : Nat) * ((2 : Nat) * k / (2
     : Nat)) ∧ (2 : Int) * (↑i : Int) < (↑((2 : Nat) * k) : Int) ∧ (↑len : Int) = (↑len : Int) ∧ (0 : Int) ≤ fl.getD ((2 : Int) * (↑i : Int)).toNat (0 : Int) ∧ fl.getD ((2 : Int) * (↑i : Int)).toNat (0 :
     Int) + fl.getD ((0 : Nat) + (IntKind.i64.wrap (IntKind.i64.wrap ((2 : Int) * (↑i : Int)) + (1 : Int))).toNat * (1 : Nat)) (0 : Int) ≤ (↑len : Int) ∧ len ≤ (1000000 : Nat) ∧ (2 : Nat) * k ≤ (1000000 :
     Nat) ∧ (0 : Int) ≤ vs.getD ((0 : Nat) + (↑i : Int).toNat * (1 : Nat)) (0 : Int) ∧ vs.getD ((0 : Nat) + (↑i : Int).toNat * (1 : Nat)) (0 : Int) ≤ (1000000000000 : Int)) then on [Value.pointer (some
     (Addr.mk (1 : Nat) (0 : Nat) none)), Value.slice none (0 : Nat) (0 : Nat), Value.int IntKind.i64 (0 : Int), Value.int IntKind.i64 (↑len : Int), Value.slice (some (Addr.mk (2 : Nat) (0 : Nat) none))
     ((2 : Nat) * k) (0 : Nat), Value.slice (some (Addr.mk (3 : Nat) (0 : Nat) none)) len cc, Value.int IntKind.i64 (IntKind.i64.wrap ((↑i : Int) + (1 : Int)))] [some (Blk.mk false (1 : Nat) [Seg.ints
     IntKind.i64 n vs]), some (Blk.mk true (3 : Nat) [Seg.ints IntKind.u8 (2 : Nat) [x, y], Seg.vals [Value.slice (some (Addr.mk (0 : Nat) (0 : Nat) none)) q c]]), some (Blk.mk true (1 : Nat) [Seg.ints
     IntKind.i64 ((2 : Nat) * k) fl]), some (Blk.mk true (1 : Nat) [Seg.ints IntKind.u8 len (putB bs (fl.getD ((2 : Int) * (↑i : Int)).toNat (0 : Int)).toNat (le (vs.getD ((0 : Nat) + (↑i : Int).toNat * (1
     : Nat)) (0 : Int)) (fl.getD ((0 : Nat) + (IntKind.i64.wrap (IntKind.i64.wrap ((2 : Int) * (↑i : Int)) + (1 : Int))).toNat * (1 : Nat)) (0 : Int)).toNat))])] else none else none else none else none
     else none else none else none else none else none) (by kernel_rfl) (by simp only [-eq_self, Nat.mul_one, Nat.zero_add, Int.toNat_natCast, swrap w1.1 w1.2, swrap w2.1 w2.2, swrap w3.1 w3.2]; exact (go_t (dec_t h1) (go_t (and_t (dec_t h2) (dec_t h3)) (go_t (blt_t h4) (go_t (and_t (dec_t h5) (dec_t h1)) (go_t (blt_t h6) (go_t (chk_t h7) (go_f (not_f (dec_t h8)) (go_f (dec_f h9) (go_t (and_t (dec_t h5) (dec_t h1)) (go_t (blt_t h6) (go_f (dec_f h10) (go_t (chk_t h11) rfl)))))))))))))
--CFEND
--CP pPuNP (x y) (n q c cc len i k : Nat) (vs bs fl : List Int) (on : List Value → Heap → Out) (out : Exit → List Value → Heap → Out) :: roundK Try.prog (SPrUR.on [(34, true), (50, false), (52, true), (61, false)]) LPuI Try.f19.ntmps 1 outPu livePuO [pt 1, .slice none 0 0, w63 0, w63 len, sl 2 (2 * k) 0, sl 3 len cc, w63 i] (hpPu x y n q c len (2 * k) vs bs fl) on out
theorem pPuNP (x y) (n q c cc len i k : Nat) (vs bs fl : List Int) (on : List Value → Heap → Out) (out : Exit → List Value → Heap → Out)
    (w1 : -9223372036854775808 ≤ (2 : Int) * (↑i : Int) ∧ (2 : Int) * (↑i : Int) ≤ 9223372036854775807 := by omega)
    (w2 : -9223372036854775808 ≤ (2 : Int) * (↑i : Int) + (1 : Int) ∧ (2 : Int) * (↑i : Int) + (1 : Int) ≤ 9223372036854775807 := by omega)
    (w3 : -9223372036854775808 ≤ (0 : Int) - fl.getD ((2 : Int) * (↑i : Int) + (1 : Int)).toNat (0 : Int) ∧ (0 : Int) - fl.getD ((2 : Int) * (↑i : Int) + (1 : Int)).toNat (0 : Int) ≤ 9223372036854775807 := by omega)
    (w4 : -9223372036854775808 ≤ (↑i : Int) + (1 : Int) ∧ (↑i : Int) + (1 : Int) ≤ 9223372036854775807 := by omega)
    (h1 : (↑i : Int) < (↑q : Int) := by first | omega | assumption | rfl)
    (h2 : (0 : Int) ≤ (2 : Int) * (↑i : Int) + (1 : Int) := by first | omega | assumption | rfl)
    (h3 : (2 : Int) * (↑i : Int) + (1 : Int) < (↑((2 : Nat) * k) : Int) := by first | omega | assumption | rfl)
    (h4 : ((2 : Int) * (↑i : Int) + (1 : Int)).toNat < (2 : Nat) * k := by first | omega | assumption | rfl)
    (h5 : (0 : Int) ≤ (↑i : Int) := by first | omega | assumption | rfl)
    (h6 : i < n := by first | omega | assumption | rfl)
    (h7 : (-4 : Int) ≤ fl.getD ((2 : Int) * (↑i : Int) + (1 : Int)).toNat (0 : Int) ∧ fl.getD ((2 : Int) * (↑i : Int) + (1 : Int)).toNat (0 : Int) ≤ (4 : Int) ∧ fl.getD ((2 : Int) * (↑i : Int) + (1 : Int)).toNat (0 : Int) ≠ (0 : Int) := by first | omega | assumption | rfl | ((repeat' with_reducible apply And.intro) <;> first | rfl | assumption | omega))
    (h8 : fitI (vs.getD i (0 : Int)) (fl.getD ((2 : Int) * (↑i : Int) + (1 : Int)).toNat (0 : Int)) := by first | omega | assumption | rfl)
    (h9 : fl.getD ((2 : Int) * (↑i : Int) + (1 : Int)).toNat (0 : Int) < (0 : Int) := by first | omega | assumption | rfl)
    (h10 : ¬vs.getD i (0 : Int) < (0 : Int) := by first | omega | assumption | rfl)
    (h11 : (2 : Nat) * k = (2 : Nat) * k ∧ len = len ∧ (0 : Int) ≤ (0 : Int) - fl.getD ((2 : Int) * (↑i : Int) + (1 : Int)).toNat (0 : Int) ∧ (0 : Int) - fl.getD ((2 : Int) * (↑i : Int) + (1 : Int)).toNat (0 : Int) ≤ (4 : Int) ∧ (0 : Int) ≤ (↑i : Int) ∧ (2 : Nat) * k = (2 : Nat) * ((2 : Nat) * k / (2 : Nat)) ∧ (2 : Int) * (↑i : Int) < (↑((2 : Nat) * k) : Int) ∧ (↑len : Int) = (↑len : Int) ∧ (0 : Int) ≤ fl.getD ((2 : Int) * (↑i : Int)).toNat (0 : Int) ∧ fl.getD ((2 : Int) * (↑i : Int)).toNat (0 : Int) + ((0 : Int) - fl.getD ((2 : Int) * (↑i : Int) + (1 : Int)).toNat (0 : Int)) ≤ (↑len : Int) ∧ len ≤ (1000000 : Nat) ∧ (2 : Nat) * k ≤ (1000000 : Nat) ∧ (0 : Int) ≤ vs.getD i (0 : Int) ∧ vs.getD i (0 : Int) ≤ (1000000000000 : Int) := by first | omega | assumption | rfl | ((repeat' with_reducible apply And.intro) <;> first | rfl | assumption | omega)) : roundK Try.prog (SPrUR.on [(34, true), (50, false), (52, true), (61, false)]) LPuI Try.f19.ntmps 1 outPu livePuO [pt 1, .slice none 0 0, w63 0, w63 len, sl 2 (2 * k) 0, sl 3 len cc, w63 i] (hpPu x y n q c len (2 * k) vs bs fl) on out =
     (on [Value.pointer (some (Addr.mk (1 : Nat) (0 : Nat) none)), Value.slice none (0 : Nat) (0 : Nat), Value.int IntKind.i64 (0 : Int), Value.int IntKind.i64 (↑len : Int), Value.slice (some (Addr.mk (2 :
     Nat) (0 : Nat) none)) ((2 : Nat) * k) (0 : Nat), Value.slice (some (Addr.mk (3 : Nat) (0 : Nat) none)) len cc, Value.int IntKind.i64 ((↑i : Int) + (1 : Int))] [some (Blk.mk false (1 : Nat) [Seg.ints
     IntKind.i64 n vs]), some (Blk.mk true (3 : Nat) [Seg.ints IntKind.u8 (2 : Nat) [x, y], Seg.vals [Value.slice (some (Addr.mk (0 : Nat) (0 : Nat) none)) q c]]), some (Blk.mk true (1 : Nat) [Seg.ints
     IntKind.i64 ((2 : Nat) * k) fl]), some (Blk.mk true (1 : Nat) [Seg.ints IntKind.u8 len (putB bs (fl.getD ((2 : Int) * (↑i : Int)).toNat (0 : Int)).toNat (le (vs.getD i (0 : Int)) ((0 : Int) - fl.getD
     ((2 : Int) * (↑i : Int) + (1 : Int)).toNat (0 : Int)).toNat))])]) :=
  Eq.trans (b :=
     bif decide ((↑i : Int) < (↑q : Int)) then bif decide ((0 : Int) ≤ IntKind.i64.wrap (IntKind.i64.wrap ((2 : Int) * (↑i : Int)) + (1 : Int))) && decide (IntKind.i64.wrap (IntKind.i64.wrap ((2 : Int) *
     (↑i : Int)) + (1 : Int)) < (↑((2 : Nat) * k) : Int)) then bif ((0 : Nat) + (IntKind.i64.wrap (IntKind.i64.wrap ((2 : Int) * (↑i : Int)) + (1 : Int))).toNat * (1 : Nat)).blt ((2 : Nat) * k) then bif
     decide ((0 : Int) ≤ (↑i : Int)) && decide ((↑i : Int) < (↑q : Int)) then bif ((0 : Nat) + (↑i : Int).toNat * (1 : Nat)).blt n then bif chk ((-4 : Int) ≤ fl.getD ((0 : Nat) + (IntKind.i64.wrap
     (IntKind.i64.wrap ((2 : Int) * (↑i : Int)) + (1 : Int))).toNat * (1 : Nat)) (0 : Int) ∧ fl.getD ((0 : Nat) + (IntKind.i64.wrap (IntKind.i64.wrap ((2 : Int) * (↑i : Int)) + (1 : Int))).toNat * (1 :
     Nat)) (0 : Int) ≤ (4 : Int) ∧ fl.getD ((0 : Nat) + (IntKind.i64.wrap (IntKind.i64.wrap ((2 : Int) * (↑i : Int)) + (1 : Int))).toNat * (1 : Nat)) (0 : Int) ≠ (0 : Int)) then bif !decide (fitI (vs.getD
     ((0 : Nat) + (↑i : Int).toNat * (1 : Nat)) (0 : Int)) (fl.getD ((0 : Nat) + (IntKind.i64.wrap (IntKind.i64.wrap ((2 : Int) * (↑i : Int)) + (1 : Int))).toNat * (1 : Nat)) (0 : Int))) then none else bif
     decide (fl.getD ((0 : Nat) + (IntKind.i64.wrap (IntKind.i64.wrap ((2 : Int) * (↑i : Int)) + (1 : Int))).toNat * (1 : Nat)) (0 : Int) < (0 : Int)) then bif decide ((0 : Int) ≤ (↑i : Int)) && decide
     ((↑i : Int) < (↑q : Int)) then bif ((0 : Nat) + (↑i : Int).toNat * (1 : Nat)).blt n then bif decide (vs.getD ((0 : Nat) + (↑i : Int).toNat * (1 : Nat)) (0 : Int) < (0 : Int)) then none else bif chk
     ((2 : Nat) * k = (2 : Nat) * k ∧ len = len ∧ (0 : Int) ≤ IntKind.i64.wrap ((0 : Int) - fl.getD ((0 : Nat) + (IntKind.i64.wrap (IntKind.i64.wrap ((2 : Int) * (↑i : Int)) + (1 : Int))).toNat * (1 :
     Nat)) (0 : Int)) ∧ IntKind.i64.wrap ((0 : Int) - fl.getD ((0 : Nat) + (IntKind.i64.wrap (IntKind.i64.wrap ((2 : Int) * (↑i : Int)) + (1 : Int))).toNat * (1 : Nat)) (0 : Int)) ≤ (4 : Int) ∧ (0 : Int) ≤
     (↑i : Int) ∧ (2 : Nat) * k = (2 : Nat) * ((2 : Nat) * k / (2 : Nat)) ∧ (2 : Int) * (↑i : Int) < (↑((2 : Nat) * k) : Int) ∧ (↑len : Int) = (↑len : Int) ∧ (0 : Int) ≤ fl.getD ((2 : Int) * (↑i :
     Int)).toNat (0 : Int) ∧ fl.getD ((2 : Int) * (↑i : Int)).toNat (0 : Int) + IntKind.i64.wrap ((0 : Int) - fl.getD ((0 : Nat) + (IntKind.i64.wrap (IntKind.i64.wrap ((2 : Int) * (↑i : Int)) + (1 :
     Int))).toNat * (1 : Nat)) (0 : Int)) ≤ (↑len : Int) ∧ len ≤ (1000000 : Nat) ∧ (2 : Nat) * k ≤ (1000000 : Nat) ∧ (0 : Int) ≤ vs.getD ((0 : Nat) + (↑i : Int).toNat * (1 : Nat)) (0 : Int) ∧ vs.getD ((0 :
     Nat) + (↑i : Int).toNat * (1 : Nat)) (0 : Int) ≤ (1000000000000 : Int)) then on [Value.pointer (some (Addr.mk (1 : Nat) (0 : Nat) none)), Value.slice none (0 : Nat) (0 : Nat), Value.int IntKind.i64 (0
     : Int), Value.int IntKind.i64 (↑len : Int), Value.slice (some (Addr.mk (2 : Nat) (0 : Nat) none)) ((2 : Nat) * k) (0 : Nat), Value.slice (some (Addr.mk (3 : Nat) (0 : Nat) none)) len cc, Value.int
     IntKind.i64 (IntKind.i64.wrap ((↑i : Int) + (1 : Int)))] [some (Blk.mk false (1 : Nat) [Seg.ints IntKind.i64 n vs]), some (Blk.mk true (3 : Nat) [Seg.ints IntKind.u8 (2 : Nat) [x, y], Seg.vals
     [Value.slice (some (Addr.mk (0 : Nat) (0 : Nat) none)) q c]]), some (Blk.mk true (1 : Nat) [Seg.ints IntKind.i64 ((2 : Nat) * k) fl]), some (Blk.mk true (1 : Nat) [Seg.ints IntKind.u8 len (putB bs
     (fl.getD ((2 : Int) * (↑i : Int)).toNat (0 : Int)).toNat (le (vs.getD ((0 : Nat) + (↑i : Int).toNat * (1 : Nat)) (0 : Int)) (IntKind.i64.wrap ((0 : Int) - fl.getD ((0 : Nat) + (IntKind.i64.wrap
     (IntKind.i64.wrap ((2 : Int) * (↑i : Int)) + (1 : Int))).toNat * (1 : Nat)) (0 : Int))).toNat))])] else none else none else none else none else none else none else none else none else none else none) (by kernel_rfl) (by simp only [-eq_self, Nat.mul_one, Nat.zero_add, Int.toNat_natCast, swrap w1.1 w1.2, swrap w2.1 w2.2, swrap w3.1 w3.2, swrap w4.1 w4.2]; exact (go_t (dec_t h1) (go_t (and_t (dec_t h2) (dec_t h3)) (go_t (blt_t h4) (go_t (and_t (dec_t h5) (dec_t h1)) (go_t (blt_t h6) (go_t (chk_t h7) (go_f (not_f (dec_t h8)) (go_t (dec_t h9) (go_t (and_t (dec_t h5) (dec_t h1)) (go_t (blt_t h6) (go_f (dec_f h10) (go_t (chk_t h11) rfl)))))))))))))
--CFEND
--CP pPuNN (x y) (n q c cc len i k : Nat) (vs bs fl : List Int) (on : List Value → Heap → Out) (out : Exit → List Value → Heap → Out) :: roundK Try.prog (SPrUR.on [(34, true), (50, false), (52, true), (61, true)]) LPuI Try.f19.ntmps 1 outPu livePuO [pt 1, .slice none 0 0, w63 0, w63 len, sl 2 (2 * k) 0, sl 3 len cc, w63 i] (hpPu x y n q c len (2 * k) vs bs fl) on out
theorem pPuNN (x y) (n q c cc len i k : Nat) (vs bs fl : List Int) (on : List Value → Heap → Out) (out : Exit → List Value → Heap → Out)
    (w1 : -9223372036854775808 ≤ (2 : Int) * (↑i : Int) ∧ (2 : Int) * (↑i : Int) ≤ 9223372036854775807 := by omega)
    (w2 : -9223372036854775808 ≤ (2 : Int) * (↑i : Int) + (1 : Int) ∧ (2 : Int) * (↑i : Int) + (1 : Int) ≤ 9223372036854775807 := by omega)
    (w3 : -9223372036854775808 ≤ (0 : Int) - fl.getD ((2 : Int) * (↑i : Int) + (1 : Int)).toNat (0 : Int) ∧ (0 : Int) - fl.getD ((2 : Int) * (↑i : Int) + (1 : Int)).toNat (0 : Int) ≤ 9223372036854775807 := by omega)
    (w4 : -9223372036854775808 ≤ vs.getD i (0 : Int) + pw256 ((0 : Int) - fl.getD ((2 : Int) * (↑i : Int) + (1 : Int)).toNat (0 : Int)) ∧ vs.getD i (0 : Int) + pw256 ((0 : Int) - fl.getD ((2 : Int) * (↑i : Int) + (1 : Int)).toNat (0 : Int)) ≤ 9223372036854775807 := by omega)
    (w5 : -9223372036854775808 ≤ (↑i : Int) + (1 : Int) ∧ (↑i : Int) + (1 : Int) ≤ 9223372036854775807 := by omega)
    (h1 : (↑i : Int) < (↑q : Int) := by first | omega | assumption | rfl)
    (h2 : (0 : Int) ≤ (2 : Int) * (↑i : Int) + (1 : Int) := by first | omega | assumption | rfl)
    (h3 : (2 : Int) * (↑i : Int) + (1 : Int) < (↑((2 : Nat) * k) : Int) := by first | omega | assumption | rfl)
    (h4 : ((2 : Int) * (↑i : Int) + (1 : Int)).toNat < (2 : Nat) * k := by first | omega | assumption | rfl)
    (h5 : (0 : Int) ≤ (↑i : Int) := by first | omega | assumption | rfl)
    (h6 : i < n := by first | omega | assumption | rfl)
    (h7 : (-4 : Int) ≤ fl.getD ((2 : Int) * (↑i : Int) + (1 : Int)).toNat (0 : Int) ∧ fl.getD ((2 : Int) * (↑i : Int) + (1 : Int)).toNat (0 : Int) ≤ (4 : Int) ∧ fl.getD ((2 : Int) * (↑i : Int) + (1 : Int)).toNat (0 : Int) ≠ (0 : Int) := by first | omega | assumption | rfl | ((repeat' with_reducible apply And.intro) <;> first | rfl | assumption | omega))
    (h8 : fitI (vs.getD i (0 : Int)) (fl.getD ((2 : Int) * (↑i : Int) + (1 : Int)).toNat (0 : Int)) := by first | omega | assumption | rfl)
    (h9 : fl.getD ((2 : Int) * (↑i : Int) + (1 : Int)).toNat (0 : Int) < (0 : Int) := by first | omega | assumption | rfl)
    (h10 : vs.getD i (0 : Int) < (0 : Int) := by first | omega | assumption | rfl)
    (h11 : (0 : Int) ≤ (0 : Int) - fl.getD ((2 : Int) * (↑i : Int) + (1 : Int)).toNat (0 : Int) ∧ (0 : Int) - fl.getD ((2 : Int) * (↑i : Int) + (1 : Int)).toNat (0 : Int) ≤ (7 : Int) := by first | omega | assumption | rfl | ((repeat' with_reducible apply And.intro) <;> first | rfl | assumption | omega))
    (h12 : (2 : Nat) * k = (2 : Nat) * k ∧ len = len ∧ (0 : Int) ≤ (0 : Int) - fl.getD ((2 : Int) * (↑i : Int) + (1 : Int)).toNat (0 : Int) ∧ (0 : Int) - fl.getD ((2 : Int) * (↑i : Int) + (1 : Int)).toNat (0 : Int) ≤ (4 : Int) ∧ (0 : Int) ≤ (↑i : Int) ∧ (2 : Nat) * k = (2 : Nat) * ((2 : Nat) * k / (2 : Nat)) ∧ (2 : Int) * (↑i : Int) < (↑((2 : Nat) * k) : Int) ∧ (↑len : Int) = (↑len : Int) ∧ (0 : Int) ≤ fl.getD ((2 : Int) * (↑i : Int)).toNat (0 : Int) ∧ fl.getD ((2 : Int) * (↑i : Int)).toNat (0 : Int) + ((0 : Int) - fl.getD ((2 : Int) * (↑i : Int) + (1 : Int)).toNat (0 : Int)) ≤ (↑len : Int) ∧ len ≤ (1000000 : Nat) ∧ (2 : Nat) * k ≤ (1000000 : Nat) ∧ (0 : Int) ≤ vs.getD i (0 : Int) + pw256 ((0 : Int) - fl.getD ((2 : Int) * (↑i : Int) + (1 : Int)).toNat (0 : Int)) ∧ vs.getD i (0 : Int) + pw256 ((0 : Int) - fl.getD ((2 : Int) * (↑i : Int) + (1 : Int)).toNat (0 : Int)) ≤ (1000000000000 : Int) := by first | omega | assumption | rfl | ((repeat' with_reducible apply And.intro) <;> first | rfl | assumption | omega)) : roundK Try.prog (SPrUR.on [(34, true), (50, false), (52, true), (61, true)]) LPuI Try.f19.ntmps 1 outPu livePuO [pt 1, .slice none 0 0, w63 0, w63 len, sl 2 (2 * k) 0, sl 3 len cc, w63 i] (hpPu x y n q c len (2 * k) vs bs fl) on out =
     (on [Value.pointer (some (Addr.mk (1 : Nat) (0 : Nat) none)), Value.slice none (0 : Nat) (0 : Nat), Value.int IntKind.i64 (0 : Int), Value.int IntKind.i64 (↑len : Int), Value.slice (some (Addr.mk (2 :
     Nat) (0 : Nat) none)) ((2 : Nat) * k) (0 : Nat), Value.slice (some (Addr.mk (3 : Nat) (0 : Nat) none)) len cc, Value.int IntKind.i64 ((↑i : Int) + (1 : Int))] [some (Blk.mk false (1 : Nat) [Seg.ints
     IntKind.i64 n vs]), some (Blk.mk true (3 : Nat) [Seg.ints IntKind.u8 (2 : Nat) [x, y], Seg.vals [Value.slice (some (Addr.mk (0 : Nat) (0 : Nat) none)) q c]]), some (Blk.mk true (1 : Nat) [Seg.ints
     IntKind.i64 ((2 : Nat) * k) fl]), some (Blk.mk true (1 : Nat) [Seg.ints IntKind.u8 len (putB bs (fl.getD ((2 : Int) * (↑i : Int)).toNat (0 : Int)).toNat (le (vs.getD i (0 : Int) + pw256 ((0 : Int) -
     fl.getD ((2 : Int) * (↑i : Int) + (1 : Int)).toNat (0 : Int))) ((0 : Int) - fl.getD ((2 : Int) * (↑i : Int) + (1 : Int)).toNat (0 : Int)).toNat))])]) :=
  Eq.trans (b :=
     bif decide ((↑i : Int) < (↑q : Int)) then bif decide ((0 : Int) ≤ IntKind.i64.wrap (IntKind.i64.wrap ((2 : Int) * (↑i : Int)) + (1 : Int))) && decide (IntKind.i64.wrap (IntKind.i64.wrap ((2 : Int) *
     (↑i : Int)) + (1 : Int)) < (↑((2 : Nat) * k) : Int)) then bif ((0 : Nat) + (IntKind.i64.wrap (IntKind.i64.wrap ((2 : Int) * (↑i : Int)) + (1 : Int))).toNat * (1 : Nat)).blt ((2 : Nat) * k) then bif
     decide ((0 : Int) ≤ (↑i : Int)) && decide ((↑i : Int) < (↑q : Int)) then bif ((0 : Nat) + (↑i : Int).toNat * (1 : Nat)).blt n then bif chk ((-4 : Int) ≤ fl.getD ((0 : Nat) + (IntKind.i64.wrap
     (IntKind.i64.wrap ((2 : Int) * (↑i : Int)) + (1 : Int))).toNat * (1 : Nat)) (0 : Int) ∧ fl.getD ((0 : Nat) + (IntKind.i64.wrap (IntKind.i64.wrap ((2 : Int) * (↑i : Int)) + (1 : Int))).toNat * (1 :
     Nat)) (0 : Int) ≤ (4 : Int) ∧ fl.getD ((0 : Nat) + (IntKind.i64.wrap (IntKind.i64.wrap ((2 : Int) * (↑i : Int)) + (1 : Int))).toNat * (1 : Nat)) (0 : Int) ≠ (0 : Int)) then bif !decide (fitI (vs.getD
     ((0 : Nat) + (↑i : Int).toNat * (1 : Nat)) (0 : Int)) (fl.getD ((0 : Nat) + (IntKind.i64.wrap (IntKind.i64.wrap ((2 : Int) * (↑i : Int)) + (1 : Int))).toNat * (1 : Nat)) (0 : Int))) then none else bif
     decide (fl.getD ((0 : Nat) + (IntKind.i64.wrap (IntKind.i64.wrap ((2 : Int) * (↑i : Int)) + (1 : Int))).toNat * (1 : Nat)) (0 : Int) < (0 : Int)) then bif decide ((0 : Int) ≤ (↑i : Int)) && decide
     ((↑i : Int) < (↑q : Int)) then bif ((0 : Nat) + (↑i : Int).toNat * (1 : Nat)).blt n then bif decide (vs.getD ((0 : Nat) + (↑i : Int).toNat * (1 : Nat)) (0 : Int) < (0 : Int)) then bif chk ((0 : Int) ≤
     IntKind.i64.wrap ((0 : Int) - fl.getD ((0 : Nat) + (IntKind.i64.wrap (IntKind.i64.wrap ((2 : Int) * (↑i : Int)) + (1 : Int))).toNat * (1 : Nat)) (0 : Int)) ∧ IntKind.i64.wrap ((0 : Int) - fl.getD ((0
     : Nat) + (IntKind.i64.wrap (IntKind.i64.wrap ((2 : Int) * (↑i : Int)) + (1 : Int))).toNat * (1 : Nat)) (0 : Int)) ≤ (7 : Int)) then bif chk ((2 : Nat) * k = (2 : Nat) * k ∧ len = len ∧ (0 : Int) ≤
     IntKind.i64.wrap ((0 : Int) - fl.getD ((0 : Nat) + (IntKind.i64.wrap (IntKind.i64.wrap ((2 : Int) * (↑i : Int)) + (1 : Int))).toNat * (1 : Nat)) (0 : Int)) ∧ IntKind.i64.wrap ((0 : Int) - fl.getD ((0
     : Nat) + (IntKind.i64.wrap (IntKind.i64.wrap ((2 : Int) * (↑i : Int)) + (1 : Int))).toNat * (1 : Nat)) (0 : Int)) ≤ (4 : Int) ∧ (0 : Int) ≤ (↑i : Int) ∧ (2 : Nat) * k = (2 : Nat) * ((2 : Nat) * k / (2
     : Nat)) ∧ (2 : Int) * (↑i : Int) < (↑((2 : Nat) * k) : Int) ∧ (↑len : Int) = (↑len : Int) ∧ (0 : Int) ≤ fl.getD ((2 : Int) * (↑i : Int)).toNat (0 : Int) ∧ fl.getD ((2 : Int) * (↑i : Int)).toNat (0 :
     Int) + IntKind.i64.wrap ((0 : Int) - fl.getD ((0 : Nat) + (IntKind.i64.wrap (IntKind.i64.wrap ((2 : Int) * (↑i : Int)) + (1 : Int))).toNat * (1 : Nat)) (0 : Int)) ≤ (↑len : Int) ∧ len ≤ (1000000 :
     Nat) ∧ (2 : Nat) * k ≤ (1000000 : Nat) ∧ (0 : Int) ≤ IntKind.i64.wrap (vs.getD ((0 : Nat) + (↑i : Int).toNat * (1 : Nat)) (0 : Int) + pw256 (IntKind.i64.wrap ((0 : Int) - fl.getD ((0 : Nat) +
     (IntKind.i64.wrap (IntKind.i64.wrap ((2 : Int) * (↑i : Int)) + (1 : Int))).toNat * (1 : Nat)) (0 : Int)))) ∧ IntKind.i64.wrap (vs.getD ((0 : Nat) + (↑i : Int).toNat * (1 : Nat)) (0 : Int) + pw256
     (IntKind.i64.wrap ((0 : Int) - fl.getD ((0 : Nat) + (IntKind.i64.wrap (IntKind.i64.wrap ((2 : Int) * (↑i : Int)) + (1 : Int))).toNat * (1 : Nat)) (0 : Int)))) ≤ (1000000000000 : Int)) then on
     [Value.pointer (some (Addr.mk (1 : Nat) (0 : Nat) none)), Value.slice none (0 : Nat) (0 : Nat), Value.int IntKind.i64 (0 : Int), Value.int IntKind.i64 (↑len : Int), Value.slice (some (Addr.mk (2 :
     Nat) (0 : Nat) none)) ((2 : Nat) * k) (0 : Nat), Value.slice (some (Addr.mk (3 : Nat) (0 : Nat) none)) len cc, Value.int IntKind.i64 (IntKind.i64.wrap ((↑i : Int) + (1 : Int)))] [some (Blk.mk false (1
     : Nat) [Seg.ints IntKind.i64 n vs]), some (Blk.mk true (3 : Nat) [Seg.ints IntKind.u8 (2 : Nat) [x, y], Seg.vals [Value.slice (some (Addr.mk (0 : Nat) (0 : Nat) none)) q c]]), some (Blk.mk true (1 :
     Nat) [Seg.ints IntKind.i64 ((2 : Nat) * k) fl]), some (Blk.mk true (1 : Nat) [Seg.ints IntKind.u8 len (putB bs (fl.getD ((2 : Int) * (↑i : Int)).toNat (0 : Int)).toNat (le (IntKind.i64.wrap (vs.getD
     ((0 : Nat) + (↑i : Int).toNat * (1 : Nat)) (0 : Int) + pw256 (IntKind.i64.wrap ((0 : Int) - fl.getD ((0 : Nat) + (IntKind.i64.wrap (IntKind.i64.wrap ((2 : Int) * (↑i : Int)) + (1 : Int))).toNat * (1 :
     Nat)) (0 : Int))))) (IntKind.i64.wrap ((0 : Int) - fl.getD ((0 : Nat) + (IntKind.i64.wrap (IntKind.i64.wrap ((2 : Int) * (↑i : Int)) + (1 : Int))).toNat * (1 : Nat)) (0 : Int))).toNat))])] else none
     else none else none else none else none else none else none else none else none else none else none else none) (by kernel_rfl) (by simp only [-eq_self, Nat.mul_one, Nat.zero_add, Int.toNat_natCast, swrap w1.1 w1.2, swrap w2.1 w2.2, swrap w3.1 w3.2, swrap w4.1 w4.2, swrap w5.1 w5.2]; exact (go_t (dec_t h1) (go_t (and_t (dec_t h2) (dec_t h3)) (go_t (blt_t h4) (go_t (and_t (dec_t h5) (dec_t h1)) (go_t (blt_t h6) (go_t (chk_t h7) (go_f (not_f (dec_t h8)) (go_t (dec_t h9) (go_t (and_t (dec_t h5) (dec_t h1)) (go_t (blt_t h6) (go_t (dec_t h10) (go_t (chk_t h11) (go_t (chk_t h12) rfl))))))))))))))
--CFEND
--CP pPuU (x y) (n q c cc len i k : Nat) (vs bs fl : List Int) (on : List Value → Heap → Out) (out : Exit → List Value → Heap → Out) :: roundK Try.prog (SPrUR.on [(34, true), (50, true)]) LPuI Try.f19.ntmps 1 outPu livePuO [pt 1, .slice none 0 0, w63 0, w63 len, sl 2 (2 * k) 0, sl 3 len cc, w63 i] (hpPu x y n q c len (2 * k) vs bs fl) on out
theorem pPuU (x y) (n q c cc len i k : Nat) (vs bs fl : List Int) (on : List Value → Heap → Out) (out : Exit → List Value → Heap → Out)
    (w1 : -9223372036854775808 ≤ (2 : Int) * (↑i : Int) ∧ (2 : Int) * (↑i : Int) ≤ 9223372036854775807 := by omega)
    (w2 : -9223372036854775808 ≤ (2 : Int) * (↑i : Int) + (1 : Int) ∧ (2 : Int) * (↑i : Int) + (1 : Int) ≤ 9223372036854775807 := by omega)
    (h1 : (↑i : Int) < (↑q : Int) := by first | omega | assumption | rfl)
    (h2 : (0 : Int) ≤ (2 : Int) * (↑i : Int) + (1 : Int) := by first | omega | assumption | rfl)
    (h3 : (2 : Int) * (↑i : Int) + (1 : Int) < (↑((2 : Nat) * k) : Int) := by first | omega | assumption | rfl)
    (h4 : ((2 : Int) * (↑i : Int) + (1 : Int)).toNat < (2 : Nat) * k := by first | omega | assumption | rfl)
    (h5 : (0 : Int) ≤ (↑i : Int) := by first | omega | assumption | rfl)
    (h6 : i < n := by first | omega | assumption | rfl)
    (h7 : (-4 : Int) ≤ fl.getD ((2 : Int) * (↑i : Int) + (1 : Int)).toNat (0 : Int) ∧ fl.getD ((2 : Int) * (↑i : Int) + (1 : Int)).toNat (0 : Int) ≤ (4 : Int) ∧ fl.getD ((2 : Int) * (↑i : Int) + (1 : Int)).toNat (0 : Int) ≠ (0 : Int) := by first | omega | assumption | rfl | ((repeat' with_reducible apply And.intro) <;> first | rfl | assumption | omega))
    (h8 : ¬fitI (vs.getD i (0 : Int)) (fl.getD ((2 : Int) * (↑i : Int) + (1 : Int)).toNat (0 : Int)) := by first | omega | assumption | rfl) : roundK Try.prog (SPrUR.on [(34, true), (50, true)]) LPuI Try.f19.ntmps 1 outPu livePuO [pt 1, .slice none 0 0, w63 0, w63 len, sl 2 (2 * k) 0, sl 3 len cc, w63 i] (hpPu x y n q c len (2 * k) vs bs fl) on out =
     (out Exit.ret [Value.pointer (some (Addr.mk (1 : Nat) (0 : Nat) none)), Value.slice none (0 : Nat) (0 : Nat), Value.int IntKind.i64 (2 : Int), Value.int IntKind.i64 (↑len : Int), Value.slice (some
     (Addr.mk (2 : Nat) (0 : Nat) none)) ((2 : Nat) * k) (0 : Nat), Value.slice (some (Addr.mk (3 : Nat) (0 : Nat) none)) len cc, Value.int IntKind.i64 (↑i : Int)] [some (Blk.mk false (1 : Nat) [Seg.ints
     IntKind.i64 n vs]), some (Blk.mk true (3 : Nat) [Seg.ints IntKind.u8 (2 : Nat) [x, y], Seg.vals [Value.slice (some (Addr.mk (0 : Nat) (0 : Nat) none)) q c]]), some (Blk.mk true (1 : Nat) [Seg.ints
     IntKind.i64 ((2 : Nat) * k) fl]), some (Blk.mk true (1 : Nat) [Seg.ints IntKind.u8 len bs])]) :=
  Eq.trans (b :=
     bif decide ((↑i : Int) < (↑q : Int)) then bif decide ((0 : Int) ≤ IntKind.i64.wrap (IntKind.i64.wrap ((2 : Int) * (↑i : Int)) + (1 : Int))) && decide (IntKind.i64.wrap (IntKind.i64.wrap ((2 : Int) *
     (↑i : Int)) + (1 : Int)) < (↑((2 : Nat) * k) : Int)) then bif ((0 : Nat) + (IntKind.i64.wrap (IntKind.i64.wrap ((2 : Int) * (↑i : Int)) + (1 : Int))).toNat * (1 : Nat)).blt ((2 : Nat) * k) then bif
     decide ((0 : Int) ≤ (↑i : Int)) && decide ((↑i : Int) < (↑q : Int)) then bif ((0 : Nat) + (↑i : Int).toNat * (1 : Nat)).blt n then bif chk ((-4 : Int) ≤ fl.getD ((0 : Nat) + (IntKind.i64.wrap
     (IntKind.i64.wrap ((2 : Int) * (↑i : Int)) + (1 : Int))).toNat * (1 : Nat)) (0 : Int) ∧ fl.getD ((0 : Nat) + (IntKind.i64.wrap (IntKind.i64.wrap ((2 : Int) * (↑i : Int)) + (1 : Int))).toNat * (1 :
     Nat)) (0 : Int) ≤ (4 : Int) ∧ fl.getD ((0 : Nat) + (IntKind.i64.wrap (IntKind.i64.wrap ((2 : Int) * (↑i : Int)) + (1 : Int))).toNat * (1 : Nat)) (0 : Int) ≠ (0 : Int)) then bif !decide (fitI (vs.getD
     ((0 : Nat) + (↑i : Int).toNat * (1 : Nat)) (0 : Int)) (fl.getD ((0 : Nat) + (IntKind.i64.wrap (IntKind.i64.wrap ((2 : Int) * (↑i : Int)) + (1 : Int))).toNat * (1 : Nat)) (0 : Int))) then out Exit.ret
     [Value.pointer (some (Addr.mk (1 : Nat) (0 : Nat) none)), Value.slice none (0 : Nat) (0 : Nat), Value.int IntKind.i64 (2 : Int), Value.int IntKind.i64 (↑len : Int), Value.slice (some (Addr.mk (2 :
     Nat) (0 : Nat) none)) ((2 : Nat) * k) (0 : Nat), Value.slice (some (Addr.mk (3 : Nat) (0 : Nat) none)) len cc, Value.int IntKind.i64 (↑i : Int)] [some (Blk.mk false (1 : Nat) [Seg.ints IntKind.i64 n
     vs]), some (Blk.mk true (3 : Nat) [Seg.ints IntKind.u8 (2 : Nat) [x, y], Seg.vals [Value.slice (some (Addr.mk (0 : Nat) (0 : Nat) none)) q c]]), some (Blk.mk true (1 : Nat) [Seg.ints IntKind.i64 ((2 :
     Nat) * k) fl]), some (Blk.mk true (1 : Nat) [Seg.ints IntKind.u8 len bs])] else none else none else none else none else none else none else none) (by kernel_rfl) (by simp only [-eq_self, Nat.mul_one, Nat.zero_add, Int.toNat_natCast, swrap w1.1 w1.2, swrap w2.1 w2.2]; exact (go_t (dec_t h1) (go_t (and_t (dec_t h2) (dec_t h3)) (go_t (blt_t h4) (go_t (and_t (dec_t h5) (dec_t h1)) (go_t (blt_t h6) (go_t (chk_t h7) (go_t (not_t (dec_f h8)) rfl))))))))
--CFEND
--CP pPuX (x y) (n q c cc len i k : Nat) (vs bs fl : List Int) (on : List Value → Heap → Out) (out : Exit → List Value → Heap → Out) :: roundK Try.prog (SPrUR.on [(34, false)]) LPuI Try.f19.ntmps 1 outPu livePuO [pt 1, .slice none 0 0, w63 0, w63 len, sl 2 (2 * k) 0, sl 3 len cc, w63 i] (hpPu x y n q c len (2 * k) vs bs fl) on out
theorem pPuX (x y) (n q c cc len i k : Nat) (vs bs fl : List Int) (on : List Value → Heap → Out) (out : Exit → List Value → Heap → Out)
    (h1 : ¬(↑i : Int) < (↑q : Int) := by first | omega | assumption | rfl) : roundK Try.prog (SPrUR.on [(34, false)]) LPuI Try.f19.ntmps 1 outPu livePuO [pt 1, .slice none 0 0, w63 0, w63 len, sl 2 (2 * k) 0, sl 3 len cc, w63 i] (hpPu x y n q c len (2 * k) vs bs fl) on out =
     (out (Exit.exit (0 : Nat)) [Value.pointer (some (Addr.mk (1 : Nat) (0 : Nat) none)), Value.slice none (0 : Nat) (0 : Nat), Value.int IntKind.i64 (0 : Int), Value.int IntKind.i64 (↑len : Int),
     Value.slice (some (Addr.mk (2 : Nat) (0 : Nat) none)) ((2 : Nat) * k) (0 : Nat), Value.slice (some (Addr.mk (3 : Nat) (0 : Nat) none)) len cc, Value.int IntKind.i64 (↑i : Int)] [some (Blk.mk false (1
     : Nat) [Seg.ints IntKind.i64 n vs]), some (Blk.mk true (3 : Nat) [Seg.ints IntKind.u8 (2 : Nat) [x, y], Seg.vals [Value.slice (some (Addr.mk (0 : Nat) (0 : Nat) none)) q c]]), some (Blk.mk true (1 :
     Nat) [Seg.ints IntKind.i64 ((2 : Nat) * k) fl]), some (Blk.mk true (1 : Nat) [Seg.ints IntKind.u8 len bs])]) :=
  Eq.trans (by kernel_rfl) (go_f (dec_f h1) rfl)
--CFEND
noncomputable def LPuTf : LF := fun vs h k => match vs, h with
  | [.pointer (some ⟨1, 0, none⟩), .slice none 0 0, .int .i64 0, .int .i64 ln, .slice (some ⟨2, 0, none⟩) K' 0, .slice (some ⟨3, 0, none⟩) len' cc, .int .i64 0], [some ⟨false, 1, [.ints .i64 n vl]⟩, some ⟨true, 3, [.ints .u8 2 [x, y], .vals [.slice (some ⟨0, 0, none⟩) q c]]⟩, some ⟨true, 1, [.ints .i64 K fl]⟩, some ⟨true, 1, [.ints .u8 len bs]⟩] =>
    bif chk (ln = len ∧ K' = K ∧ len' = len ∧ q = n ∧ K = 2 * q ∧ q ≤ 100 ∧ fldsOK len fl q ∧ len ≤ 1000000 ∧ fitsTo fl vl q) then
      k (.exit 0) [pt 1, .slice none 0 0, w63 0, w63 len, sl 2 K 0, sl 3 len cc, w63 q] (hpPu x y n q c len K vl (payL bs fl vl q) fl) else none
  | _, _ => none
noncomputable def LPuT : LSpec := oneL 8 livePuO LPuTf
noncomputable def LPuFf : LF := fun vs h k => match vs, h with
  | [.pointer (some ⟨1, 0, none⟩), .slice none 0 0, .int .i64 0, .int .i64 ln, .slice (some ⟨2, 0, none⟩) K' 0, .slice (some ⟨3, 0, none⟩) len' cc, .int .i64 0], [some ⟨false, 1, [.ints .i64 n vl]⟩, some ⟨true, 3, [.ints .u8 2 [x, y], .vals [.slice (some ⟨0, 0, none⟩) q c]]⟩, some ⟨true, 1, [.ints .i64 K fl]⟩, some ⟨true, 1, [.ints .u8 len bs]⟩] =>
    bif chk (ln = len ∧ K' = K ∧ len' = len ∧ q = n ∧ K = 2 * q ∧ q ≤ 100 ∧ fldsOK len fl q ∧ len ≤ 1000000 ∧ ¬ fitsTo fl vl q) then
      k .ret [pt 1, .slice none 0 0, w63 2, w63 len, sl 2 K 0, sl 3 len cc, w63 (endPy fl vl q)] (hpPu x y n q c len K vl (payL bs fl vl (endPy fl vl q)) fl) else none
  | _, _ => none
noncomputable def LPuF : LSpec := oneL 8 livePuO LPuFf
--CP pPuTF (x y) (n q c len : Nat) (vs fl : List Int) :: fnK Try.prog ((SDecURv len fl).on [(20, false), (27, false)]) LPuT Try.f19 [.agg #[u8v x, u8v y, sl 0 q c]] [rI n vs]
theorem pPuTF (x y) (n q c len : Nat) (vs fl : List Int)
    (w1 : -9223372036854775808 ≤ (↑q : Int) * (2 : Int) ∧ (↑q : Int) * (2 : Int) ≤ 9223372036854775807 := by omega)
    (h1 : layU x y = some (len, fl) := by first | omega | assumption | rfl)
    (h2 : (↑len : Int) ≠ (0 : Int) := by first | omega | assumption | rfl)
    (h3 : (↑q : Int) * (2 : Int) = (↑fl.length : Int) := by first | omega | assumption | rfl)
    (h4 : (0 : Int) ≤ (↑len : Int) := by first | omega | assumption | rfl)
    (h5 : (↑len : Int) ≤ (↑len : Int) := by first | omega | assumption | rfl)
    (h6 : (1 : Int) * (↑len : Int) ≤ (281474976710656 : Int) := by first | omega | assumption | rfl)
    (h7 : (↑len : Int) ≤ (4611686018427387904 : Int) := by first | omega | assumption | rfl)
    (h8 : (↑len : Int) = (↑len : Int) ∧ fl.length = fl.length ∧ len = len ∧ q = n ∧ fl.length = (2 : Nat) * q ∧ q ≤ (100 : Nat) ∧ fldsOK len fl q ∧ len ≤ (1000000 : Nat) ∧ fitsTo fl vs q := by first | omega | assumption | rfl | ((repeat' with_reducible apply And.intro) <;> first | rfl | assumption | omega)) : fnK Try.prog ((SDecURv len fl).on [(20, false), (27, false)]) LPuT Try.f19 [.agg #[u8v x, u8v y, sl 0 q c]] [rI n vs] =
     (some (Res.ret (Value.tuple (Array.mk [Value.slice (some (Addr.mk (1 : Nat) (0 : Nat) none)) len (bif decide ((↑len : Int) = (↑len : Int)) then (0 : Nat) else (1 : Nat)), Value.int IntKind.i64 (0 :
     Int)])) [some (Blk.mk false (1 : Nat) [Seg.ints IntKind.i64 n vs]), some (Blk.mk true (1 : Nat) [Seg.ints IntKind.u8 len (payL (List.replicate len (0 : Int)) fl vs q)])])) :=
  Eq.trans (b :=
     bif chk (layU x y = some (len, fl)) then bif (↑len : Int) == (0 : Int) then none else bif IntKind.i64.wrap ((↑q : Int) * (2 : Int)) != (↑fl.length : Int) then none else bif decide ((0 : Int) ≤ (↑len :
     Int)) && decide ((↑len : Int) ≤ (↑len : Int)) && decide ((1 : Int) * (↑len : Int) ≤ (281474976710656 : Int)) && decide ((↑len : Int) ≤ (4611686018427387904 : Int)) then bif chk ((↑len : Int) = (↑(↑len
     : Int).toNat : Int) ∧ fl.length = fl.length ∧ (↑len : Int).toNat = (↑len : Int).toNat ∧ q = n ∧ fl.length = (2 : Nat) * q ∧ q ≤ (100 : Nat) ∧ fldsOK (↑len : Int).toNat fl q ∧ (↑len : Int).toNat ≤
     (1000000 : Nat) ∧ fitsTo fl vs q) then some (Res.ret (Value.tuple (Array.mk [Value.slice (some (Addr.mk (1 : Nat) (0 : Nat) none)) (↑len : Int).toNat (bif decide ((↑len : Int) = (↑len : Int)) then (0
     : Nat) else (1 : Nat)), Value.int IntKind.i64 (0 : Int)])) [some (Blk.mk false (1 : Nat) [Seg.ints IntKind.i64 n vs]), some (Blk.mk true (1 : Nat) [Seg.ints IntKind.u8 (↑len : Int).toNat (payL
     (List.replicate (↑len : Int).toNat (0 : Int)) fl vs q)])]) else none else none else none) (by kernel_rfl) (by simp only [-eq_self, Int.toNat_natCast, swrap w1.1 w1.2]; exact (go_t (chk_t h1) (go_f (eqb_f h2) (go_f (bne_f h3) (go_t (and_t (and_t (and_t (dec_t h4) (dec_t h5)) (dec_t h6)) (dec_t h7)) (go_t (chk_t h8) rfl))))))
--CFEND
--CP pPuFF (x y) (n q c len : Nat) (vs fl : List Int) :: fnK Try.prog ((SDecURv len fl).on [(20, false), (27, false)]) LPuF Try.f19 [.agg #[u8v x, u8v y, sl 0 q c]] [rI n vs]
theorem pPuFF (x y) (n q c len : Nat) (vs fl : List Int)
    (w1 : -9223372036854775808 ≤ (↑q : Int) * (2 : Int) ∧ (↑q : Int) * (2 : Int) ≤ 9223372036854775807 := by omega)
    (h1 : layU x y = some (len, fl) := by first | omega | assumption | rfl)
    (h2 : (↑len : Int) ≠ (0 : Int) := by first | omega | assumption | rfl)
    (h3 : (↑q : Int) * (2 : Int) = (↑fl.length : Int) := by first | omega | assumption | rfl)
    (h4 : (0 : Int) ≤ (↑len : Int) := by first | omega | assumption | rfl)
    (h5 : (↑len : Int) ≤ (↑len : Int) := by first | omega | assumption | rfl)
    (h6 : (1 : Int) * (↑len : Int) ≤ (281474976710656 : Int) := by first | omega | assumption | rfl)
    (h7 : (↑len : Int) ≤ (4611686018427387904 : Int) := by first | omega | assumption | rfl)
    (h8 : (↑len : Int) = (↑len : Int) ∧ fl.length = fl.length ∧ len = len ∧ q = n ∧ fl.length = (2 : Nat) * q ∧ q ≤ (100 : Nat) ∧ fldsOK len fl q ∧ len ≤ (1000000 : Nat) ∧ ¬fitsTo fl vs q := by first | omega | assumption | rfl | ((repeat' with_reducible apply And.intro) <;> first | rfl | assumption | omega)) : fnK Try.prog ((SDecURv len fl).on [(20, false), (27, false)]) LPuF Try.f19 [.agg #[u8v x, u8v y, sl 0 q c]] [rI n vs] =
     (some (Res.ret (Value.tuple (Array.mk [Value.slice none (0 : Nat) (0 : Nat), Value.int IntKind.i64 (2 : Int)])) [some (Blk.mk false (1 : Nat) [Seg.ints IntKind.i64 n vs])])) :=
  Eq.trans (b :=
     bif chk (layU x y = some (len, fl)) then bif (↑len : Int) == (0 : Int) then none else bif IntKind.i64.wrap ((↑q : Int) * (2 : Int)) != (↑fl.length : Int) then none else bif decide ((0 : Int) ≤ (↑len :
     Int)) && decide ((↑len : Int) ≤ (↑len : Int)) && decide ((1 : Int) * (↑len : Int) ≤ (281474976710656 : Int)) && decide ((↑len : Int) ≤ (4611686018427387904 : Int)) then bif chk ((↑len : Int) = (↑(↑len
     : Int).toNat : Int) ∧ fl.length = fl.length ∧ (↑len : Int).toNat = (↑len : Int).toNat ∧ q = n ∧ fl.length = (2 : Nat) * q ∧ q ≤ (100 : Nat) ∧ fldsOK (↑len : Int).toNat fl q ∧ (↑len : Int).toNat ≤
     (1000000 : Nat) ∧ ¬fitsTo fl vs q) then some (Res.ret (Value.tuple (Array.mk [Value.slice none (0 : Nat) (0 : Nat), Value.int IntKind.i64 (2 : Int)])) [some (Blk.mk false (1 : Nat) [Seg.ints
     IntKind.i64 n vs])]) else none else none else none) (by kernel_rfl) (by simp only [-eq_self, Int.toNat_natCast, swrap w1.1 w1.2]; exact (go_t (chk_t h1) (go_f (eqb_f h2) (go_f (bne_f h3) (go_t (and_t (and_t (and_t (dec_t h4) (dec_t h5)) (dec_t h6)) (dec_t h7)) (go_t (chk_t h8) rfl))))))
--CFEND
--CP pPuCF (x y) (n q c len : Nat) (vs fl : List Int) :: fnK Try.prog ((SDecURv len fl).on [(20, false), (27, true)]) noL Try.f19 [.agg #[u8v x, u8v y, sl 0 q c]] [rI n vs]
theorem pPuCF (x y) (n q c len : Nat) (vs fl : List Int)
    (w1 : -9223372036854775808 ≤ (↑q : Int) * (2 : Int) ∧ (↑q : Int) * (2 : Int) ≤ 9223372036854775807 := by omega)
    (h1 : layU x y = some (len, fl) := by first | omega | assumption | rfl)
    (h2 : (↑len : Int) ≠ (0 : Int) := by first | omega | assumption | rfl)
    (h3 : (↑q : Int) * (2 : Int) ≠ (↑fl.length : Int) := by first | omega | assumption | rfl) : fnK Try.prog ((SDecURv len fl).on [(20, false), (27, true)]) noL Try.f19 [.agg #[u8v x, u8v y, sl 0 q c]] [rI n vs] =
     (some (Res.ret (Value.tuple (Array.mk [Value.slice none (0 : Nat) (0 : Nat), Value.int IntKind.i64 (2 : Int)])) [some (Blk.mk false (1 : Nat) [Seg.ints IntKind.i64 n vs])])) :=
  Eq.trans (b :=
     bif chk (layU x y = some (len, fl)) then bif (↑len : Int) == (0 : Int) then none else bif IntKind.i64.wrap ((↑q : Int) * (2 : Int)) != (↑fl.length : Int) then some (Res.ret (Value.tuple (Array.mk
     [Value.slice none (0 : Nat) (0 : Nat), Value.int IntKind.i64 (2 : Int)])) [some (Blk.mk false (1 : Nat) [Seg.ints IntKind.i64 n vs])]) else none else none) (by kernel_rfl) (by simp only [-eq_self, swrap w1.1 w1.2]; exact (go_t (chk_t h1) (go_f (eqb_f h2) (go_t (bne_t h3) rfl))))
--CFEND
--CP pPuNF (x y) (n q c : Nat) (vs : List Int) :: fnK Try.prog (SDecURn.on [(20, true)]) noL Try.f19 [.agg #[u8v x, u8v y, sl 0 q c]] [rI n vs]
theorem pPuNF (x y) (n q c : Nat) (vs : List Int)
    (h1 : layU x y = none := by first | omega | assumption | rfl) : fnK Try.prog (SDecURn.on [(20, true)]) noL Try.f19 [.agg #[u8v x, u8v y, sl 0 q c]] [rI n vs] =
     (some (Res.ret (Value.tuple (Array.mk [Value.slice none (0 : Nat) (0 : Nat), Value.int IntKind.i64 (7 : Int)])) [some (Blk.mk false (1 : Nat) [Seg.ints IntKind.i64 n vs])])) :=
  Eq.trans (by kernel_rfl) (go_t (chk_t h1) rfl)
--CFEND
end Go.Proofs.Ytcjjngdkkihgjaa.VC

/- ubx, the document's: Payload: what it is. -/
namespace Go.Proofs.Ytcjjngdkkihgjaa.VC
open Go Go.Proofs

theorem beB_add {v : Int} {s m : Nat} (h : s < m) : beB (v + 256 ^ m) s = beB v s := by
  unfold beB
  obtain ⟨r, rfl⟩ : ∃ r, m = s + (r + 1) := ⟨m - s - 1, by omega⟩
  have hp : (0 : Int) < 256 ^ s := Int.pow_pos (by decide)
  rw [Int.pow_add, Int.mul_comm, Int.add_mul_ediv_right _ _ (by omega), Int.pow_succ, Int.add_mul_emod_self_right]
theorem le_add (v : Int) {m : Nat} : ∀ s, s ≤ m → le (v + 256 ^ m) s = le v s
  | 0, _ => rfl
  | s + 1, h => by rw [le, le, le_add v s (by omega), beB_add (by omega)]
theorem SPrUR_ok : SpecOK Try.prog SPrUR := mkS_cons okFitR (mkS_cons okPow (mkS_nil _))
theorem loopPuI {x y v : Int} {n q c cc len i k m : Nat} {vs bs fl : List Int} (hm : m ≤ 4) (hi : i < k) (ha : 0 ≤ fl.getD (2 * (i : Int)).toNat 0) (hn : fl.getD (2 * (i : Int)).toNat 0 + m ≤ len) (hlen : len ≤ 1000000) (hk : 2 * k ≤ 1000000) (hv0 : 0 ≤ v) (hv1 : v ≤ 1000000000000) (hl : bs.length = len) : ∀ (r j : Nat), j + r = m →
    LoopT Try.prog Try.f19.ntmps 1 inPu (zipS livePuI [pt 1, .slice none 0 0, w63 0, w63 len, sl 2 (2 * k) 0, sl 3 len cc, w63 i, w63 m, w63 (v / pw256 j), w63 j]) (hpPu x y n q c len (2 * k) vs (putB bs (fl.getD (2 * (i : Int)).toNat 0).toNat (le v j)) fl) (.exit 2)
      (zipS livePuI [pt 1, .slice none 0 0, w63 0, w63 len, sl 2 (2 * k) 0, sl 3 len cc, w63 i, w63 m, w63 (v / pw256 m), w63 m]) (hpPu x y n q c len (2 * k) vs (putB bs (fl.getD (2 * (i : Int)).toNat 0).toNat (le v m)) fl) := by
  intro r
  induction r with
  | zero =>
    intro j hj
    obtain rfl : j = m := by omega
    exact LoopT.last (by intro h; cases h) (CodeT.out (mk0.on _) noL_ok fun on out => pPuIX x y _ _ _ n q c cc len i k vs _ fl on out)
  | succ r ih =>
    intro j hj
    have hp := pw_4 (n := (j : Int)) (by omega)
    have hr := ediv_rng (v := v) (p := pw256 j) (by omega) (by omega)
    have hr0 : 0 ≤ v / pw256 (j : Int) := Int.ediv_nonneg hv0 (by omega)
    have e0 := beB_shift v j
    have e1 := ediv_shift v j
    have hset : (putB bs (fl.getD (2 * (i : Int)).toNat 0).toNat (le v j)).set ((fl.getD (2 * (i : Int)).toNat 0).toNat + j) (beB v j) = putB bs (fl.getD (2 * (i : Int)).toNat 0).toNat (le v (j + 1)) := by
      have := putB_set (xs := bs) (l := le v j) (a := (fl.getD (2 * (i : Int)).toNat 0).toNat) (x := beB v j) (by rw [le_len]; omega)
      rw [le_len] at this
      exact this
    generalize v / pw256 (j : Int) = w at hr hr0 e0 e1
    refine LoopT.step (CodeT.on (live := livePuI) (vs1 := [pt 1, .slice none 0 0, w63 0, w63 len, sl 2 (2 * k) 0, sl 3 len cc, w63 i, w63 m, w63 (v / pw256 ((j + 1 : Nat) : Int)), w63 ((j + 1 : Nat) : Int)]) (h1 := hpPu x y n q c len (2 * k) vs (putB bs (fl.getD (2 * (i : Int)).toNat 0).toNat (le v (j + 1))) fl) (mk0.on [(68, true)]) noL_ok fun on out => ?_) (ih (j + 1) (by omega))
    have ed : w.tdiv 256 = w / 256 := Int.tdiv_eq_ediv_of_nonneg hr0
    have em : w.tmod 256 = w % 256 := Int.tmod_eq_emod_of_nonneg hr0
    have ei : (fl.getD (2 * (i : Int)).toNat 0 + (j : Int)).toNat = (fl.getD (2 * (i : Int)).toNat 0).toNat + j := by omega
    refine (pPuI x y w m n q c cc len i j k vs _ fl on out (w3 := by rw [ed]; omega)).trans ?_
    rw [ed, em, ei, e1, wU8, Int.emod_emod_of_dvd _ (Int.dvd_refl _), e0, hset]
    rfl
theorem loopOKPuI : LoopOK Try.prog Try.f19.ntmps 1 inPu livePuI LPuIf := by
  refine LoopOK.of_T ?_
  intro vs h k out hk
  unfold LPuIf at hk
  split at hk
  · rename_i ln K' len' cc i m v n vl x y q c K fl len bs
    obtain ⟨hb, hk2⟩ := bif_t hk
    obtain ⟨rfl, rfl, h4, h5, h6, h7, h8, rfl, h10, h11, h12, h13, h14, h15⟩ := chk_iff.1 hb
    refine ⟨_, _, _, hk2, fun real => ?_⟩
    have hs := real.segs (i := 3) rfl rfl _ (List.mem_cons_self ..)
    obtain ⟨i, rfl⟩ := Int.eq_ofNat_of_zero_le h6
    obtain ⟨m, rfl⟩ := Int.eq_ofNat_of_zero_le h4
    obtain ⟨k2, hk2⟩ : ∃ k2, k2 = K' / 2 := ⟨_, rfl⟩
    rw [← hk2] at h7
    subst h7
    have := loopPuI (x := x) (y := y) (v := v) (n := n) (q := q) (c := c) (cc := cc) (len := len') (i := i) (k := k2) (m := m) (vs := vl) (bs := bs) (fl := fl) (by omega) (by omega) h10 h11 h12 h13 h14 h15 hs.1 m 0 (by omega)
    have e0 : v / pw256 ((0 : Nat) : Int) = v := by unfold pw256; simp
    have e1 : putB bs (fl.getD (2 * (i : Int)).toNat 0).toNat (le v 0) = bs := putB_nil
    rw [e0, e1] at this
    exact this
  · cases hk
theorem loopsPuI : LoopsOK Try.prog LPuI Try.f19.ntmps 1 outPu := loops_one rfl (by kernel_rfl) loopOKPuI
theorem roundPu {x y : Int} {n q c cc len i k : Nat} {vs bs fl : List Int} (hi : i < k) (hk : k ≤ 100) (hq : k = q) (hn : q = n) (hf : fldsOK len fl k) (hlen : len ≤ 1000000) (hfit : fitI (vs.getD i 0) (fl.getD (i * 2 + 1) 0)) :
    CodeT Try.prog Try.f19.ntmps 1 outPu (zipS livePuO [pt 1, .slice none 0 0, w63 0, w63 len, sl 2 (2 * k) 0, sl 3 len cc, w63 i]) (hpPu x y n q c len (2 * k) vs (payL bs fl vs i) fl) .normal
      (zipS livePuO [pt 1, .slice none 0 0, w63 0, w63 len, sl 2 (2 * k) 0, sl 3 len cc, w63 ((i + 1 : Nat) : Int)]) (hpPu x y n q c len (2 * k) vs (payL bs fl vs (i + 1)) fl) := by
  obtain ⟨f1, f2, f3, f4, f5⟩ := hf i hi
  have hv := fit_big ⟨f1, f2⟩ hfit
  have e1 : ((2 : Int) * (i : Int) + 1).toNat = i * 2 + 1 := by omega
  have e2 : ((2 : Int) * (i : Int)).toNat = i * 2 := by omega
  have ek : 2 * k = 2 * (2 * k / 2) := by omega
  have hm := manyI_rng ⟨f1, f2⟩
  have hpw := pw_4 hm.2
  by_cases hneg : fl.getD (i * 2 + 1) 0 < 0
  · have em : 0 - fl.getD (i * 2 + 1) 0 = manyI (fl.getD (i * 2 + 1) 0) := by unfold manyI; rw [if_pos (by omega)]
    by_cases hvn : vs.getD i 0 < 0
    · have hfit2 := hfit
      unfold fitI at hfit2
      rw [if_pos hneg] at hfit2
      refine CodeT.on (S := SPrUR.on [(34, true), (50, false), (52, true), (61, true)]) (SPrUR_ok.on _) loopsPuI fun on out => ?_
      refine (pPuNN x y n q c cc len i k vs _ fl on out (w3 := by rw [e1]; omega) (w4 := by rw [e1, em]; omega) (h7 := by rw [e1]; exact ⟨f1, f2, f3⟩) (h8 := by rw [e1]; exact hfit) (h9 := by rw [e1]; exact hneg) (h11 := by rw [e1, em]; omega)
        (h12 := by rw [e1, e2, em]; exact ⟨rfl, rfl, by omega, by omega, by omega, ek, by omega, rfl, f4, f5, hlen, by omega, by omega, by omega⟩)).trans ?_
      have el : le (vs.getD i 0 + pw256 (manyI (fl.getD (i * 2 + 1) 0))) (manyI (fl.getD (i * 2 + 1) 0)).toNat = le (vs.getD i 0) (manyI (fl.getD (i * 2 + 1) 0)).toNat := le_add _ _ (Nat.le_refl _)
      rw [e1, e2, em, el]; rfl
    · refine CodeT.on (S := SPrUR.on [(34, true), (50, false), (52, true), (61, false)]) (SPrUR_ok.on _) loopsPuI fun on out => ?_
      refine (pPuNP x y n q c cc len i k vs _ fl on out (w3 := by rw [e1]; omega) (h7 := by rw [e1]; exact ⟨f1, f2, f3⟩) (h8 := by rw [e1]; exact hfit) (h9 := by rw [e1]; exact hneg)
        (h11 := by rw [e1, e2, em]; exact ⟨rfl, rfl, by omega, by omega, by omega, ek, by omega, rfl, f4, f5, hlen, by omega, by omega, by omega⟩)).trans ?_
      rw [e1, e2, em]; rfl
  · have em : manyI (fl.getD (i * 2 + 1) 0) = fl.getD (i * 2 + 1) 0 := by unfold manyI; rw [if_neg (by omega)]
    have hfit2 := hfit
    unfold fitI at hfit2
    rw [if_neg hneg] at hfit2
    rw [em] at f5
    refine CodeT.on (S := SPrUR.on [(34, true), (50, false), (52, false), (61, false)]) (SPrUR_ok.on _) loopsPuI fun on out => ?_
    refine (pPuPP x y n q c cc len i k vs _ fl on out (h7 := by rw [e1]; exact ⟨f1, f2, f3⟩) (h8 := by rw [e1]; exact hfit) (h9 := by rw [e1]; exact hneg)
      (h11 := by rw [e1, e2]; exact ⟨rfl, rfl, by omega, by omega, by omega, ek, by omega, rfl, f4, f5, hlen, by omega, by omega, by omega⟩)).trans ?_
    rw [e1, e2, payL, em]; rfl
theorem loopPuT {x y : Int} {n q c cc len : Nat} {vs bs fl : List Int} (hk : q ≤ 100) (hn : q = n) (hf : fldsOK len fl q) (hlen : len ≤ 1000000) (hfit : fitsTo fl vs q) : ∀ (r i : Nat), i + r = q →
    LoopT Try.prog Try.f19.ntmps 1 outPu (zipS livePuO [pt 1, .slice none 0 0, w63 0, w63 len, sl 2 (2 * q) 0, sl 3 len cc, w63 i]) (hpPu x y n q c len (2 * q) vs (payL bs fl vs i) fl) (.exit 0)
      (zipS livePuO [pt 1, .slice none 0 0, w63 0, w63 len, sl 2 (2 * q) 0, sl 3 len cc, w63 q]) (hpPu x y n q c len (2 * q) vs (payL bs fl vs q) fl) := by
  intro r
  induction r with
  | zero =>
    intro i hi
    obtain rfl : i = q := by omega
    exact LoopT.last (by intro h; cases h) (CodeT.out (SPrUR_ok.on _) loopsPuI fun on out => pPuX x y n i c cc len i i vs _ fl on out)
  | succ r ih =>
    intro i hi
    exact LoopT.step (roundPu (by omega) hk rfl hn hf hlen (hfit i (by omega))) (ih (i + 1) (by omega))
theorem loopPuF {x y : Int} {n q c cc len e : Nat} {vs bs fl : List Int} (hk : q ≤ 100) (hn : q = n) (hf : fldsOK len fl q) (hlen : len ≤ 1000000) (he : e < q) (hno : ¬ fitI (vs.getD e 0) (fl.getD (e * 2 + 1) 0)) (hfit : fitsTo fl vs e) : ∀ (r i : Nat), i + r = e →
    LoopT Try.prog Try.f19.ntmps 1 outPu (zipS livePuO [pt 1, .slice none 0 0, w63 0, w63 len, sl 2 (2 * q) 0, sl 3 len cc, w63 i]) (hpPu x y n q c len (2 * q) vs (payL bs fl vs i) fl) .ret
      (zipS livePuO [pt 1, .slice none 0 0, w63 2, w63 len, sl 2 (2 * q) 0, sl 3 len cc, w63 e]) (hpPu x y n q c len (2 * q) vs (payL bs fl vs e) fl) := by
  intro r
  induction r with
  | zero =>
    intro i hi
    obtain rfl : i = e := by omega
    obtain ⟨f1, f2, f3, f4, f5⟩ := hf i (by omega)
    have e1 : ((2 : Int) * (i : Int) + 1).toNat = i * 2 + 1 := by omega
    exact LoopT.last (by intro h; cases h) (CodeT.out (SPrUR_ok.on _) loopsPuI fun on out => pPuU x y n q c cc len i q vs _ fl on out (h7 := by rw [e1]; exact ⟨f1, f2, f3⟩) (h8 := by rw [e1]; exact hno))
  | succ r ih =>
    intro i hi
    exact LoopT.step (roundPu (by omega) hk rfl hn hf hlen (hfit i (by omega))) (ih (i + 1) (by omega))
theorem loopOKPuT : LoopOK Try.prog Try.f19.ntmps 1 outPu livePuO LPuTf := by
  refine LoopOK.of_T ?_
  intro vs h k out hk
  unfold LPuTf at hk
  split at hk
  · obtain ⟨hb, hk2⟩ := bif_t hk
    obtain ⟨rfl, rfl, rfl, h4, rfl, h6, h7, h8, h9⟩ := chk_iff.1 hb
    exact ⟨_, _, _, hk2, fun real => loopPuT h6 h4 h7 h8 h9 _ 0 (Nat.zero_add _)⟩
  · cases hk
theorem loopOKPuF : LoopOK Try.prog Try.f19.ntmps 1 outPu livePuO LPuFf := by
  refine LoopOK.of_T ?_
  intro vs h k out hk
  unfold LPuFf at hk
  split at hk
  · obtain ⟨hb, hk2⟩ := bif_t hk
    obtain ⟨rfl, rfl, rfl, h4, rfl, h6, h7, h8, h9⟩ := chk_iff.1 hb
    obtain ⟨g1, g2, g3⟩ := endPy_spec h9
    exact ⟨_, _, _, hk2, fun real => loopPuF h6 h4 h7 h8 g1 g2 g3 _ 0 (Nat.zero_add _)⟩
  · cases hk
theorem loopsPuT : LoopsOK Try.prog LPuT Try.f19.ntmps 1 (bodyOf Try.f19) := loops_one rfl (by kernel_rfl) loopOKPuT
theorem loopsPuF : LoopsOK Try.prog LPuF Try.f19.ntmps 1 (bodyOf Try.f19) := loops_one rfl (by kernel_rfl) loopOKPuF
theorem okPayURK (len : Nat) (fl : List Int) : EntryOK Try.prog 19 (FPayUK len fl) := by
  refine EntryOK.of_paths (fn := Try.f19) follows_ok Try.func19 (by kernel_rfl) (by kernel_rfl) ?_
  intro args h k out hF
  unfold FPayUK at hF
  split at hF
  · rename_i x y q c n vs
    obtain ⟨hb, hF2⟩ := bif_t hF
    obtain ⟨hl, h2, h3, h4⟩ := chk_iff.1 hb
    obtain ⟨g1, g2, g3, g4, g5, g6⟩ := layU_ok hl
    have hq : fl.length / 2 = q := by omega
    rw [hq] at g4 g5
    refine ⟨_, _, hF2, fun _ => ⟨_, LPuT, SpecOK.on (mkS_cons (okLayURv len fl) (mkS_nil _)) _, loopsPuT, (pPuTF x y n q c len vs fl (h8 := ⟨rfl, rfl, rfl, h3, h2.symm, g4, g5, by omega, h4⟩)).trans ?_⟩⟩
    rw [dec_t (show (len : Int) = len from rfl)]; rfl
  · cases hF
theorem okPayURE (e : Int) : EntryOK Try.prog 19 (FPayUE e) := by
  refine EntryOK.of_paths (fn := Try.f19) follows_ok Try.func19 (by kernel_rfl) (by kernel_rfl) ?_
  intro args h k out hF
  unfold FPayUE at hF
  split at hF
  · rename_i x y q c n vs
    obtain ⟨hb, hF2⟩ := bif_t hF
    obtain ⟨he, h0, h3, hbig⟩ := chk_iff.1 hb
    refine ⟨_, _, hF2, fun real => ?_⟩
    unfold payErrU at he
    split at he
    · rename_i hl
      subst he
      exact ⟨_, noL, SpecOK.on (mkS_cons okLayURn (mkS_nil _)) _, noL_ok, pPuNF x y n q c vs⟩
    · rename_i len fl hl
      obtain ⟨g1, g2, g3, g4, g5, g6⟩ := layU_ok hl
      by_cases hc : 2 * q = fl.length ∧ fitsTo fl vs q
      · rw [if_pos hc] at he; exact (h0 he.symm).elim
      · rw [if_neg hc] at he
        subst he
        by_cases hq : 2 * q = fl.length
        · have hnf : ¬ fitsTo fl vs q := fun x => hc ⟨hq, x⟩
          have hq2 : fl.length / 2 = q := by omega
          rw [hq2] at g4 g5
          exact ⟨_, LPuF, SpecOK.on (mkS_cons (okLayURv len fl) (mkS_nil _)) _, loopsPuF, pPuFF x y n q c len vs fl (h8 := ⟨rfl, rfl, rfl, h3, hq.symm, g4, g5, by omega, hnf⟩)⟩
        · exact ⟨_, noL, SpecOK.on (mkS_cons (okLayURv len fl) (mkS_nil _)) _, noL_ok, pPuCF x y n q c len vs fl⟩
  · cases hF
end Go.Proofs.Ytcjjngdkkihgjaa.VC

/- ubx, the document's: Encode: closed forms. -/
namespace Go.Proofs.Ytcjjngdkkihgjaa.VC
open Go Go.Proofs

/-- What a frame's sums go over. -/
def midU (x y : Int) (len : Nat) (b : List Int) : List Int := [x, y, (len : Int) % 256, (len : Int) / 256] ++ b
def frmU (x y : Int) (len : Nat) (b : List Int) : List Int := [181, 98] ++ midU x y len b ++ [(flt (midU x y len b) 0 0).1, (flt (midU x y len b) 0 0).2]
noncomputable def SEuK (len : Nat) (fl : List Int) : Spec := mkS [(18, false, FPayUK len fl), (63, false, FFl)]
noncomputable def SEuE (e : Int) : Spec := mkS [(18, false, FPayUE e)]
noncomputable def SEuRK (len : Nat) (fl : List Int) : Spec := mkS [(19, false, FPayUK len fl), (64, false, FFl0)]
noncomputable def SEuRE (e : Int) : Spec := mkS [(19, false, FPayUE e)]
--CP pEuK (x y) (n q c len : Nat) (vs fl : List Int) :: fnK Try.prog ((SEuK len fl).on [(15, false)]) noL Try.f20 [.agg #[u8v x, u8v y, sl 0 q c]] [rI n vs]
theorem pEuK (x y) (n q c len : Nat) (vs fl : List Int)
    (h1 : layU x y = some (len, fl) ∧ (2 : Nat) * q = fl.length ∧ q = n ∧ fitsTo fl vs q := by first | omega | assumption | rfl | ((repeat' with_reducible apply And.intro) <;> first | rfl | assumption | omega))
    (h2 : len ≤ len := by first | omega | assumption | rfl)
    (h3 : (6 : Nat) + len ≤ (140737488355328 : Nat) := by first | omega | assumption | rfl)
    (h4 : (6 : Nat) + len ≤ (4611686018427387904 : Nat) := by first | omega | assumption | rfl)
    (h5 : (false || Nat.blt (0 : Nat) len) = true := by first | omega | assumption | rfl)
    (h6 : (2 : Int) ≤ (↑((6 : Nat) + len) : Int) := by first | omega | assumption | rfl)
    (h7 : (↑((6 : Nat) + len) : Int) ≤ (↑((6 : Nat) + len) : Int) := by first | omega | assumption | rfl)
    (h8 : (2 : Nat) + ((↑((6 : Nat) + len) : Int) - (2 : Int)).toNat ≤ (6 : Nat) + len ∧ (6 : Nat) + len ≤ (1000000 : Nat) := by first | omega | assumption | rfl | ((repeat' with_reducible apply And.intro) <;> first | rfl | assumption | omega))
    (h9 : (6 : Nat) + len ≤ (6 : Nat) + len := by first | omega | assumption | rfl)
    (h10 : (6 : Nat) + len + (2 : Nat) ≤ (140737488355328 : Nat) := by first | omega | assumption | rfl)
    (h11 : (6 : Nat) + len + (2 : Nat) ≤ (4611686018427387904 : Nat) := by first | omega | assumption | rfl)
    (h12 : (6 : Nat) + len = segsLen [Seg.ints IntKind.u8 ((6 : Nat) + len) ([(181 : Int), (98 : Int), x, y, IntKind.u8.wrap (↑len : Int), IntKind.u8.wrap ((↑len : Int).fdiv (256 : Int))] ++ List.take len (payL (List.replicate len (0 : Int)) fl vs q))] := by first | omega | assumption | rfl) : fnK Try.prog ((SEuK len fl).on [(15, false)]) noL Try.f20 [.agg #[u8v x, u8v y, sl 0 q c]] [rI n vs] =
     (some (Res.ret (Value.tuple (Array.mk [Value.slice (some (Addr.mk (1 : Nat) (0 : Nat) none)) ((6 : Nat) + len + (2 : Nat)) (1 : Nat), Value.int IntKind.i64 (0 : Int)])) [some (Blk.mk false (1 : Nat)
     [Seg.ints IntKind.i64 n vs]), some (Blk.mk true (1 : Nat) [Seg.ints IntKind.u8 ((6 : Nat) + len + (2 : Nat)) (List.take ((6 : Nat) + len) ([(181 : Int), (98 : Int), x, y, IntKind.u8.wrap (↑len : Int),
     IntKind.u8.wrap ((↑len : Int).fdiv (256 : Int))] ++ List.take len (payL (List.replicate len (0 : Int)) fl vs q)) ++ [(flt (cutS' ([(181 : Int), (98 : Int), x, y, IntKind.u8.wrap (↑len : Int),
     IntKind.u8.wrap ((↑len : Int).fdiv (256 : Int))] ++ List.take len (payL (List.replicate len (0 : Int)) fl vs q)) (2 : Nat) ((↑((6 : Nat) + len) : Int) - (2 : Int)).toNat) (0 : Int) (0 : Int)).fst,
     (flt (cutS' ([(181 : Int), (98 : Int), x, y, IntKind.u8.wrap (↑len : Int), IntKind.u8.wrap ((↑len : Int).fdiv (256 : Int))] ++ List.take len (payL (List.replicate len (0 : Int)) fl vs q)) (2 : Nat)
     ((↑((6 : Nat) + len) : Int) - (2 : Int)).toNat) (0 : Int) (0 : Int)).snd])])])) :=
  Eq.trans (b :=
     bif chk (layU x y = some (len, fl) ∧ (2 : Nat) * q = fl.length ∧ q = n ∧ fitsTo fl vs q) then bif (len * (1 : Nat)).ble len then bif decide (((6 : Nat) + len) * (1 : Nat) ≤ (140737488355328 : Nat)) &&
     ((6 : Nat) + len).ble (OfNat.ofNat (4611686018427387904 : Nat)) then bif false || Nat.blt (0 : Nat) len then bif decide ((2 : Int) ≤ (↑((6 : Nat) + len) : Int)) && decide ((↑((6 : Nat) + len) : Int) ≤
     (↑((6 : Nat) + len) : Int)) then bif chk ((2 : Nat) + ((↑((6 : Nat) + len) : Int) - (2 : Int)).toNat ≤ (6 : Nat) + len * (1 : Nat) ∧ (6 : Nat) + len * (1 : Nat) ≤ (1000000 : Nat)) then bif (((6 : Nat)
     + len) * (1 : Nat)).ble ((6 : Nat) + len * (1 : Nat)) then bif decide (((6 : Nat) + len + (2 : Nat)) * (1 : Nat) ≤ (140737488355328 : Nat)) && ((6 : Nat) + len + (2 : Nat)).ble (OfNat.ofNat
     (4611686018427387904 : Nat)) then bif ((0 : Nat) + ((6 : Nat) + len) * (1 : Nat)).beq (segsLen [Seg.ints IntKind.u8 ((6 : Nat) + len * (1 : Nat)) ([(181 : Int), (98 : Int), x, y, IntKind.u8.wrap (↑len
     : Int), IntKind.u8.wrap ((↑len : Int).fdiv (256 : Int))] ++ List.take (len * (1 : Nat)) (payL (List.replicate len (0 : Int)) fl vs q))]) && true then some (Res.ret (Value.tuple (Array.mk [Value.slice
     (some (Addr.mk (1 : Nat) (0 : Nat) none)) ((6 : Nat) + len + (2 : Nat)) (1 : Nat), Value.int IntKind.i64 (0 : Int)])) [some (Blk.mk false (1 : Nat) [Seg.ints IntKind.i64 n vs]), some (Blk.mk true (1 :
     Nat) [Seg.ints IntKind.u8 (((6 : Nat) + len) * (1 : Nat) + (2 : Nat)) (List.take (((6 : Nat) + len) * (1 : Nat)) ([(181 : Int), (98 : Int), x, y, IntKind.u8.wrap (↑len : Int), IntKind.u8.wrap ((↑len :
     Int).fdiv (256 : Int))] ++ List.take (len * (1 : Nat)) (payL (List.replicate len (0 : Int)) fl vs q)) ++ [(flt (cutS' ([(181 : Int), (98 : Int), x, y, IntKind.u8.wrap (↑len : Int), IntKind.u8.wrap
     ((↑len : Int).fdiv (256 : Int))] ++ List.take (len * (1 : Nat)) (payL (List.replicate len (0 : Int)) fl vs q)) (2 : Nat) ((↑((6 : Nat) + len) : Int) - (2 : Int)).toNat) (0 : Int) (0 : Int)).fst, (flt
     (cutS' ([(181 : Int), (98 : Int), x, y, IntKind.u8.wrap (↑len : Int), IntKind.u8.wrap ((↑len : Int).fdiv (256 : Int))] ++ List.take (len * (1 : Nat)) (payL (List.replicate len (0 : Int)) fl vs q)) (2
     : Nat) ((↑((6 : Nat) + len) : Int) - (2 : Int)).toNat) (0 : Int) (0 : Int)).snd])])]) else none else none else none else none else none else none else none else none else none) (by kernel_rfl) (by simp only [-eq_self, Nat.mul_one, Nat.zero_add]; exact (go_t (chk_t h1) (go_t (ble_t h2) (go_t (and_t (dec_t h3) (ble_t h4)) (go_t h5 (go_t (and_t (dec_t h6) (dec_t h7)) (go_t (chk_t h8) (go_t (ble_t h9) (go_t (and_t (dec_t h10) (ble_t h11)) (go_t (and_t (beq_t h12) rfl) rfl))))))))))
--CFEND
--CP pEuE (x y e) (n q c : Nat) (vs : List Int) :: fnK Try.prog ((SEuE e).on [(15, true)]) noL Try.f20 [.agg #[u8v x, u8v y, sl 0 q c]] [rI n vs]
theorem pEuE (x y e) (n q c : Nat) (vs : List Int)
    (h1 : payErrU x y q vs = e ∧ e ≠ (0 : Int) ∧ q = n ∧ q ≤ (1000000000 : Nat) := by first | omega | assumption | rfl | ((repeat' with_reducible apply And.intro) <;> first | rfl | assumption | omega))
    (h2 : e ≠ (0 : Int) := by first | omega | assumption | rfl) : fnK Try.prog ((SEuE e).on [(15, true)]) noL Try.f20 [.agg #[u8v x, u8v y, sl 0 q c]] [rI n vs] =
     (some (Res.ret (Value.tuple (Array.mk [Value.slice none (0 : Nat) (0 : Nat), Value.int IntKind.i64 e])) [some (Blk.mk false (1 : Nat) [Seg.ints IntKind.i64 n vs])])) :=
  Eq.trans (by kernel_rfl) (go_t (chk_t h1) (go_t (bne_t h2) rfl))
--CFEND
--CP pEuRK (x y) (n q c len : Nat) (vs fl : List Int) :: fnK Try.prog ((SEuRK len fl).on [(15, false)]) noL Try.f21 [.agg #[u8v x, u8v y, sl 0 q c]] [rI n vs]
theorem pEuRK (x y) (n q c len : Nat) (vs fl : List Int)
    (w1 : -9223372036854775808 ≤ (↑len : Int).tdiv (256 : Int) ∧ (↑len : Int).tdiv (256 : Int) ≤ 9223372036854775807 := by omega)
    (h1 : layU x y = some (len, fl) ∧ (2 : Nat) * q = fl.length ∧ q = n ∧ fitsTo fl vs q := by first | omega | assumption | rfl | ((repeat' with_reducible apply And.intro) <;> first | rfl | assumption | omega))
    (h2 : len ≤ len := by first | omega | assumption | rfl)
    (h3 : (4 : Nat) + len ≤ (140737488355328 : Nat) := by first | omega | assumption | rfl)
    (h4 : (4 : Nat) + len ≤ (4611686018427387904 : Nat) := by first | omega | assumption | rfl)
    (h5 : (false || Nat.blt (0 : Nat) len) = true := by first | omega | assumption | rfl)
    (h6 : (4 : Nat) + len = (4 : Nat) + len ∧ (4 : Nat) + len ≤ (1000000 : Nat) := by first | omega | assumption | rfl | ((repeat' with_reducible apply And.intro) <;> first | rfl | assumption | omega))
    (h7 : (4 : Nat) + len ≤ (4 : Nat) + len := by first | omega | assumption | rfl)
    (h8 : (2 : Nat) + ((4 : Nat) + len) ≤ (140737488355328 : Nat) := by first | omega | assumption | rfl)
    (h9 : (2 : Nat) + ((4 : Nat) + len) ≤ (4611686018427387904 : Nat) := by first | omega | assumption | rfl)
    (h10 : (false || Nat.blt (0 : Nat) ((4 : Nat) + len)) = true := by first | omega | assumption | rfl)
    (h11 : (2 : Nat) + ((4 : Nat) + len) ≤ (2 : Nat) + ((4 : Nat) + len) := by first | omega | assumption | rfl)
    (h12 : (2 : Nat) + ((4 : Nat) + len) + (2 : Nat) ≤ (140737488355328 : Nat) := by first | omega | assumption | rfl)
    (h13 : (2 : Nat) + ((4 : Nat) + len) + (2 : Nat) ≤ (4611686018427387904 : Nat) := by first | omega | assumption | rfl)
    (h14 : (2 : Nat) + ((4 : Nat) + len) = segsLen [Seg.ints IntKind.u8 ((2 : Nat) + ((4 : Nat) + len)) ([(181 : Int), (98 : Int)] ++ List.take ((4 : Nat) + len) ([x, y, IntKind.u8.wrap ((↑len : Int).tmod (256 : Int)), IntKind.u8.wrap ((↑len : Int).tdiv (256 : Int))] ++ List.take len (payL (List.replicate len (0 : Int)) fl vs q)))] := by first | omega | assumption | rfl) : fnK Try.prog ((SEuRK len fl).on [(15, false)]) noL Try.f21 [.agg #[u8v x, u8v y, sl 0 q c]] [rI n vs] =
     (some (Res.ret (Value.tuple (Array.mk [Value.slice (some (Addr.mk (1 : Nat) (0 : Nat) none)) ((2 : Nat) + ((4 : Nat) + len) + (2 : Nat)) (1 : Nat), Value.int IntKind.i64 (0 : Int)])) [some (Blk.mk
     false (1 : Nat) [Seg.ints IntKind.i64 n vs]), some (Blk.mk true (1 : Nat) [Seg.ints IntKind.u8 ((2 : Nat) + ((4 : Nat) + len) + (2 : Nat)) (List.take ((2 : Nat) + ((4 : Nat) + len)) ([(181 : Int), (98
     : Int)] ++ List.take ((4 : Nat) + len) ([x, y, IntKind.u8.wrap ((↑len : Int).tmod (256 : Int)), IntKind.u8.wrap ((↑len : Int).tdiv (256 : Int))] ++ List.take len (payL (List.replicate len (0 : Int))
     fl vs q))) ++ [(flt ([x, y, IntKind.u8.wrap ((↑len : Int).tmod (256 : Int)), IntKind.u8.wrap ((↑len : Int).tdiv (256 : Int))] ++ List.take len (payL (List.replicate len (0 : Int)) fl vs q)) (0 : Int)
     (0 : Int)).fst, (flt ([x, y, IntKind.u8.wrap ((↑len : Int).tmod (256 : Int)), IntKind.u8.wrap ((↑len : Int).tdiv (256 : Int))] ++ List.take len (payL (List.replicate len (0 : Int)) fl vs q)) (0 : Int)
     (0 : Int)).snd])])])) :=
  Eq.trans (b :=
     bif chk (layU x y = some (len, fl) ∧ (2 : Nat) * q = fl.length ∧ q = n ∧ fitsTo fl vs q) then bif (len * (1 : Nat)).ble len then bif decide (((4 : Nat) + len) * (1 : Nat) ≤ (140737488355328 : Nat)) &&
     ((4 : Nat) + len).ble (OfNat.ofNat (4611686018427387904 : Nat)) then bif false || Nat.blt (0 : Nat) len then bif chk ((4 : Nat) + len = (4 : Nat) + len * (1 : Nat) ∧ (4 : Nat) + len * (1 : Nat) ≤
     (1000000 : Nat)) then bif (((4 : Nat) + len) * (1 : Nat)).ble ((4 : Nat) + len * (1 : Nat)) then bif decide (((2 : Nat) + ((4 : Nat) + len)) * (1 : Nat) ≤ (140737488355328 : Nat)) && ((2 : Nat) + ((4
     : Nat) + len)).ble (OfNat.ofNat (4611686018427387904 : Nat)) then bif false || Nat.blt (0 : Nat) ((4 : Nat) + len) then bif (((2 : Nat) + ((4 : Nat) + len)) * (1 : Nat)).ble ((2 : Nat) + ((4 : Nat) +
     len) * (1 : Nat)) then bif decide (((2 : Nat) + ((4 : Nat) + len) + (2 : Nat)) * (1 : Nat) ≤ (140737488355328 : Nat)) && ((2 : Nat) + ((4 : Nat) + len) + (2 : Nat)).ble (OfNat.ofNat
     (4611686018427387904 : Nat)) then bif ((0 : Nat) + ((2 : Nat) + ((4 : Nat) + len)) * (1 : Nat)).beq (segsLen [Seg.ints IntKind.u8 ((2 : Nat) + ((4 : Nat) + len) * (1 : Nat)) ([(181 : Int), (98 : Int)]
     ++ List.take (((4 : Nat) + len) * (1 : Nat)) ([x, y, IntKind.u8.wrap ((↑len : Int).tmod (256 : Int)), IntKind.u8.wrap (IntKind.i64.wrap ((↑len : Int).tdiv (256 : Int)))] ++ List.take (len * (1 : Nat))
     (payL (List.replicate len (0 : Int)) fl vs q)))]) && true then some (Res.ret (Value.tuple (Array.mk [Value.slice (some (Addr.mk (1 : Nat) (0 : Nat) none)) ((2 : Nat) + ((4 : Nat) + len) + (2 : Nat))
     (1 : Nat), Value.int IntKind.i64 (0 : Int)])) [some (Blk.mk false (1 : Nat) [Seg.ints IntKind.i64 n vs]), some (Blk.mk true (1 : Nat) [Seg.ints IntKind.u8 (((2 : Nat) + ((4 : Nat) + len)) * (1 : Nat)
     + (2 : Nat)) (List.take (((2 : Nat) + ((4 : Nat) + len)) * (1 : Nat)) ([(181 : Int), (98 : Int)] ++ List.take (((4 : Nat) + len) * (1 : Nat)) ([x, y, IntKind.u8.wrap ((↑len : Int).tmod (256 : Int)),
     IntKind.u8.wrap (IntKind.i64.wrap ((↑len : Int).tdiv (256 : Int)))] ++ List.take (len * (1 : Nat)) (payL (List.replicate len (0 : Int)) fl vs q))) ++ [(flt ([x, y, IntKind.u8.wrap ((↑len : Int).tmod
     (256 : Int)), IntKind.u8.wrap (IntKind.i64.wrap ((↑len : Int).tdiv (256 : Int)))] ++ List.take (len * (1 : Nat)) (payL (List.replicate len (0 : Int)) fl vs q)) (0 : Int) (0 : Int)).fst, (flt ([x, y,
     IntKind.u8.wrap ((↑len : Int).tmod (256 : Int)), IntKind.u8.wrap (IntKind.i64.wrap ((↑len : Int).tdiv (256 : Int)))] ++ List.take (len * (1 : Nat)) (payL (List.replicate len (0 : Int)) fl vs q)) (0 :
     Int) (0 : Int)).snd])])]) else none else none else none else none else none else none else none else none else none else none else none) (by kernel_rfl) (by simp only [-eq_self, Nat.mul_one, Nat.zero_add, swrap w1.1 w1.2]; exact (go_t (chk_t h1) (go_t (ble_t h2) (go_t (and_t (dec_t h3) (ble_t h4)) (go_t h5 (go_t (chk_t h6) (go_t (ble_t h7) (go_t (and_t (dec_t h8) (ble_t h9)) (go_t h10 (go_t (ble_t h11) (go_t (and_t (dec_t h12) (ble_t h13)) (go_t (and_t (beq_t h14) rfl) rfl))))))))))))
--CFEND
--CP pEuRE (x y e) (n q c : Nat) (vs : List Int) :: fnK Try.prog ((SEuRE e).on [(15, true)]) noL Try.f21 [.agg #[u8v x, u8v y, sl 0 q c]] [rI n vs]
theorem pEuRE (x y e) (n q c : Nat) (vs : List Int)
    (h1 : payErrU x y q vs = e ∧ e ≠ (0 : Int) ∧ q = n ∧ q ≤ (1000000000 : Nat) := by first | omega | assumption | rfl | ((repeat' with_reducible apply And.intro) <;> first | rfl | assumption | omega))
    (h2 : e ≠ (0 : Int) := by first | omega | assumption | rfl) : fnK Try.prog ((SEuRE e).on [(15, true)]) noL Try.f21 [.agg #[u8v x, u8v y, sl 0 q c]] [rI n vs] =
     (some (Res.ret (Value.tuple (Array.mk [Value.slice none (0 : Nat) (0 : Nat), Value.int IntKind.i64 e])) [some (Blk.mk false (1 : Nat) [Seg.ints IntKind.i64 n vs])])) :=
  Eq.trans (by kernel_rfl) (go_t (chk_t h1) (go_t (bne_t h2) rfl))
--CFEND
end Go.Proofs.Ytcjjngdkkihgjaa.VC

/- ubx, the document's: Encode: what it is; the page's examples. -/
namespace Go.Proofs.Ytcjjngdkkihgjaa.VC
open Go Go.Proofs

theorem le_isB (v : Int) (s : Nat) : isB (le v s) := fun _ hy => le_mem hy
theorem payL_isB {bs fl vs : List Int} (hb : isB bs) : ∀ k, isB (payL bs fl vs k)
  | 0 => hb
  | k + 1 => putB_isB (payL_isB hb k) (le_isB _ _)
theorem rep_isB (len : Nat) : isB (List.replicate len 0) := fun y hy => by rw [List.eq_of_mem_replicate hy]; decide
noncomputable def FEnUK (len : Nat) (fl : List Int) : FSpec := fun args h k => match args, h with
  | [.agg ⟨[.int .u8 x, .int .u8 y, .slice (some ⟨0, 0, none⟩) q _]⟩], [some ⟨false, 1, [.ints .i64 n vs]⟩] =>
    bif chk (layU x y = some (len, fl) ∧ 2 * q = fl.length ∧ q = n ∧ fitsTo fl vs q) then k (.tuple #[sl 1 (len + 8) 1, w63 0]) [rI n vs, oU (len + 8) (frmU x y len (payL (List.replicate len 0) fl vs q))] else none
  | _, _ => none
theorem midU_len {x y : Int} {len : Nat} {b : List Int} (h : b.length = len) : (midU x y len b).length = len + 4 := by
  unfold midU; rw [List.length_append, h, Nat.add_comm]; rfl
theorem okEnUK (len : Nat) (fl : List Int) : EntryOK Try.prog 20 (FEnUK len fl) := by
  refine EntryOK.of_paths (fn := Try.f20) follows_ok Try.func20 (by kernel_rfl) (by kernel_rfl) ?_
  intro args h k out hF
  unfold FEnUK at hF
  split at hF
  · rename_i x y q c n vs
    obtain ⟨hb, hF2⟩ := bif_t hF
    obtain ⟨hl, h2, h3, h4⟩ := chk_iff.1 hb
    obtain ⟨g1, g2, g3, g4, g5, g6⟩ := layU_ok hl
    rw [show fl.length / 2 = q by omega] at g4 g5
    refine ⟨_, _, hF2, fun real => ?_⟩
    have hl2 : (payL (List.replicate len 0) fl vs q).length = len := payL_len (List.length_replicate ..) q g5
    refine ⟨_, noL, SpecOK.on (mkS_cons (okPayUK len fl) (mkS_cons okFl (mkS_nil _))) _, noL_ok, (pEuK x y n q c len vs fl (h5 := blt_t (by omega)) (h12 := rfl)).trans ?_⟩
    generalize payL (List.replicate len 0) fl vs q = b at hl2
    have e1 : IntKind.u8.wrap (len : Int) = (len : Int) % 256 := by rw [wU8]
    have e2 : IntKind.u8.wrap ((len : Int) / 256) = (len : Int) / 256 := by rw [wU8]; omega
    have ec : ∀ a b' : Int, [(181 : Int), 98, x, y, a, b'] ++ List.take len b = [181, 98] ++ ([x, y, a, b'] ++ b) := fun a b' => by rw [List.take_of_length_le (by omega)]; rfl
    rw [Int.fdiv_eq_ediv_of_nonneg _ (by decide), e1, e2, ec, show (((6 + len : Nat) : Int) - 2).toNat = len + 4 by omega]
    have hm : [x, y, (len : Int) % 256, (len : Int) / 256] ++ b = midU x y len b := rfl
    have hml := midU_len (x := x) (y := y) hl2
    rw [hm]
    have ed : cutS' ([181, 98] ++ midU x y len b) 2 (len + 4) = midU x y len b := by
      unfold cutS'
      show (midU x y len b).take (len + 4) = _
      exact List.take_of_length_le (by omega)
    rw [ed, List.take_of_length_le (by rw [List.length_append, hml]; show 2 + _ ≤ _; omega), show 6 + len + 2 = len + 8 by omega]
    rfl
  · cases hF
theorem okEnURK (len : Nat) (fl : List Int) : EntryOK Try.prog 21 (FEnUK len fl) := by
  refine EntryOK.of_paths (fn := Try.f21) follows_ok Try.func21 (by kernel_rfl) (by kernel_rfl) ?_
  intro args h k out hF
  unfold FEnUK at hF
  split at hF
  · rename_i x y q c n vs
    obtain ⟨hb, hF2⟩ := bif_t hF
    obtain ⟨hl, h2, h3, h4⟩ := chk_iff.1 hb
    obtain ⟨g1, g2, g3, g4, g5, g6⟩ := layU_ok hl
    rw [show fl.length / 2 = q by omega] at g4 g5
    refine ⟨_, _, hF2, fun real => ?_⟩
    have hl2 : (payL (List.replicate len 0) fl vs q).length = len := payL_len (List.length_replicate ..) q g5
    have d1 := Int.tdiv_eq_ediv_of_nonneg (b := 256) (show (0 : Int) ≤ len by omega)
    have d2 := Int.tmod_eq_emod_of_nonneg (b := 256) (show (0 : Int) ≤ len by omega)
    refine ⟨_, noL, SpecOK.on (mkS_cons (okPayURK len fl) (mkS_cons okFlR (mkS_nil _))) _, noL_ok, (pEuRK x y n q c len vs fl (w1 := by rw [d1]; omega) (h5 := blt_t (by omega)) (h10 := blt_t (by omega)) (h14 := rfl)).trans ?_⟩
    generalize payL (List.replicate len 0) fl vs q = b at hl2
    have e1 : IntKind.u8.wrap ((len : Int) % 256) = (len : Int) % 256 := by rw [wU8]; omega
    have e2 : IntKind.u8.wrap ((len : Int) / 256) = (len : Int) / 256 := by rw [wU8]; omega
    rw [d1, d2, e1, e2, List.take_of_length_le (l := b) (by omega)]
    have hm : [x, y, (len : Int) % 256, (len : Int) / 256] ++ b = midU x y len b := rfl
    have hml := midU_len (x := x) (y := y) hl2
    rw [hm, List.take_of_length_le (l := midU x y len b) (by omega), List.take_of_length_le (by rw [List.length_append, hml]; show 2 + _ ≤ _; omega), show 2 + (4 + len) + 2 = len + 8 by omega]
    rfl
  · cases hF
theorem okEnUE (e : Int) : EntryOK Try.prog 20 (FPayUE e) := by
  refine EntryOK.of_paths (fn := Try.f20) follows_ok Try.func20 (by kernel_rfl) (by kernel_rfl) ?_
  intro args h k out hF
  unfold FPayUE at hF
  split at hF
  · rename_i x y q c n vs
    obtain ⟨hb, hF2⟩ := bif_t hF
    exact ⟨_, _, hF2, fun _ => ⟨_, noL, SpecOK.on (mkS_cons (okPayUE e) (mkS_nil _)) _, noL_ok, pEuE x y e n q c vs (h1 := chk_iff.1 hb) (h2 := (chk_iff.1 hb).2.1)⟩⟩
  · cases hF
theorem okEnURE (e : Int) : EntryOK Try.prog 21 (FPayUE e) := by
  refine EntryOK.of_paths (fn := Try.f21) follows_ok Try.func21 (by kernel_rfl) (by kernel_rfl) ?_
  intro args h k out hF
  unfold FPayUE at hF
  split at hF
  · rename_i x y q c n vs
    obtain ⟨hb, hF2⟩ := bif_t hF
    exact ⟨_, _, hF2, fun _ => ⟨_, noL, SpecOK.on (mkS_cons (okPayURE e) (mkS_nil _)) _, noL_ok, pEuRE x y e n q c vs (h1 := chk_iff.1 hb) (h2 := (chk_iff.1 hb).2.1)⟩⟩
  · cases hF
theorem chkU {p : Prop} (h : p) : chk p = true := chk_iff.2 h
def FEnUX : FSpec := fun args h k => match args, h with
  | [.agg ⟨[.int .u8 5, .int .u8 1, .slice (some ⟨0, 0, none⟩) 2 _]⟩], [some ⟨false, 1, [.ints .i64 2 [6, 1]]⟩] => k (.tuple #[sl 1 10 1, w63 0]) [rI 2 [6, 1], oU 10 [181, 98, 5, 1, 2, 0, 6, 1, 15, 56]]
  | [.agg ⟨[.int .u8 6, .int .u8 1, .slice (some ⟨0, 0, none⟩) 3 _]⟩], [some ⟨false, 1, [.ints .i64 3 [1, 7, 1]]⟩] => k (.tuple #[sl 1 11 1, w63 0]) [rI 3 [1, 7, 1], oU 11 [181, 98, 6, 1, 3, 0, 1, 7, 1, 19, 81]]
  | _, _ => none
def FDeUX : FSpec := fun args h k => match args, h with
  | [.int .u8 5, .int .u8 1, .slice (some ⟨0, 0, none⟩) 1 _], [some ⟨false, 1, [.ints .u8 1 [1]]⟩] => k (.tuple #[.agg #[u8v 0, u8v 0, .slice none 0 0], w63 5]) [rU 1 [1]]
  | [.int .u8 5, .int .u8 2, .slice (some ⟨0, 0, none⟩) 1 _], [some ⟨false, 1, [.ints .u8 1 [1]]⟩] => k (.tuple #[.agg #[u8v 0, u8v 0, .slice none 0 0], w63 7]) [rU 1 [1]]
  | _, _ => none
def SKnU : Spec := mkS [(20, false, FEnUX), (15, false, FDeUX)]
--CF cfKnU . :: fnK Try.prog SKnU noL Try.f14 [] []
theorem cfKnU  : fnK Try.prog SKnU noL Try.f14 [] [] =
     (some (Res.ret (Value.bool true) [])) := by kernel_rfl
--CFEND
theorem fitU_1 {v : Int} (h : 0 ≤ v ∧ v < 256) : fitI v 1 := by unfold fitI; rw [if_neg (by decide)]; exact h
theorem fits_51 : fitsTo [0, 1, 1, 1] [6, 1] 2 := fun i hi => by
  obtain rfl | rfl : i = 0 ∨ i = 1 := by omega
  all_goals exact fitU_1 (by decide)
theorem fits_61 : fitsTo [0, 1, 1, 1, 2, 1] [1, 7, 1] 3 := fun i hi => by
  obtain rfl | rfl | rfl : i = 0 ∨ i = 1 ∨ i = 2 := by omega
  all_goals exact fitU_1 (by decide)
theorem okEnUX : EntryOK Try.prog 20 FEnUX := by
  intro args h k out hF
  unfold FEnUX at hF
  split at hF
  · refine okEnUK 2 [0, 1, 1, 1] _ _ k out (go_t (chkU ⟨rfl, rfl, rfl, fits_51⟩) ?_)
    rw [show frmU 5 1 2 (payL (List.replicate 2 0) [0, 1, 1, 1] [6, 1] 2) = [181, 98, 5, 1, 2, 0, 6, 1, 15, 56] by kernel_rfl]
    exact hF
  · refine okEnUK 3 [0, 1, 1, 1, 2, 1] _ _ k out (go_t (chkU ⟨rfl, rfl, rfl, fits_61⟩) ?_)
    rw [show frmU 6 1 3 (payL (List.replicate 3 0) [0, 1, 1, 1, 2, 1] [1, 7, 1] 3) = [181, 98, 6, 1, 3, 0, 1, 7, 1, 19, 81] by kernel_rfl]
    exact hF
  · cases hF
theorem okDeUX : EntryOK Try.prog 15 FDeUX := by
  intro args h k out hF
  unfold FDeUX at hF
  split at hF
  · exact okDecUE 5 _ _ k out (go_t (chkU ⟨by decide, by decide, rfl, by decide⟩) hF)
  · exact okDecUE 7 _ _ k out (go_t (chkU ⟨by decide, by decide, rfl, by decide⟩) hF)
  · cases hF
def FKnU : FSpec := fun args h k => match args, h with
  | [], [] => k (.bool true) []
  | _, _ => none
theorem okKnU : EntryOK Try.prog 14 FKnU := by
  refine EntryOK.of_paths (fn := Try.f14) follows_ok Try.func14 (by kernel_rfl) (by kernel_rfl) ?_
  intro args h k out hF
  unfold FKnU at hF
  split at hF
  · exact ⟨_, _, hF, fun _ => ⟨SKnU, noL, mkS_cons okEnUX (mkS_cons okDeUX (mkS_nil _)), noL_ok, cfKnU⟩⟩
  · cases hF
end Go.Proofs.Ytcjjngdkkihgjaa.VC
