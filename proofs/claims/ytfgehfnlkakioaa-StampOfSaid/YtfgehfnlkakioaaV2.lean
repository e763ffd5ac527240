/- The evaluator: code over abstract slots and an abstract heap, in continuation passing; 'none' is: nothing is said. -/
import Derived.Test.YtfgehfnlkakioaaV1
import Derived.Laws.Closers25b
namespace Go.Proofs.Ytfgehfnlkakioaa.VC
open Go

abbrev Slots := List (Nat × Option Value)

def getS : Slots → Nat → Option Value
  | [], _ => none
  | (t, v) :: r, u => bif Nat.beq t u then v else getS r u

inductive Res where
  | ret (v : Value) (h : Heap)
  | at (e : Exit) (s : Slots) (h : Heap)

abbrev Out := Option Res

/-- What is known of functions: the answer on an abstract heap of what the arguments reach; 'rw': may it write what it is handed. -/
structure Spec where
  f : FuncId → List Value → Heap → (Value → Heap → Out) → Out
  rw : FuncId → Bool

def inR (k : IntKind) (n : Int) : Bool := decide (k.min ≤ n) && decide (n ≤ k.max)

def plainV : Nat → Value → Bool
  | 0, _ => false
  | d + 1, v => match v with
    | .bool _ | .pointer none | .slice none 0 0 | .nilFunc | .nilIface => true
    | .string s => decide (s.size ≤ 4611686018427387904)
    | .int k n => inR k n
    | .agg cs => cs.toList.all (plainV d)
    | .tuple cs => cs.toList.all (plainV d)
    | _ => false

def opnd (s : Slots) : Operand → Option Value
  | .tmp t => getS s t
  | .const v => bif plainV 6 v then some v else none
  | .func f => some (.func (.func f) #[] #[])
  | .global _ => none

def opnds (s : Slots) : List Operand → Option (List Value)
  | [] => some []
  | o :: r => match opnd s o with
    | some v => match opnds s r with
      | some vs => some (v :: vs)
      | none => none
    | none => none

def isCell : Value → Bool
  | .agg _ | .tuple _ => false
  | _ => true

/-- Whole numbers stand in rows. -/
def group : List Value → List Seg
  | [] => []
  | v :: rest => match v with
    | .int k x => match group rest with
      | .ints k' m xs :: r => bif k == k' then .ints k (m + 1) (x :: xs) :: r else .ints k 1 [x] :: .ints k' m xs :: r
      | r => .ints k 1 [x] :: r
    | v => match group rest with
      | .vals vs :: r => .vals (v :: vs) :: r
      | r => .vals [v] :: r

/-- A cell is read. -/
def rdK : List Seg → Nat → (Value → Out) → Out
  | [], _, _ => none
  | .vals vs :: r, i, k => match vs[i]? with
    | some v => k v
    | none => rdK r (i - vs.length) k
  | .ints ik n xs :: r, i, k => bif Nat.blt i n then k (.int ik (xs.getD i 0)) else rdK r (i - n) k

/-- Several cells are read. -/
def rdsK (sg : List Seg) : Nat → Nat → (List Value → Out) → Out
  | _, 0, k => k []
  | i, n + 1, k => rdK sg i fun v => rdsK sg (i + 1) n fun vs => k (v :: vs)

/-- A cell is written. -/
def wrK : List Seg → Nat → Value → (List Seg → Out) → Out
  | [], _, _, _ => none
  | .vals vs :: r, i, v, k => match vs[i]? with
    | some _ => k (.vals (vs.set i v) :: r)
    | none => wrK r (i - vs.length) v fun r' => k (.vals vs :: r')
  | .ints ik n xs :: r, i, v, k => bif Nat.blt i n then (match v with
      | .int ik' x => bif ik == ik' then k (.ints ik n (xs.set i x) :: r) else none
      | _ => none)
    else wrK r (i - n) v fun r' => k (.ints ik n xs :: r')

def wrsK : List Seg → Nat → List Value → (List Seg → Out) → Out
  | sg, _, [], k => k sg
  | sg, i, v :: vs, k => wrK sg i v fun sg' => wrsK sg' (i + 1) vs k

def getB (h : Heap) (id : Nat) : Option Blk := match h[id]? with
  | some (some b) => some b
  | _ => none

/-- So many cells from a place on. -/
def takeK : List Seg → Nat → (List Seg → Out) → Out
  | [], m, k => bif Nat.beq m 0 then k [] else none
  | .vals vs :: r, m, k => bif Nat.beq m 0 then k [] else bif Nat.ble m vs.length then k [.vals (vs.take m)] else (match r with | [] => none | r => takeK r (m - vs.length) fun l => k (.vals vs :: l))
  | .ints ik n xs :: r, m, k => bif Nat.ble m n then k [.ints ik m (xs.take m)] else (match r with | [] => none | r => takeK r (m - n) fun l => k (.ints ik n xs :: l))

def takeR (r : List Seg) (m : Nat) (k : List Seg → Out) : Out := match r with
  | [] => none
  | r => takeK r m k
theorem takeK_vals {vs : List Value} {r : List Seg} {m : Nat} {k : List Seg → Out} :
    takeK (.vals vs :: r) m k = bif Nat.beq m 0 then k [] else bif Nat.ble m vs.length then k [.vals (vs.take m)] else takeR r (m - vs.length) fun l => k (.vals vs :: l) := by cases r <;> rfl
theorem takeK_ints {ik : IntKind} {n : Nat} {xs : List Int} {r : List Seg} {m : Nat} {k : List Seg → Out} :
    takeK (.ints ik n xs :: r) m k = bif Nat.ble m n then k [.ints ik m (xs.take m)] else takeR r (m - n) fun l => k (.ints ik n xs :: l) := by cases r <;> rfl
theorem takeR_some {r : List Seg} {m : Nat} {k : List Seg → Out} {out : Res} (h : takeR r m k = some out) : takeK r m k = some out := by
  cases r with
  | nil => cases h
  | cons x r => exact h

def dropK : List Seg → Nat → (List Seg → Out) → Out
  | [], m, k => bif Nat.beq m 0 then k [] else none
  | .vals vs :: r, m, k => bif Nat.ble m vs.length then k (.vals (vs.drop m) :: r) else dropK r (m - vs.length) k
  | .ints ik n xs :: r, m, k => bif Nat.ble m n then k (.ints ik (n - m) (xs.drop m) :: r) else dropK r (m - n) k

/-- Two rows side by side. -/
def joinS : List Seg → List Seg → List Seg
  | [], l => l
  | [.ints k n xs], .ints k' m ys :: r => bif k == k' then .ints k (n + m) (xs ++ ys) :: r else .ints k n xs :: .ints k' m ys :: r
  | [.vals xs], .vals ys :: r => .vals (xs ++ ys) :: r
  | [x], l => x :: l
  | x :: y :: r, l => x :: joinS (y :: r) l

/-- A string's bytes as numbers. -/
def strInts (s : ByteArray) : List Int := s.data.toList.map fun b => (b.toNat : Int)

/-- What a slice or a string holds, in so many elements of so many cells. -/
def cellsK (h : Heap) (es : Nat) : Value → (Nat → List Seg → Out) → Out
  | .slice none 0 0, k => k 0 []
  | .slice (some ⟨id, off, none⟩) n _, k => match getB h id with
    | some b => dropK b.segs off fun l => takeK l (n * es) fun l' => k n l'
    | none => none
  | .string s, k => bif Nat.beq es 1 then k s.size [.ints .u8 s.size (strInts s)] else none
  | _, _ => none

/-! ### renaming -/
def renL (f : Value → Option Value) : List Value → Option (List Value)
  | [] => some []
  | v :: r => match f v with
    | some v' => match renL f r with
      | some r' => some (v' :: r')
      | none => none
    | none => none

def renV (f : Nat → Option Nat) : Nat → Value → Option Value
  | 0, _ => none
  | d + 1, v => match v with
    | .bool b => some (.bool b)
    | .int k n => some (.int k n)
    | .string s => some (.string s)
    | .pointer none => some (.pointer none)
    | .pointer (some ⟨id, off, none⟩) => match f id with
      | some j => some (.pointer (some ⟨j, off, none⟩))
      | none => none
    | .slice none 0 0 => some (.slice none 0 0)
    | .slice (some ⟨id, off, none⟩) n c => match f id with
      | some j => some (.slice (some ⟨j, off, none⟩) n c)
      | none => none
    | .nilFunc => some .nilFunc
    | .nilIface => some .nilIface
    | .func fn xs ys => match renL (renV f d) xs.toList with
      | some xs' => match renL (renV f d) ys.toList with
        | some ys' => some (.func fn xs'.toArray ys'.toArray)
        | none => none
      | none => none
    | .iface t v => match renV f d v with
      | some v' => some (.iface t v')
      | none => none
    | .agg cs => match renL (renV f d) cs.toList with
      | some cs' => some (.agg cs'.toArray)
      | none => none
    | .tuple cs => match renL (renV f d) cs.toList with
      | some cs' => some (.tuple cs'.toArray)
      | none => none
    | _ => none

def renSegs (f : Nat → Option Nat) : List Seg → Option (List Seg)
  | [] => some []
  | .ints k n xs :: r => match renSegs f r with
    | some r' => some (.ints k n xs :: r')
    | none => none
  | .vals vs :: r => match renL (renV f 6) vs with
    | some vs' => match renSegs f r with
      | some r' => some (.vals vs' :: r')
      | none => none
    | none => none

def renB (f : Nat → Option Nat) (b : Option Blk) : Option (Option Blk) := match b with
  | none => some none
  | some ⟨o, es, sg⟩ => match renSegs f sg with
    | some sg => some (some ⟨o, es, sg⟩)
    | none => none

def renH (f : Nat → Option Nat) : Heap → Option Heap
  | [] => some []
  | b :: r => match renB f b with
    | some b' => match renH f r with
      | some r' => some (b' :: r')
      | none => none
    | none => none

/-- The place of a number in a list. -/
def idx (l : List Nat) (id : Nat) : Option Nat := go l 0
where
  go : List Nat → Nat → Option Nat
    | [], _ => none
    | x :: r, i => bif Nat.beq x id then some i else go r (i + 1)

def memN (x : Nat) : List Nat → Bool
  | [] => false
  | y :: r => Nat.beq y x || memN x r

def nodupB : List Nat → Bool
  | [] => true
  | x :: r => !memN x r && nodupB r

/-- What values reach, in the order in which it is met. -/
def reachV (h : Heap) : Nat → Value → List Nat → List Nat
  | 0, _, acc => acc
  | d + 1, v, acc =>
    let visit (id : Nat) (acc : List Nat) : List Nat :=
      bif memN id acc then acc else match getB h id with
        | some b => b.segs.foldl (fun acc s => match s with | .vals vs => vs.foldl (fun acc v => reachV h d v acc) acc | _ => acc) (acc ++ [id])
        | none => acc ++ [id]
    match v with
    | .pointer (some ⟨id, _, _⟩) => visit id acc
    | .slice (some ⟨id, _, _⟩) _ _ => visit id acc
    | .func _ xs ys => ys.toList.foldl (fun acc v => reachV h d v acc) (xs.toList.foldl (fun acc v => reachV h d v acc) acc)
    | .iface _ v => reachV h d v acc
    | .agg cs => cs.toList.foldl (fun acc v => reachV h d v acc) acc
    | .tuple cs => cs.toList.foldl (fun acc v => reachV h d v acc) acc
    | _ => acc

def reach (h : Heap) (vs : List Value) (acc : List Nat) : List Nat := vs.foldl (fun acc v => reachV h 8 v acc) acc

def pick (h : Heap) : List Nat → Heap
  | [] => []
  | i :: r => (match h[i]? with | some b => b | none => none) :: pick h r

/-- A heap cut down to some of its blocks, in a new order; values along with it. -/
def cutK (h : Heap) (vs : List Value) (σ : List Nat) (k : List Value → Heap → Out) : Out :=
  bif nodupB σ && σ.all (fun i => Nat.blt i h.length) then
    match renL (renV (idx σ) 8) vs with
    | some vs' => match renH (idx σ) (pick h σ) with
      | some h' => k vs' h'
      | none => none
    | none => none
  else none

def readOnly : Heap → Heap
  | [] => []
  | b :: r => (match b with | some ⟨_, es, sg⟩ => some ⟨false, es, sg⟩ | none => none) :: readOnly r

/-- Back from a callee: its blocks from number m on are new ones. -/
def fwd (σ : List Nat) (n : Nat) (j : Nat) : Option Nat := bif Nat.blt j σ.length then σ[j]? else some (n + (j - σ.length))

/-- The blocks that were handed in, as the callee left them (those that it might write). -/
def putBack (h : Heap) : List Nat → Heap → Option Heap
  | [], _ => some h
  | i :: σ, b :: r => match h[i]? with
    | some (some ⟨true, _, _⟩) => putBack (h.set i b) σ r
    | _ => putBack h σ r
  | _ :: _, [] => none

def callK (S : Spec) (g : FuncId) (args : List Value) (h : Heap) (k : Value → Heap → Out) : Out :=
  let σ := reach h args []
  cutK h args σ fun args' hm =>
    bif S.rw g then
      S.f g args' hm fun v hm' =>
        match renV (fwd σ h.length) 8 v with
        | some v' => match renH (fwd σ h.length) hm' with
          | some hr => match putBack h σ hr with
            | some h1 => k v' (h1 ++ hr.drop σ.length)
            | none => none
          | none => none
        | none => none
    else
      S.f g args' (readOnly hm) fun v hm' =>
        match renV (fwd σ h.length) 8 v with
        | some v' => match renH (fwd σ h.length) (hm'.drop σ.length) with
          | some hr => k v' (h ++ hr)
          | none => none
        | none => none

/-! ### operations -/
def binInt (op : BinOp) (ik : IntKind) (a b : Int) (k : Value → Out) : Out :=
  match op with
  | .add => k (.int ik (ik.wrap (a + b)))
  | .sub => k (.int ik (ik.wrap (a - b)))
  | .mul => k (.int ik (ik.wrap (a * b)))
  | .quo => bif decide (b = 0) then none else k (.int ik (ik.wrap (a.tdiv b)))
  | .rem => bif decide (b = 0) then none else k (.int ik (a.tmod b))
  | .and => k (.int ik (Go.bits .and ik a b))
  | .or => k (.int ik (Go.bits .or ik a b))
  | .xor => k (.int ik (Go.bits .xor ik a b))
  | .andNot => k (.int ik (Go.bits .andNot ik a b))
  | .eql => k (.bool (a == b))
  | .neq => k (.bool (a != b))
  | .lss => k (.bool (decide (a < b)))
  | .leq => k (.bool (decide (a ≤ b)))
  | .gtr => k (.bool (decide (a > b)))
  | .geq => k (.bool (decide (a ≥ b)))
  | _ => none

/-- Two values of a type that may be compared: leaf by leaf. -/
def eqL {α : Type} (f : α → Option Bool) : List α → Option Bool
  | [] => some true
  | i :: r => match f i with
    | some b => match eqL f r with
      | some c => some (b && c)
      | none => none
    | none => none

def partV (P : Program) (t : TypeId) (cs : Array Value) (off : Nat) : Option Value :=
  match P.info? t with
  | some i => match P.underlying t with
    | some (.struct _) => some (.agg (cs.extract off (off + i.size)))
    | some (.array _ _) => some (.agg (cs.extract off (off + i.size)))
    | some _ => cs[off]?
    | none => none
  | none => none

def eqV (P : Program) : Nat → TypeId → Value → Value → Option Bool
  | 0, _, _, _ => none
  | d + 1, t, x, y =>
    match P.underlying t, x, y with
    | some .bool, .bool a, .bool b => some (a == b)
    | some (.int _), .int k a, .int k' b => bif k == k' then some (a == b) else none
    | some .string, .string a, .string b => some (a == b)
    | some (.pointer _), .pointer none, .pointer b => some b.isNone
    | some (.pointer _), .pointer (some _), .pointer none => some false
    | some (.struct fs), .agg xs, .agg ys =>
      bif P.stoodInHeld t then none else
      eqL (fun f => bif f.name == "_" then none else match partV P f.type xs f.offset, partV P f.type ys f.offset with
        | some a, some b => eqV P d f.type a b
        | _, _ => none) fs.toList
    | some (.array len elem), .agg xs, .agg ys =>
      match P.info? elem with
      | some inf => eqL (fun i => match partV P elem xs (i * inf.size), partV P elem ys (i * inf.size) with
        | some a, some b => eqV P d elem a b
        | _, _ => none) (List.range len)
      | none => none
    | some (.func _ _ _), .nilFunc, .nilFunc => some true
    | some (.func _ _ _), .nilFunc, .func _ _ _ => some false
    | some (.func _ _ _), .func _ _ _, .nilFunc => some false
    | some (.slice _), .slice none _ _, .slice none _ _ => some true
    | _, _, _ => none

def binK (P : Program) (op : BinOp) (t : TypeId) (x y : Value) (k : Value → Out) : Out :=
  match op, x, y with
  | .shl, .int ik a, .int _ b => bif decide (b < 0) then none else k (.int ik (ik.wrap (a * 2 ^ (min b.toNat ik.bits))))
  | .shr, .int ik a, .int _ b => bif decide (b < 0) then none else k (.int ik (a.fdiv (2 ^ (min b.toNat ik.bits))))
  | op, .int ik a, .int ik' b => bif ik == ik' then binInt op ik a b k else none
  | .add, .string a, .string b => bif decide (a.size + b.size ≤ 4611686018427387904) then k (.string (a ++ b)) else none
  | .eql, .string a, .string b => k (.bool (a.toList == b.toList))
  | .neq, .string a, .string b => k (.bool (!(a.toList == b.toList)))
  | .eql, x, y => bif P.eqGuardType P.depth t then none else match eqV P 20 t x y with
    | some b => k (.bool b)
    | none => none
  | .neq, x, y => bif P.eqGuardType P.depth t then none else match eqV P 20 t x y with
    | some b => k (.bool (!b))
    | none => none
  | _, _, _ => none

def unK (op : UnOp) (x : Value) (k : Value → Out) : Out :=
  match op, x with
  | .neg, .int ik n => k (.int ik (ik.wrap (0 - n)))
  | .xor, .int ik n => k (.int ik (Go.bits .xor ik (if ik.signed then -1 else ik.max) n))
  | .not, .bool b => k (.bool (!b))
  | _, _ => none

def convK (P : Program) (src dst : TypeId) (x : Value) (k : Value → Out) : Out :=
  match P.underlying src, P.underlying dst, x with
  | some _, some (.int ik), .int _ n => k (.int ik (ik.wrap n))
  | some _, some .string, .string s => k (.string s)
  | _, _, _ => none

/-- The end of a slice's range. -/
def boundI : Option Value → Option (Option Int)
  | none => some none
  | some (.int _ i) => some (some i)
  | some _ => none

def opnd? (s : Slots) : Option Operand → Option (Option Value)
  | none => some none
  | some o => match opnd s o with
    | some v => some (some v)
    | none => none

/-- The byte at a place of a string. -/
def bt (s : ByteArray) (i : Nat) : Int := ((s.data.toList.getD i 0).toNat : Int)

def sliceK (P : Program) (h : Heap) (t : TypeId) (x : Value) (lo hi mx : Option Int) (k : Value → Out) : Out :=
  match P.underlying t, x with
  | some .string, .string s =>
    match mx with
    | some _ => none
    | none =>
      let hI : Int := hi.getD s.size
      let lI : Int := lo.getD 0
      bif decide (0 ≤ lI) && decide (lI ≤ hI) && decide (hI ≤ s.size) then k (.string (s.extract lI.toNat hI.toNat)) else none
  | some (.slice elem), .slice (some ⟨id, off, none⟩) len c =>
    match P.info? elem with
    | none => none
    | some inf =>
      let hI : Int := hi.getD len
      let lI : Int := lo.getD 0
      let a : Option Addr := some ⟨id, off + lI.toNat * inf.size, none⟩
      let n : Nat := (hI - lI).toNat
      bif decide (0 ≤ lI) && decide (lI ≤ hI) && decide (hI ≤ len) then
        (match mx with
        | some m => (match hi with
          | some _ => bif decide (m = hI) then k (.slice a n 0) else none
          | none => none)
        | none => match hi with
          | none => bif Nat.beq c 0 then k (.slice a n 0) else (bif Nat.beq c 1 && (match getB h id with | some b => Nat.beq b.es inf.size | none => false) then k (.slice a n 1) else k (.slice a n 2))
          | some _ => bif Nat.beq c 1 && (match getB h id with | some b => Nat.beq b.es inf.size | none => false) then k (.slice a n 1) else k (.slice a n 2))
      else none
  | some (.slice elem), .slice none 0 0 =>
    match P.info? elem with
    | none => none
    | some _ =>
      let hI : Int := hi.getD 0
      let lI : Int := lo.getD 0
      match mx with
      | some _ => none
      | none => bif decide (lI = 0) && decide (hI = 0) then k (.slice none 0 0) else none
  | some (.array n elem), .pointer (some ⟨id, off, none⟩) =>
    match P.info? elem with
    | none => none
    | some inf =>
      let hI : Int := hi.getD n
      let lI : Int := lo.getD 0
      match mx with
      | some _ => none
      | none => bif decide (0 ≤ lI) && decide (lI ≤ hI) && decide (hI ≤ n) && decide (n ≤ 4611686018427387904) then k (.slice (some ⟨id, off + lI.toNat * inf.size, none⟩) (hI - lI).toNat 2) else none
  | _, _ => none

def zeroOK (i : TypeInfo) : Bool := match i.zero with
  | some z => Nat.beq z.cells.size i.size
  | none => false

def segsCell : List Seg → Bool
  | [] => true
  | .vals vs :: r => vs.all isCell && segsCell r
  | .ints _ _ _ :: r => segsCell r

def appendK (P : Program) (h : Heap) (st : TypeId) (args : List Value) (xt : TypeId) (k : Value → Heap → Out) : Out :=
  match P.underlying st, args with
  | some (.slice elem), [s, x] =>
    match P.info? elem with
    | none => none
    | some inf =>
      match P.underlying xt with
      | some (.int _) => none
      | none => none
      | some _ =>
      bif !zeroOK inf then none else
      cellsK h inf.size x fun n new =>
        match s with
        | .slice none 0 0 =>
          bif decide (n * inf.bytes ≤ 140737488355328) && Nat.ble n 4611686018427387904 then k (.slice (some ⟨h.length, 0, none⟩) n 1) (h ++ [some ⟨true, inf.size, new⟩]) else none
        | .slice (some ⟨id, off, none⟩) len c =>
          cellsK h inf.size s fun _ old =>
          bif decide ((len + n) * inf.bytes ≤ 140737488355328) && Nat.ble (len + n) 4611686018427387904 then
            (bif Nat.beq c 0 then
              -- it has no room: a new array, or nothing is laid
              (bif Nat.beq len 0 || Nat.blt 0 n then k (.slice (some ⟨h.length, 0, none⟩) (len + n) 1) (h ++ [some ⟨true, inf.size, joinS old new⟩]) else none)
            else (bif Nat.beq c 1 then
              (match getB h id with
              | some b => bif b.own && Nat.beq b.es inf.size && Nat.beq (off + len * inf.size) (segsLen b.segs) && segsCell new then
                  k (.slice (some ⟨h.length, 0, none⟩) (len + n) 1) (h.set id none ++ [some ⟨true, inf.size, joinS old new⟩]) else none
              | none => none)
            else none))
          else none
        | _ => none
  | _, _ => none

def mmK (isMax : Bool) (k : IntKind) (x : Int) : List Value → (Value → Out) → Out
  | [], kk => kk (.int k x)
  | .int k' y :: r, kk => bif k == k' then (match isMax with
      | true => mmK isMax k (if y > x then y else x) r kk
      | false => mmK isMax k (if y < x then y else x) r kk) else none
  | _ :: _, _ => none

def sizesOf (P : Program) : List Field → Option (List (Nat × Nat))
  | [] => some []
  | f :: r => match P.info? f.type with
    | some i => match sizesOf P r with
      | some l => some ((f.offset, i.size) :: l)
      | none => none
    | none => none

def partsV (s : Slots) : List (Nat × Operand) → Option (List (Nat × Value))
  | [] => some []
  | (i, o) :: r => match opnd s o with
    | some v => match partsV s r with
      | some l => some ((i, v) :: l)
      | none => none
    | none => none

def isAggT (P : Program) (t : TypeId) : Option Bool := match P.underlying t with
  | some (.struct _) => some true
  | some (.array _ _) => some true
  | some _ => some false
  | none => none

def builtinK (P : Program) (h : Heap) (b : Builtin) (ts : List TypeId) (args : List Value) (k : Value → Heap → Out) : Out :=
  match b with
  | .len => match ts, args with
    | t :: _, x :: _ => match P.underlying t, x with
      | some .string, .string s => k (.int .i64 s.size) h
      | some (.array n _), _ => bif Nat.ble n 4611686018427387904 then k (.int .i64 n) h else none
      | some (.slice _), .slice _ n _ => k (.int .i64 n) h
      | _, _ => none
    | _, _ => none
  | .append => match ts with
    | [st, u] => appendK P h st args u k
    | _ => none
  | .max => match args with
    | .int ik x :: r => mmK true ik x r fun v => k v h
    | _ => none
  | .min => match args with
    | .int ik x :: r => mmK false ik x r fun v => k v h
    | _ => none
  | _ => none

def loadK (P : Program) (h : Heap) (t : TypeId) (p : Value) (k : Value → Out) : Out :=
  match p, P.info? t with
  | .pointer (some ⟨id, off, none⟩), some i => match getB h id with
    | some b => match isAggT P t with
      | some true => bif Nat.blt 0 i.size then rdsK b.segs off i.size fun vs => k (.agg vs.toArray) else none
      | some false => rdK b.segs off k
      | none => none
    | none => none
  | _, _ => none

/-- Does the operation write what was there? -/
def modifies (S : Spec) (s : Slots) : Op → Bool
  | .store .. => true
  | .call { callee := .builtin .append, .. } => true
  | .call { callee := .builtin .copy, .. } => true
  | .call { callee := .builtin .clear, .. } => true
  | .call { callee := .value f, .. } => match opnd s f with
    | some (.func (.func g) _ _) => S.rw g
    | _ => true
  | _ => false

def opK (P : Program) (S : Spec) (s : Slots) (h : Heap) (o : Op) (k : Value → Heap → Out) : Out :=
  match o with
  | .move x | .assign x => match opnd s x with
    | some v => k v h
    | none => none
  | .pick c a b => match opnd s c with
    | some (.bool t) => bif t then (match opnd s a with | some v => k v h | none => none) else (match opnd s b with | some v => k v h | none => none)
    | _ => none
  | .alloc elem => match P.info? elem with
    | some i => match i.zero with
      | some z => bif z.cells.toList.all (fun v => plainV 6 v && isCell v) then k (.pointer (some ⟨h.length, 0, none⟩)) (h ++ [some ⟨true, i.size, group z.cells.toList⟩]) else none
      | none => none
    | none => none
  | .box elem x => match P.info? elem, opnd s x with
    | some i, some v => bif v.cells.toList.all isCell then k (.pointer (some ⟨h.length, 0, none⟩)) (h ++ [some ⟨true, i.size, group v.cells.toList⟩]) else none
    | _, _ => none
  | .build t parts => match P.info? t, partsV s parts.toList with
    | some i, some ps => match i.zero, P.underlying t with
      | some z, some (.struct fs) => match sizesOf P fs.toList with
        | some pl => bif z.cells.toList.all (plainV 6) then (match Instr.fill (fun j => pl.toArray[j]?) z.cells ps with
          | some cs => k (.agg cs) h
          | none => none) else none
        | none => none
      | some z, some (.array _ elem) => match P.info? elem with
        | some ie => bif z.cells.toList.all (plainV 6) then (match Instr.fill (fun j => some (j * ie.size, ie.size)) z.cells ps with
          | some cs => k (.agg cs) h
          | none => none) else none
        | none => none
      | _, _ => none
    | _, _ => none
  | .buildSlice t len parts => match P.underlying t, partsV s parts.toList with
    | some (.slice elem), some ps => match P.info? elem with
      | some ie => match ie.zero with
        | some z =>
          let zs := z.cells
          bif zs.toList.all (fun v => plainV 6 v && isCell v) && decide (len * ie.size ≤ 2 ^ 24) && Nat.ble 1 ie.size && Nat.beq zs.size ie.size && ps.all (fun q => q.2.cells.toList.all isCell) then
            (match Instr.fill (fun j => some (j * ie.size, ie.size)) ((Array.range (len * ie.size)).map (zs[· % zs.size]!)) ps with
            | some cs => k (.slice (some ⟨h.length, 0, none⟩) len 0) (h ++ [some ⟨true, ie.size, group cs.toList⟩])
            | none => none)
          else none
        | none => none
      | none => none
    | _, _ => none
  | .load t a => match opnd s a with
    | some p => loadK P h t p fun v => k v h
    | none => none
  | .store t a x => match opnd s a, opnd s x, P.info? t with
    | some (.pointer (some ⟨id, off, none⟩)), some v, some i => match getB h id with
      | some ⟨own, es, sg⟩ => bif own && Nat.blt 0 i.size && Nat.beq v.cells.size i.size && v.cells.toList.all isCell then
          wrsK sg off v.cells.toList fun sg => k undef (h.set id (some ⟨own, es, sg⟩)) else none
      | none => none
    | _, _, _ => none
  | .nilCheck x => match opnd s x with
    | some (.pointer (some a)) => k (.pointer (some a)) h
    | some (.func (.func g) xs ys) => k (.func (.func g) xs ys) h
    | _ => none
  | .binOp op t x y _ => match opnd s x, opnd s y with
    | some a, some b => binK P op t a b fun v => k v h
    | _, _ => none
  | .unOp op _ x => match opnd s x with
    | some a => unK op a fun v => k v h
    | none => none
  | .convert src dst x => match opnd s x with
    | some a => convK P src dst a fun v => k v h
    | none => none
  | .makeFunc fn first captured => match opnds s first.toList, opnds s captured.toList with
    | some xs, some ys => k (.func fn xs.toArray ys.toArray) h
    | _, _ => none
  | .slice t x lo hi mx => match opnd s x, opnd? s lo, opnd? s hi, opnd? s mx with
    | some v, some l, some hh, some m => match boundI l, boundI hh, boundI m with
      | some l, some hh, some m => sliceK P h t v l hh m fun v => k v h
      | _, _, _ => none
    | _, _, _, _ => none
  | .fieldAddr t x f => match P.underlying t, opnd s x with
    | some (.struct fs), some (.pointer (some ⟨id, off, none⟩)) => match fs[f]? with
      | some fl => match P.info? fl.type with
        | some i => bif Nat.blt 0 i.size then k (.pointer (some ⟨id, off + fl.offset, none⟩)) h else none
        | none => none
      | none => none
    | _, _ => none
  | .field t x f => match P.underlying t, opnd s x with
    | some (.struct fs), some (.agg cs) => match fs[f]? with
      | some fl => match partV P fl.type cs fl.offset with
        | some v => k v h
        | none => none
      | none => none
    | _, _ => none
  | .indexAddr t x ix => match P.underlying t, opnd s x, opnd s ix with
    | some (.array len elem), some (.pointer (some ⟨id, off, none⟩)), some (.int _ i) => match P.info? elem with
      | some inf => bif decide (0 ≤ i) && decide (i < len) then k (.pointer (some ⟨id, off + i.toNat * inf.size, none⟩)) h else none
      | none => none
    | some (.slice elem), some (.slice (some ⟨id, off, none⟩) len _), some (.int _ i) => match P.info? elem with
      | some inf => bif decide (0 ≤ i) && decide (i < len) then k (.pointer (some ⟨id, off + i.toNat * inf.size, none⟩)) h else none
      | none => none
    | _, _, _ => none
  | .index t x ix => match P.underlying t, opnd s x, opnd s ix with
    | some (.array len elem), some (.agg cs), some (.int _ i) => match P.info? elem with
      | some inf => bif decide (0 ≤ i) && decide (i < len) then (match partV P elem cs (i.toNat * inf.size) with | some v => k v h | none => none) else none
      | none => none
    | some .string, some (.string str), some (.int _ i) =>
      bif decide (0 ≤ i) && decide (i < str.size) then k (.int .u8 (bt str i.toNat)) h else none
    | _, _, _ => none
  | .extract t ix => match opnd s t with
    | some (.tuple vs) => match vs[ix]? with
      | some v => k v h
      | none => none
    | _ => none
  | .call c => match opnds s c.args.toList with
    | some args => match c.callee with
      | .value f => match opnd s f with
        | some (.func (.func g) first captured) => callK S g (first.toList ++ args ++ captured.toList) h k
        | _ => none
      | .builtin b => builtinK P h b c.argTypes.toList args k
      | .invoke _ _ => none
    | none => none
  | _ => none

/-! ### regions and code -/
/-- The slot that a guard looks at. -/
def guardSlot (ops : Array Oper) (o : Oper) : Option (Nat × Bool) := match o.guard with
  | some (j, want) => match (ops[j]?).bind (·.dst) with
    | some t => some (t, want)
    | none => none
  | none => none

def putS (n : Nat) (s : Slots) (dst : Option Tmp) (v : Option Value) (k : Slots → Out) : Out := match dst with
  | some t => bif Nat.blt t n then k ((t, v) :: s) else none
  | none => k s

/-- One operation by its guard: run it, or skip it. -/
def guardK (ops : Array Oper) (o : Oper) (s : Slots) (run skip : Slots → Out) : Out :=
  match o.guard with
  | none => run s
  | some (j, want) => match (ops[j]?).bind (·.dst) with
    | some t => match getS s t with
      | some (.bool b) => bif b then (match want with | true => run ((t, some (.bool true)) :: s) | false => skip ((t, some (.bool true)) :: s))
          else (match want with | true => skip ((t, some (.bool false)) :: s) | false => run ((t, some (.bool false)) :: s))
      | some (.tuple vs) => bif vs.size == 0 then skip s else none
      | _ => none
    | none => none

def seqK (P : Program) (S : Spec) (n : Nat) (ops : Array Oper) : List Oper → Slots → Heap → (Slots → Heap → Out) → Out
  | [], s, h, k => k s h
  | o :: r, s, h, k =>
    guardK ops o s
      (fun s => opK P S s h o.op fun v h' => putS n s o.dst (some v) fun s' => seqK P S n ops r s' h' k)
      (fun s => putS n s o.dst (some undef) fun s' => seqK P S n ops r s' h k)

/-! #### a region whose order is open -/
def tmpsOf : List Operand → List Nat
  | [] => []
  | .tmp t :: r => t :: tmpsOf r
  | _ :: r => tmpsOf r

def namesOf (ops : Array Oper) (o : Oper) : List Nat :=
  o.dst.toList ++ (tmpsOf o.op.operands.toList ++ (match o.guard with
    | some (j, _) => ((ops[j]?).bind (·.dst)).toList
    | none => []))

def orderedB (b : Array Nat) (i j : Nat) : Bool := (b.getD j 0).testBit i || (b.getD i 0).testBit j

/-- Whoever writes a slot that another one names is ordered with it. -/
def slotsOK (ops : Array Oper) (b : Array Nat) : Bool :=
  (List.range ops.size).all fun j => match ops[j]? with
    | some oj => (List.range ops.size).all fun i => Nat.beq i j || (match (ops[i]?).bind (·.dst) with
      | some t => !memN t (namesOf ops oj) || orderedB b i j
      | none => true)
    | none => false

/-- What an operation stands behind stands ahead of it in the text. -/
def edgesOK (ops : Array Oper) : Bool := (List.range ops.size).all fun j => match ops[j]? with
  | some o => o.after.toList.all fun e => !Region.binds .any e || Nat.blt e.on j
  | none => false

/-- Are all blocks that a value names below a number? -/
def bdV (L : Nat) : Nat → Value → Bool
  | 0, _ => false
  | d + 1, v => match v with
    | .bool _ | .int _ _ | .string _ | .pointer none | .slice none _ _ | .nilFunc | .nilIface => true
    | .pointer (some ⟨id, _, _⟩) => Nat.blt id L
    | .slice (some ⟨id, _, _⟩) _ _ => Nat.blt id L
    | .func _ xs ys => xs.toList.all (bdV L d) && ys.toList.all (bdV L d)
    | .iface _ v => bdV L d v
    | .agg cs => cs.toList.all (bdV L d)
    | .tuple cs => cs.toList.all (bdV L d)
    | _ => false

def bdS (L : Nat) (s : Slots) : Bool := s.all fun p => match p.2 with
  | some v => bdV L 8 v
  | none => true

def bdH (L : Nat) (h : Heap) : Bool := h.all fun b => match b with
  | some ⟨_, _, sg⟩ => sg.all fun s => match s with
    | .vals vs => vs.all (bdV L 8)
    | .ints _ _ _ => true
  | none => true

/-- It is behind all that stand ahead of it, and ahead of all that stand behind it. -/
def barrier (b : Array Nat) (n j : Nat) : Bool :=
  (List.range n).all fun i => Nat.beq i j || (bif Nat.blt i j then (b.getD j 0).testBit i else (b.getD i 0).testBit j)

def killR (a : Nat) : Nat → Heap → Heap
  | 0, h => h
  | n + 1, h => killR (a + 1) n (h.set a none)

/-- What an operation may see: not what operations have made that it does not stand behind. -/
def maskH (deps : Nat) : List (Nat × Nat × Nat) → Heap → Heap
  | [], h => h
  | (i, a, n) :: r, h => bif deps.testBit i then maskH deps r h else maskH deps r (killR a n h)

/-- Some slots alone. -/
def restrS (l : List Nat) : Slots → Slots
  | [] => []
  | (t, v) :: r => bif memN t l then (t, v) :: restrS l r else restrS l r

def drawK (P : Program) (S : Spec) (n : Nat) (ops : Array Oper) (b : Array Nat) : List Oper → Nat → Slots → Heap → List (Nat × Nat × Nat) → (Slots → Heap → Out) → Out
  | [], _, s, h, _, k => k s h
  | o :: r, j, s, h, rs, k =>
    guardK ops o s
      (fun s => bif modifies S (restrS (namesOf ops o) s) o.op then
          (bif barrier b ops.size j then opK P S (restrS (namesOf ops o) s) h o.op fun v h' => putS n s o.dst (some v) fun s' => drawK P S n ops b r (j + 1) s' h' [] k else none)
        else bif !(bdS h.length (restrS (namesOf ops o) s) && bdH h.length (maskH (b.getD j 0) rs h)) then none else opK P S (restrS (namesOf ops o) s) (maskH (b.getD j 0) rs h) o.op fun v hm =>
          putS n s o.dst (some v) fun s' => drawK P S n ops b r (j + 1) s' (h ++ hm.drop h.length) ((j, h.length, hm.length - h.length) :: rs) k)
      (fun s => putS n s o.dst (some undef) fun s' => drawK P S n ops b r (j + 1) s' h rs k)

/-! #### a region with stores that others need not wait for -/
def maskF (keep : Nat → Bool) : List (Nat × Nat × Nat) → Heap → Heap
  | [], h => h
  | (i, a, n) :: r, h => bif keep i then maskF keep r h else maskF keep r (killR a n h)

def killL : List Nat → Heap → Heap
  | [], h => h
  | i :: r, h => killL r (h.set i none)

/-- One block alone. -/
def onlyB (h : Heap) (id : Nat) : Heap := (List.replicate h.length none).set id (match h[id]? with | some b => b | none => none)

/-- The block that a store writes. -/
def storeAt (s : Slots) : Op → Option Nat
  | .store _ a _ => match opnd s a with
    | some (.pointer (some ⟨id, _, none⟩)) => some id
    | _ => none
  | _ => none

def storeSlots : List Oper → List Nat
  | [] => []
  | o :: r => match o.op with
    | .store _ (.tmp t) _ => t :: storeSlots r
    | _ => storeSlots r

def lateW (s : Slots) : List Nat → List Nat
  | [] => []
  | t :: r => match getS s t with
    | some (.pointer (some ⟨id, _, none⟩)) => id :: lateW s r
    | _ => lateW s r

def lateA (ops : Array Oper) (i : Nat) : Bool := match ops[i]? with
  | some o => match o.op, o.dst with
    | .alloc _, some t => memN t (storeSlots ops.toList)
    | _, _ => false
  | none => false

def hasLate (ops : Array Oper) (b : Array Nat) : Bool := (List.range ops.size).any fun j => match ops[j]? with
  | some o => match o.op with
    | .store .. => !barrier b ops.size j
    | _ => false
  | none => false

def inRs (A : Nat → Bool) (id : Nat) : List (Nat × Nat × Nat) → Bool
  | [] => false
  | (i, a, n) :: r => (A i && (Nat.ble a id && Nat.blt id (a + n))) || inRs A id r

def memL (id : Nat) : List (Nat × Nat × Blk) → Bool
  | [] => false
  | (_, i, _) :: r => Nat.beq i id || memL id r

/-- The stores that are done. -/
def lateF (keep : Nat → Bool) : List (Nat × Nat × Blk) → Heap → Heap
  | [], h => h
  | (j, id, nb) :: r, h => bif keep j then (lateF keep r h).set id (some nb) else lateF keep r h

/-- What an operation may see. -/
def lateM (W : List Nat) (A : Nat → Bool) (deps : Nat) (rs : List (Nat × Nat × Nat)) (h : Heap) : Heap := killL W (maskF (fun i => deps.testBit i && !A i) rs h)

def drawL (P : Program) (S : Spec) (n : Nat) (ops : Array Oper) (b : Array Nat) (W : List Nat) (A : Nat → Bool) : List Oper → Nat → Slots → Heap → List (Nat × Nat × Nat) → List (Nat × Nat × Blk) → (Slots → Heap → List (Nat × Nat × Blk) → Out) → Out
  | [], _, s, h, _, ls, k => k s h ls
  | o :: r, j, s, h, rs, ls, k =>
    guardK ops o s
      (fun s => bif modifies S (restrS (namesOf ops o) s) o.op then
          (match storeAt (restrS (namesOf ops o) s) o.op with
          | some id => match getB h id with
            | some ob => bif ob.own && (memN id W || inRs A id rs) && !memL id ls && bdS h.length (restrS (namesOf ops o) s) && bdH h.length (onlyB h id) then
                opK P S (restrS (namesOf ops o) s) (onlyB h id) o.op fun v h' => match getB h' id with
                  | some nb => bif Nat.beq h'.length h.length then putS n s o.dst (some v) fun s' => drawL P S n ops b W A r (j + 1) s' h rs ((j, id, nb) :: ls) k else none
                  | none => none
              else none
            | none => none
          | none => none)
        else bif !(bdS h.length (restrS (namesOf ops o) s) && bdH h.length (lateM W A (b.getD j 0) rs h)) then none else opK P S (restrS (namesOf ops o) s) (lateM W A (b.getD j 0) rs h) o.op fun v hm =>
          putS n s o.dst (some v) fun s' => drawL P S n ops b W A r (j + 1) s' (h ++ hm.drop h.length) ((j, h.length, hm.length - h.length) :: rs) ls k)
      (fun s => putS n s o.dst (some undef) fun s' => drawL P S n ops b W A r (j + 1) s' h rs ls k)

/-! #### code -/
/-- A loop by the number of its first region. -/
def loopKey : Code → Option Nat
  | .region id _ _ => some id
  | .seq a b => match loopKey a with
    | some i => some i
    | none => loopKey b
  | .cond _ a b => match loopKey a with
    | some i => some i
    | none => loopKey b
  | .block _ c => loopKey c
  | .loop c => loopKey c
  | .scope c => loopKey c
  | _ => none

def zipS : List Nat → List Value → Slots
  | t :: r, v :: vs => (t, some v) :: zipS r vs
  | _, _ => []

def getsS (s : Slots) : List Nat → Option (List Value)
  | [] => some []
  | t :: r => match getS s t with
    | some v => match getsS s r with
      | some vs => some (v :: vs)
      | none => none
    | none => none

/-- Does a list begin with the numbers below m? -/
def preB (m : Nat) (σ : List Nat) : Bool := (List.range m).all fun j => match σ[j]? with
  | some x => Nat.beq x j
  | none => false

/-- A cut under which the first m blocks stay. -/
def cutP (m : Nat) (h : Heap) (vs : List Value) (σ : List Nat) (k : List Value → Heap → Out) : Out := bif preB m σ then cutK h vs σ k else none

/-- Some slots alone, and what they reach (the first m blocks stay). -/
def cutS (m : Nat) (live : List Nat) (s : Slots) (h : Heap) (k : List Value → Heap → Out) : Out :=
  match getsS s live with
  | some vs => cutP m h vs (reach h vs (List.range m)) k
  | none => none

/-- What is known of a function's loops: by its key the slots that count, and what becomes of them. -/
abbrev LSpec := Nat → Option (List Nat × (List Value → Heap → (Exit → List Value → Heap → Out) → Out))

def codeK (P : Program) (S : Spec) (L : LSpec) (n m : Nat) : Code → Slots → Heap → (Exit → Slots → Heap → Out) → Out
  | .skip, s, h, k => k .normal s h
  | .region _ ops draw, s, h, k =>
    bif draw then
      (let b := Region.before ops
      bif slotsOK ops b && edgesOK ops then (bif hasLate ops b then drawL P S n ops b (lateW s (storeSlots ops.toList)) (lateA ops) ops.toList 0 s h [] [] fun s h ls => k .normal s (lateF (fun _ => true) ls h) else drawK P S n ops b ops.toList 0 s h [] fun s h => k .normal s h) else none)
    else seqK P S n ops ops.toList s h fun s h => k .normal s h
  | .seq x y, s, h, k => codeK P S L n m x s h fun e s h => match e with
    | .normal => codeK P S L n m y s h k
    | e => k e s h
  | .cond c x y, s, h, k => match opnd s c with
    | some (.bool b) => bif b then codeK P S L n m x s h k else codeK P S L n m y s h k
    | _ => none
  | .block id c, s, h, k => codeK P S L n m c s h fun e s h => match e with
    | .exit id' => bif Nat.beq id' id then k .normal s h else k (.exit id') s h
    | e => k e s h
  | .loop c, s, h, k => match (loopKey c).bind L with
    | some (live, f) => cutS m live s h fun vs h => f vs h fun e vs h => k e (zipS live vs) h
    | none => none
  | .exit id, s, h, k => k (.exit id) s h
  | .ret, s, h, k => k .ret s h
  | _, _, _, _ => none

/-- The bodies of the loops of a piece of code. -/
def loops : Code → List Code
  | .seq a b => loops a ++ loops b
  | .cond _ a b => loops a ++ loops b
  | .block _ c => loops c
  | .loop c => [c]
  | _ => []

/-- A loop, at most so many rounds. -/
def loopN (P : Program) (S : Spec) (L : LSpec) (n m : Nat) (c : Code) (live : List Nat) : Nat → List Value → Heap → (Exit → List Value → Heap → Out) → Out
  | 0, _, _, _ => none
  | r + 1, vs, h, k => codeK P S L n m c (zipS live vs) h fun e s h => match e with
    | .normal => cutS m live s h fun vs h => loopN P S L n m c live r vs h k
    | e => cutS m live s h fun vs h => k e vs h

def resK (P : Program) (s : Slots) (h : Heap) : List ResultVar → (List Value → Out) → Out
  | [], k => k []
  | .tmp t :: r, k => match getS s t with
    | some v => resK P s h r fun vs => k (v :: vs)
    | none => none
  | .cell a t :: r, k => match getS s a with
    | some p => loadK P h t p fun v => resK P s h r fun vs => k (v :: vs)
    | none => none

def tupled : List Value → Value
  | [v] => v
  | vs => .tuple vs.toArray

def slots0 : Nat → List Value → Slots
  | _, [] => []
  | i, v :: r => (i, some v) :: slots0 (i + 1) r

/-- What the first m blocks hold, if they may be written. -/
def contents (h : Heap) : Nat → List Value
  | 0 => []
  | m + 1 => contents h m ++ (match getB h m with
    | some b => bif b.own then b.segs.flatMap (fun s => match s with | .vals vs => vs | _ => []) else []
    | none => [])

/-- A function's answer on an abstract heap. -/
def fnK (P : Program) (S : Spec) (L : LSpec) (fn : Func) (args : List Value) (h : Heap) : Out :=
  match fn.body with
  | none => none
  | some c => bif Nat.ble args.length fn.ntmps then
      codeK P S L fn.ntmps h.length c (slots0 0 args) h fun e s h1 => match e with
        | .normal | .ret => resK P s h1 fn.results.toList fun vs =>
          cutP h.length h1 [tupled vs] (reach h1 (tupled vs :: contents h1 h.length) (List.range h.length)) fun vs h2 => match vs with
            | [v] => some (.ret v h2)
            | _ => none
        | _ => none
    else none

end Go.Proofs.Ytfgehfnlkakioaa.VC
