/-
  An evaluator over shapes: each statement of a function's code is turned into what has to be shown, over slots and blocks whose shape is known and whose numbers and texts are letters. Definitions alone.
-/
import Derived.WalkKit
namespace Go.Sx

/-- A value whose shape is known. 'ptr i a off': the cell 'off' behind the base 'a' of block i. 'sl i v n': a slice of n elements that begins where block i begins. 'hs v n': a slice of n elements that lies among what is read alone ('heap'); 'hp a off': a place there. -/
inductive AV where
  | int (k : IntKind) (n : Int)
  | bool (b : Bool)
  | str (s : List UInt8)
  | ptr (i : Nat) (a : Addr) (off : Nat)
  | sl (i : Nat) (v : Value) (n : Nat)
  | view (i : Nat) (v : Value) (sz lo hi : Nat)
  | hs (v : Value) (n : Nat)
  | hp (a : Addr) (off : Nat)
  | ifc (t : TypeId) (x : AV)
  | fn (f : FuncId) (first captured : List AV)
  | agg (cs : List AV)
  | tup (vs : List AV)
  | raw (v : Value)
  | any

/-- A slice, whatever was said. -/
def slOf (v : Value) : Value :=
  match v with
  | .slice a n cap => .slice a n cap
  | _ => .slice none 0 0
/-- A slice's part. -/
def cutSl (v : Value) (sz lo hi : Nat) : Value :=
  match slOf v with
  | .slice a _ cap => .slice (if cap = lo then a else a.map (·.add (lo * sz))) (hi - lo) (cap - lo)
  | _ => .slice none 0 0

mutual
def AV.den : AV → Value
  | .int k n => .int k n
  | .bool b => .bool b
  | .str s => .string ⟨s.toArray⟩
  | .ptr _ a off => .pointer (some (a.add off))
  | .sl _ v _ => slOf v
  | .view _ v sz lo hi => cutSl v sz lo hi
  | .hs v _ => slOf v
  | .hp a off => .pointer (some (a.add off))
  | .ifc t x => .iface t x.den
  | .fn f first captured => .func (.func f) (denL first).toArray (denL captured).toArray
  | .agg cs => .agg (denL cs).toArray
  | .tup vs => .tuple (denL vs).toArray
  | .raw v => v
  | .any => undef
def denL : List AV → List Value
  | [] => []
  | x :: xs => x.den :: denL xs
end

/-- One cell. -/
def ofCell : Value → AV
  | .int k n => .int k n
  | .bool b => .bool b
  | .string s => .str s.data.toList
  | v => .raw v
def ofVal : Value → AV
  | .agg cs => .agg (cs.toList.map ofCell)
  | v => ofCell v
/-- One cell of what is read alone. -/
def ofCellH : Value → AV
  | .int k n => .int k n
  | .bool b => .bool b
  | .string ⟨⟨l⟩⟩ => .str l
  | .slice a n c => .hs (.slice a n c) n
  | v => .raw v
def cellHK (u : Value) (K : AV → Prop) : Prop :=
  match u with
  | .int k n => K (.int k n)
  | .bool b => K (.bool b)
  | .string ⟨⟨l⟩⟩ => K (.str l)
  | .slice a n c => K (.hs (.slice a n c) n)
  | v => K (.raw v)
/-- The cells of a value. -/
def AV.cells : AV → List AV
  | .agg cs => cs
  | .raw (.agg cs) => cs.toList.map .raw
  | v => [v]

/-- What is read alone: cells, and blocks that are known whole. -/
structure Heap where
  c : Addr → Value → Prop
  o : Nat → Obj → Prop
/-- Blocks of one's own of which something is known, as long as they stay. -/
structure Res where
  p : World → Prop
  f : Nat → Prop
  lt : ∀ w b, p w → f b → b < w.heap.size
  keep : ∀ w w' : World, p w → w.heap.size ≤ w'.heap.size → (∀ b, f b → w'.heap[b]? = w.heap[b]?) → p w'
inductive Kind where
  /-- a variable's block, known whole -/
  | var (t : TypeId)
  /-- a row of the call's own, that may be appended to -/
  | row (v : Value) (t : TypeId) (sz n : Nat)
  /-- a slice that is read alone -/
  | ro (v : Value) (sz n : Nat)
  /-- cells, and whole blocks, that are read alone, wherever they lie -/
  | heap (F : Heap)
  /-- an object of one's own, known whole (a map, what goes through one) -/
  | obj (o : Obj)
  /-- blocks of one's own, however many -/
  | res (R : Res)

structure Blk where
  a : Addr
  cs : List AV
  kind : Kind

def addrOf : Value → Addr
  | .slice (some a) _ _ => a
  | _ => ⟨0, 0, none⟩
/-- A slice of so many elements. -/
def SlOk (v : Value) (n : Nat) : Prop := ∃ A cap, v = .slice A n cap ∧ n ≤ cap ∧ (A = none → cap = 0)
/-- What is read alone, as a block. -/
def hpB (F : Heap) : Blk := ⟨⟨0, 0, none⟩, [], .heap F⟩

def Blk.holds (k : Blk) (w : World) : Prop :=
  match k.kind with
  | .var t => k.a.off = 0 ∧ k.a.spot = none ∧ w.heap[k.a.block]? = some (.cells (denL k.cs).toArray t (0, 0))
  | .row v t sz n => w.ownsRow 0 t sz v n (denL k.cs) ∧ k.a = addrOf v
  | .ro v sz n => k.cs.length = n * sz ∧ ∃ A cap, v = .slice A n cap ∧ n ≤ cap ∧ (A = none → cap = 0) ∧
      (0 < n → A = some k.a ∧ k.a.block < w.heap.size ∧ ∀ j u, (denL k.cs)[j]? = some u → w.cell? (k.a.add j) = some u)
  | .heap F => k.cs = [] ∧ (∀ a u, F.c a u → a.block < w.heap.size ∧ w.cell? a = some u) ∧ ∀ b o, F.o b o → w.heap[b]? = some o
  | .obj o => k.cs = [] ∧ k.a.off = 0 ∧ k.a.spot = none ∧ w.heap[k.a.block]? = some o
  | .res R => k.cs = [] ∧ R.p w

/-- What may lie in many blocks. -/
def Kind.multi : Kind → Bool
  | .heap _ => true
  | .res _ => true
  | _ => false
def Blk.wr (k : Blk) : Bool :=
  match k.kind with
  | .ro .. => false
  | .heap _ => false
  | _ => true
def Blk.bn (k : Blk) : Option Nat :=
  match k.kind with
  | .var _ => some k.a.block
  | .row v _ _ _ => v.ownBlock
  | .ro _ _ n => if 0 < n then some k.a.block else none
  | .heap _ => none
  | .obj _ => some k.a.block
  | .res _ => none
/-- The blocks in which it lies. -/
def Blk.foot (k : Blk) (b : Nat) : Prop :=
  match k.kind with
  | .heap F => (∃ a u, F.c a u ∧ a.block = b) ∨ ∃ o, F.o b o
  | .res R => R.f b
  | _ => k.bn = some b

def Sep (x y : Blk) : Prop := x.wr = true ∨ y.wr = true → ∀ b, x.foot b → y.foot b → False
structure MemOk (m : List Blk) (w : World) : Prop where
  holds : ∀ k ∈ m, k.holds w
  sep : m.Pairwise Sep

/-- The blocks that may be written. -/
def wrs (m : List Blk) : Nat → Prop := fun b => ∃ k ∈ m, k.wr = true ∧ k.foot b
/-- All blocks. -/
def foots (m : List Blk) : Nat → Prop := fun b => ∃ k ∈ m, k.foot b

/-- Nothing but the blocks of S has turned. -/
structure Fr (S : Nat → Prop) (w w' : World) : Prop where
  os : w'.os = w.os
  tape : w'.tape = w.tape
  output : w'.output = w.output
  size : w.heap.size ≤ w'.heap.size
  block : ∀ k, k < w.heap.size → ¬ S k → w'.heap[k]? = w.heap[k]?

/-- What may be written, and what is there at all. -/
structure Own where
  w : Nat → Prop
  f : Nat → Prop
  d : List Deferred := []
def own (m : List Blk) : Own := ⟨wrs m, foots m, []⟩
/-- What may be written now is what might have been, or new; so it is of what is there. -/
def Fresh (S : Own) (w : World) (m : List Blk) : Prop := (∀ b, wrs m b → S.w b ∨ w.heap.size ≤ b) ∧ ∀ b, foots m b → S.f b ∨ w.heap.size ≤ b

def SlotOk (x : AV) (v : Value) : Prop := x = .any ∨ v = x.den
def SlotsOk (sl : List AV) (tmps : Array Value) : Prop := sl.length = tmps.size ∧ ∀ (i : Nat) (x : AV) (v : Value), sl[i]? = some x → tmps[i]? = some v → SlotOk x v

structure Sim (w0 : World) (S : Own) (sl : List AV) (m : List Blk) (a : Act) (w : World) : Prop where
  slots : SlotsOk sl a.tmps
  defers : a.defers = S.d
  mem : MemOk m w
  fr : Fr S.w w0 w
  fresh : Fresh S w0 m

/-! ### The labels -/

/-- A number that has been reckoned. -/
@[irreducible] def NV (v : Int) (K : Int → Prop) : Prop := K v
/-- A text that has been made. -/
@[irreducible] def NS (s : List UInt8) (K : List UInt8 → Prop) : Prop := K s
/-- A place that has been reckoned. -/
@[irreducible] def NN (v : Nat) (K : Nat → Prop) : Prop := K v
/-- Cells that are bytes. -/
@[irreducible] def NBytes (cs : List AV) (K : List UInt8 → Prop) : Prop := ∃ l : List UInt8, denL cs = l.map (fun b => Value.int .u8 b.toNat) ∧ K l
/-- A test. -/
@[irreducible] def NIf (b : Bool) (p q : Prop) : Prop := (b = true → p) ∧ (b = false → q)
/-- A condition that is owed. -/
@[irreducible] def NH (p : Prop) (q : Prop) : Prop := p ∧ q

/-- A cell of what is read alone. -/
@[irreducible] def NLd (F : Heap) (a : Addr) (K : Value → Prop) : Prop := ∃ u, F.c a u ∧ K u
def CellsF (F : Heap) (a : Addr) : Nat → List Value → Prop
  | _, [] => True
  | o, v :: vs => F.c (a.add o) v ∧ CellsF F a (o + 1) vs
/-- Cells of what is read alone. -/
@[irreducible] def NRd (F : Heap) (a : Addr) (n : Nat) (K : List AV → Prop) : Prop := ∃ cs, cs.length = n ∧ CellsF F a 0 (denL cs) ∧ K cs
/-- A call: whatever the callee makes of it, it goes on. -/
@[irreducible] def NCall (P : Program) (f : FuncId) (args : List AV) (m : List Blk) (K : AV → List Blk → Prop) : Prop :=
  (∀ (as : Array Value) (w : World), (callFunc f as).run P w = .ok (.enter f as) w) ∧
  ∀ w, MemOk m w → Calls P f (denL args).toArray w fun e w' => ∃ r m', K r m' ∧ e = .returned r.den ∧ MemOk m' w' ∧ Fr (wrs m) w w' ∧ Fresh (own m) w m'

/-- An operation on maps: whatever the world. -/
@[irreducible] def NMap (P : Program) (s : Sem Value) (m : List Blk) (K : AV → List Blk → Prop) : Prop :=
  ∀ w, MemOk m w → ∃ r m' w', s.run P w = .ok r.den w' ∧ K r m' ∧ MemOk m' w' ∧ Fr (wrs m) w w' ∧ Fresh (own m) w m'

/-- A statement that draws its order. -/
@[irreducible] def NDraw (P : Program) (ops : Array Oper) (sl : List AV) (m : List Blk) (k : List AV → List Blk → Prop) : Prop :=
  ∀ (id : Nat) (w0 : World) (S : Own) (a : Act) (w : World), Sim w0 S sl m a w → (Code.region id ops true).wp P (fun e a w => e = .normal ∧ ∃ sl m, k sl m ∧ Sim w0 S sl m a w) a w
abbrev Post := Exit → List AV → List Blk → Prop

/-- What is known of one state is known of another one that tells no less. -/
def Fit1 (x y : AV) : Prop := y = .any ∨ (x ≠ .any ∧ x.den = y.den)
def FitsSl : List AV → List AV → Prop
  | [], [] => True
  | x :: xs, y :: ys => Fit1 x y ∧ FitsSl xs ys
  | _, _ => False

/-- Blocks that are known of some blocks. -/
def MemFits (m m' : List Blk) : Prop := ∀ w, MemOk m w → MemOk m' w ∧ (∀ b, wrs m' b → wrs m b) ∧ ∀ b, foots m' b → foots m b
/-- So many rounds at the most. -/
def roundsK (body : List AV → List Blk → Post → Prop) (Q : Post) : Nat → List AV → List Blk → Prop
  | 0, _, _ => False
  | n + 1, sl, m => body sl m fun e sl' m' =>
    match e with
    | .normal => roundsK body Q n sl' m'
    | e => Q e sl' m'

/-- What holds where such blocks lie. -/
structure KnowP (m : List Blk) (p : Prop) : Prop where
  get : (∃ w, MemOk m w) → p
/-- A loop: a state of letters that each round hands on; or so many rounds. -/
@[irreducible] def NLoop (body : List AV → List Blk → Post → Prop) (sl : List AV) (m : List Blk) (Q : Post) : Prop :=
  (∃ (α : Type) (ok : α → Prop) (s : α → List AV) (mm : α → List Blk) (μ : α → Nat),
    ((∃ w, MemOk m w) → ∃ x, ok x ∧ FitsSl sl (s x) ∧ MemFits m (mm x)) ∧
    ∀ x, ok x → body (s x) (mm x) fun e sl' m' =>
      match e with
      | .normal => KnowP m' (∃ x', ok x' ∧ μ x' < μ x ∧ FitsSl sl' (s x') ∧ MemFits m' (mm x'))
      | e => Q e sl' m') ∨ ∃ n, roundsK body Q n sl m

/-! ### Slots -/
def getK : List AV → Nat → (AV → Prop) → Prop
  | [], _, _ => False
  | x :: _, 0, k => match x with
    | .any => False
    | x => k x
  | _ :: xs, n + 1, k => getK xs n k
def setK : List AV → Nat → AV → (List AV → Prop) → Prop
  | [], _, _, _ => False
  | _ :: xs, 0, v, k => k (v :: xs)
  | x :: xs, n + 1, v, k => setK xs n v fun ys => k (x :: ys)

/-- A constant. -/
def constK (v : Value) (k : AV → Prop) : Prop :=
  match v with
  | .int q n => k (.int q n)
  | .bool b => k (.bool b)
  | .string ⟨⟨l⟩⟩ => k (.str l)
  | .agg ⟨cs⟩ => k (.agg (cs.map ofCell))
  | .slice none 0 0 => k (.raw (.slice none 0 0))
  | .pointer none => k (.raw (.pointer none))
  | v => k (.raw v)
def evK (sl : List AV) (o : Operand) (k : AV → Prop) : Prop :=
  match o with
  | .tmp t => getK sl t k
  | .const v => constK v k
  | .global g => k (.raw (.pointer (some ⟨g, 0, none⟩)))
  | .func f => k (.fn f [] [])
def evLK (sl : List AV) : List Operand → (List AV → Prop) → Prop
  | [], k => k []
  | o :: os, k => evK sl o fun x => evLK sl os fun xs => k (x :: xs)

/-! ### Blocks -/
def blkK : List Blk → Nat → (Blk → Prop) → Prop
  | [], _, _ => False
  | x :: _, 0, k => k x
  | _ :: xs, n + 1, k => blkK xs n k
def setBlkK : List Blk → Nat → Blk → (List Blk → Prop) → Prop
  | [], _, _, _ => False
  | _ :: xs, 0, v, k => k (v :: xs)
  | x :: xs, n + 1, v, k => setBlkK xs n v fun ys => k (x :: ys)
/-- The cells from a place on. -/
def cellsK : List AV → Nat → Nat → (List AV → Prop) → Prop
  | _, 0, 0, k => k []
  | [], _, _, _ => False
  | x :: xs, 0, n + 1, k => cellsK xs 0 n fun ys => k (x :: ys)
  | _ :: xs, o + 1, n, k => cellsK xs o n k
/-- Cells laid over others. -/
def putK : List AV → Nat → List AV → (List AV → Prop) → Prop
  | cs, 0, [], k => k cs
  | [], _, _, _ => False
  | _ :: xs, 0, v :: vs, k => putK xs 0 vs fun ys => k (v :: ys)
  | x :: xs, o + 1, vs, k => putK xs o vs fun ys => k (x :: ys)

/-- A type that lies in several cells? -/
def aggT (P : Program) (t : TypeId) : Option Bool :=
  match P.underlying t with
  | some (.struct _) => some true
  | some (.array _ _) => some true
  | some _ => some false
  | none => none
/-- A number, reckoned. -/
def litO (n : Nat) : Option Nat :=
  match n with
  | 0 => some 0
  | 1 => some 1
  | 2 => some 2
  | 3 => some 3
  | 4 => some 4
  | 5 => some 5
  | 6 => some 6
  | 7 => some 7
  | 8 => some 8
  | 9 => some 9
  | 10 => some 10
  | 11 => some 11
  | 12 => some 12
  | 13 => some 13
  | 14 => some 14
  | 15 => some 15
  | 16 => some 16
  | 17 => some 17
  | 18 => some 18
  | 19 => some 19
  | 20 => some 20
  | 21 => some 21
  | 22 => some 22
  | 23 => some 23
  | 24 => some 24
  | 25 => some 25
  | 26 => some 26
  | 27 => some 27
  | 28 => some 28
  | 29 => some 29
  | 30 => some 30
  | 31 => some 31
  | 32 => some 32
  | 33 => some 33
  | 34 => some 34
  | 35 => some 35
  | 36 => some 36
  | 37 => some 37
  | 38 => some 38
  | 39 => some 39
  | 40 => some 40
  | 41 => some 41
  | 42 => some 42
  | 43 => some 43
  | 44 => some 44
  | 45 => some 45
  | 46 => some 46
  | 47 => some 47
  | 48 => some 48
  | 49 => some 49
  | 50 => some 50
  | 51 => some 51
  | 52 => some 52
  | 53 => some 53
  | 54 => some 54
  | 55 => some 55
  | 56 => some 56
  | 57 => some 57
  | 58 => some 58
  | 59 => some 59
  | 60 => some 60
  | 61 => some 61
  | 62 => some 62
  | 63 => some 63
  | 64 => some 64
  | 72 => some 72
  | 80 => some 80
  | 88 => some 88
  | 96 => some 96
  | 104 => some 104
  | 112 => some 112
  | 120 => some 120
  | 128 => some 128
  | 136 => some 136
  | 144 => some 144
  | 152 => some 152
  | 160 => some 160
  | 168 => some 168
  | 176 => some 176
  | 184 => some 184
  | 192 => some 192
  | 200 => some 200
  | 208 => some 208
  | 216 => some 216
  | 224 => some 224
  | 232 => some 232
  | 240 => some 240
  | 248 => some 248
  | 256 => some 256
  | n => some n
def szT (P : Program) (t : TypeId) : Option Nat :=
  match P.info? t with
  | some i => litO i.size
  | none => none
def bytesT (P : Program) (t : TypeId) : Option Nat :=
  match P.info? t with
  | some i => litO i.bytes
  | none => none


def nthK : List AV → Nat → (AV → Prop) → Prop
  | [], _, _ => False
  | x :: _, 0, k => k x
  | _ :: xs, n + 1, k => nthK xs n k
/-- A part of a value: of type t, at a place. -/
def partK (P : Program) (t : TypeId) (cs : List AV) (off : Nat) (K : AV → Prop) : Prop :=
  match aggT P t, szT P t with
  | some true, some s => cellsK cs off s fun xs => K (.agg xs)
  | some false, _ => nthK cs off K
  | _, _ => False

/-! ### Operations on numbers and texts -/
def bitv (op : BinOp) (k : IntKind) (x y : Int) : Int :=
  match op with
  | .and => k.wrap (BitVec.ofInt k.bits x &&& BitVec.ofInt k.bits y).toNat
  | .or => k.wrap (BitVec.ofInt k.bits x ||| BitVec.ofInt k.bits y).toNat
  | .xor => k.wrap (BitVec.ofInt k.bits x ^^^ BitVec.ofInt k.bits y).toNat
  | _ => k.wrap (BitVec.ofInt k.bits x &&& ~~~(BitVec.ofInt k.bits y)).toNat

def shiftK (op : BinOp) (k : IntKind) (x y : Int) (K : AV → Prop) : Prop :=
  match op with
  | .shl => NH (0 ≤ y) (NV (k.wrap (x * 2 ^ min y.toNat k.bits)) fun r => K (.int k r))
  | _ => NH (0 ≤ y) (NV (x.fdiv (2 ^ min y.toNat k.bits)) fun r => K (.int k r))
/-- Powers of 2, reckoned. -/
def powO (n : Nat) : Option Int :=
  match n with
  | 0 => some 1
  | 1 => some 2
  | 2 => some 4
  | 3 => some 8
  | 4 => some 16
  | 5 => some 32
  | 6 => some 64
  | 7 => some 128
  | 8 => some 256
  | 9 => some 512
  | 10 => some 1024
  | 11 => some 2048
  | 12 => some 4096
  | 13 => some 8192
  | 14 => some 16384
  | 15 => some 32768
  | 16 => some 65536
  | 17 => some 131072
  | 18 => some 262144
  | 19 => some 524288
  | 20 => some 1048576
  | 21 => some 2097152
  | 22 => some 4194304
  | 23 => some 8388608
  | 24 => some 16777216
  | 25 => some 33554432
  | 26 => some 67108864
  | 27 => some 134217728
  | 28 => some 268435456
  | 29 => some 536870912
  | 30 => some 1073741824
  | 31 => some 2147483648
  | 32 => some 4294967296
  | 33 => some 8589934592
  | 34 => some 17179869184
  | 35 => some 34359738368
  | 36 => some 68719476736
  | 37 => some 137438953472
  | 38 => some 274877906944
  | 39 => some 549755813888
  | 40 => some 1099511627776
  | 41 => some 2199023255552
  | 42 => some 4398046511104
  | 43 => some 8796093022208
  | 44 => some 17592186044416
  | 45 => some 35184372088832
  | 46 => some 70368744177664
  | 47 => some 140737488355328
  | 48 => some 281474976710656
  | 49 => some 562949953421312
  | 50 => some 1125899906842624
  | 51 => some 2251799813685248
  | 52 => some 4503599627370496
  | 53 => some 9007199254740992
  | 54 => some 18014398509481984
  | 55 => some 36028797018963968
  | 56 => some 72057594037927936
  | 57 => some 144115188075855872
  | 58 => some 288230376151711744
  | 59 => some 576460752303423488
  | 60 => some 1152921504606846976
  | 61 => some 2305843009213693952
  | 62 => some 4611686018427387904
  | 63 => some 9223372036854775808
  | n => some (2 ^ n)
/-- A shift by a constant. -/
def shiftC (op : BinOp) (x : AV) (y : Int) (K : AV → Prop) : Prop :=
  match x with
  | .int k x =>
    match powO (min y.toNat k.bits) with
    | some p => match op with
      | .shl => NH (0 ≤ y) (NV (k.wrap (x * p)) fun r => K (.int k r))
      | _ => NH (0 ≤ y) (NV (x / p) fun r => K (.int k r))
    | none => False
  | _ => False
/-- The amount of a shift that is a constant. -/
def constShift (op : BinOp) (y : Operand) : Option Int :=
  match op, y with
  | .shl, .const (.int _ n) => some n
  | .shr, .const (.int _ n) => some n
  | _, _ => none
def intK (op : BinOp) (k : IntKind) (x y : Int) (K : AV → Prop) : Prop :=
  match op with
  | .add => NV (k.wrap (x + y)) fun r => K (.int k r)
  | .sub => NV (k.wrap (x - y)) fun r => K (.int k r)
  | .mul => NV (k.wrap (x * y)) fun r => K (.int k r)
  | .quo => NH (y ≠ 0) (NV (k.wrap (x.tdiv y)) fun r => K (.int k r))
  | .rem => NH (y ≠ 0) (NV (x.tmod y) fun r => K (.int k r))
  | .and => NV (bitv .and k x y) fun r => K (.int k r)
  | .or => NV (bitv .or k x y) fun r => K (.int k r)
  | .xor => NV (bitv .xor k x y) fun r => K (.int k r)
  | .andNot => NV (bitv .andNot k x y) fun r => K (.int k r)
  | .eql => K (.bool (decide (x = y)))
  | .neq => K (.bool (!decide (x = y)))
  | .lss => K (.bool (decide (x < y)))
  | .leq => K (.bool (decide (x ≤ y)))
  | .gtr => K (.bool (decide (x > y)))
  | .geq => K (.bool (decide (x ≥ y)))
  | _ => False
def strK (op : BinOp) (x y : List UInt8) (K : AV → Prop) : Prop :=
  match op with
  | .add => NH (x.length + y.length ≤ 9223372036854775807) (NS (x ++ y) fun s => K (.str s))
  | .eql => K (.bool (decide (x = y)))
  | .neq => K (.bool (!decide (x = y)))
  | .lss => K (.bool (Op.bytesLess x y))
  | .leq => K (.bool (Op.bytesLess x y || decide (x = y)))
  | .gtr => K (.bool !(Op.bytesLess x y || decide (x = y)))
  | .geq => K (.bool !(Op.bytesLess x y))
  | _ => False
def isShift : BinOp → Bool
  | .shl | .shr => true
  | _ => false
def isEq : BinOp → Option Bool
  | .eql => some true
  | .neq => some false
  | _ => none
def sameKind : IntKind → IntKind → Bool
  | .i8, .i8 | .i16, .i16 | .i32, .i32 | .i64, .i64 | .u8, .u8 | .u16, .u16 | .u32, .u32 | .u64, .u64 => true
  | _, _ => false
inductive Leaf where
  | i | b | s
/-- The plain cells of a struct, or an array. -/
def leafF (g : TypeId → Option (List Leaf)) : List Field → Option (List Leaf)
  | [] => some []
  | f :: fs => match g f.type, leafF g fs with
    | some x, some y => some (x ++ y)
    | _, _ => none
def repLeaf (l : List Leaf) : Nat → List Leaf
  | 0 => []
  | n + 1 => l ++ repLeaf l n
def leafT (P : Program) : Nat → TypeId → Option (List Leaf)
  | 0, _ => none
  | n + 1, t => match P.underlying t with
    | some (.int _) => some [.i]
    | some .bool => some [.b]
    | some .string => some [.s]
    | some (.struct fs) => leafF (leafT P n) fs.toList
    | some (.array len e) => match leafT P n e with
      | some l => some (repLeaf l len)
      | none => none
    | _ => none
def flatF (P : Program) (g : TypeId → Bool) : List Field → Nat → Option Nat
  | [], o => some o
  | f :: fs, o => match g f.type, szT P f.type with
    | true, some s => match f.offset == o, f.name == "_" with
      | true, false => flatF P g fs (o + s)
      | _, _ => none
    | _, _ => none
/-- A type whose values are held against each other cell by cell. -/
def flatT (P : Program) : Nat → TypeId → Bool
  | 0, _ => false
  | n + 1, t => match P.underlying t, szT P t with
    | some (.int _), some s => s == 1
    | some .bool, some s => s == 1
    | some .string, some s => s == 1
    | some (.struct fs), some s => !P.stoodInHeld t && (flatF P (flatT P n) fs.toList 0 == some s)
    | some (.array len e), some s => flatT P n e && (match szT P e with
      | some se => len * se == s
      | none => false)
    | _, _ => false
@[irreducible] def NFlat (P : Program) (t : TypeId) (q : Prop) : Prop := (flatT P 8 t = true ∧ P.eqGuardType P.depth t = false) ∧ q
def eqCell : Leaf → AV → AV → Option Bool
  | .i, .int k x, .int k' y => match sameKind k k' with
    | true => some (decide (x = y))
    | false => none
  | .b, .bool x, .bool y => some (x == y)
  | .s, .str x, .str y => some (decide (x = y))
  | _, _, _ => none
def eqCells : List Leaf → List AV → List AV → Option Bool
  | [], [], [] => some true
  | l :: ls, x :: xs, y :: ys => match eqCell l x y, eqCells ls xs ys with
    | some a, some b => some (a && b)
    | _, _ => none
  | _, _, _ => none
/-- Structs, or arrays, held against each other. -/
def eqAgg (P : Program) (t : TypeId) (xs ys : List AV) (K : Bool → Prop) : Prop :=
  match aggT P t, leafT P 8 t with
  | some true, some ls => match eqCells ls xs ys with
    | some b => NFlat P t (K b)
    | none => False
  | _, _ => False
def binK (P : Program) (op : BinOp) (t : TypeId) (a b : AV) (K : AV → Prop) : Prop :=
  match a, b with
  | .int k x, .int k' y =>
    match isShift op with
    | true => shiftK op k x y K
    | false => match sameKind k k' with
      | true => intK op k x y K
      | false => False
  | .str x, .str y => strK op x y K
  | .bool x, .bool y =>
    match P.underlying t, isEq op with
    | some .bool, some true => K (.bool (x == y))
    | some .bool, some false => K (.bool !(x == y))
    | _, _ => False
  | .agg xs, .agg ys =>
    match isEq op with
    | some true => eqAgg P t xs ys fun b => K (.bool b)
    | some false => eqAgg P t xs ys fun b => K (.bool !b)
    | none => False
  | .ptr _ _ _, .raw (.pointer none) =>
    match P.underlying t, isEq op with
    | some (.pointer _), some true => K (.bool false)
    | some (.pointer _), some false => K (.bool true)
    | _, _ => False
  | .raw (.pointer none), .raw (.pointer none) =>
    match P.underlying t, isEq op with
    | some (.pointer _), some true => K (.bool true)
    | some (.pointer _), some false => K (.bool false)
    | _, _ => False
  | _, _ => False
def unK (op : UnOp) (x : AV) (K : AV → Prop) : Prop :=
  match op, x with
  | .neg, .int k n => NV (k.wrap (0 - n)) fun r => K (.int k r)
  | .not, .bool b => K (.bool !b)
  | _, _ => False

/-- What is read alone. -/
def heapK : List Blk → (Heap → Prop) → Prop
  | [], _ => False
  | b :: m, K => match b.kind with
    | .heap F => K F
    | _ => heapK m K
/-- The cells of a slice that is read. -/
def elemsK (m : List Blk) (sz : Nat) (x : AV) (K : List AV → Prop) : Prop :=
  match x with
  | .raw (.slice none 0 0) => K []
  | .sl i v n => blkK m i fun k => match k.kind with
    | .row v' _ sz' n' => NH (v' = v ∧ sz' = sz ∧ n' = n) (K k.cs)
    | .ro v' sz' n' => NH (v' = v ∧ sz' = sz ∧ n' = n) (K k.cs)
    | _ => False
  | .view i v sz1 lo hi => blkK m i fun k => match k.kind with
    | .row v' _ sz' n' => NH (v' = v ∧ sz' = sz ∧ sz1 = sz ∧ lo ≤ hi ∧ hi ≤ n') (K ((k.cs.drop (lo * sz)).take ((hi - lo) * sz)))
    | .ro v' sz' n' => NH (v' = v ∧ sz' = sz ∧ sz1 = sz ∧ lo ≤ hi ∧ hi ≤ n') (K ((k.cs.drop (lo * sz)).take ((hi - lo) * sz)))
    | _ => False
  | .hs v n => heapK m fun F => NH (SlOk v n ∧ 0 < sz) (NRd F (addrOf v) (n * sz) K)
  | _ => False
def lenSl : AV → Option Nat
  | .raw (.slice none 0 0) => some 0
  | .sl _ _ n => some n
  | .view _ _ _ lo hi => some (hi - lo)
  | .hs _ n => some n
  | _ => none

/-- A slice's length. -/
def chkK (m : List Blk) (x : AV) (K : Nat → Prop) : Prop :=
  match x with
  | .raw (.slice none 0 0) => K 0
  | .sl i v n => blkK m i fun b => match b.kind with
    | .row v' _ _ n' => NH (v' = v ∧ n' = n) (K n)
    | .ro v' _ n' => NH (v' = v ∧ n' = n) (K n)
    | _ => False
  | .view i v _ lo hi => blkK m i fun b => match b.kind with
    | .row v' _ _ n' => NH (v' = v ∧ lo ≤ hi ∧ hi ≤ n') (K (hi - lo))
    | .ro v' _ n' => NH (v' = v ∧ lo ≤ hi ∧ hi ≤ n') (K (hi - lo))
    | _ => False
  | .hs v n => NH (SlOk v n) (K n)
  | _ => False

def convK (P : Program) (m : List Blk) (src dst : TypeId) (x : AV) (K : AV → Prop) : Prop :=
  match P.underlying src, P.underlying dst with
  | some _, some (.int k) => match x with
    | .int _ n => NV (k.wrap n) fun r => K (.int k r)
    | _ => False
  | some .string, some .string => match x with
    | .str s => K (.str s)
    | _ => False
  | some (.slice e), some .string => match P.underlying e with
    | some (.int .u8) => elemsK m 1 x fun cs => NBytes cs fun l => K (.str l)
    | _ => False
  | _, _ => False

def intOfK (x : AV) (K : Int → Prop) : Prop :=
  match x with
  | .int _ n => K n
  | _ => False
/-- A text's part, or a slice's. -/
def sliceK (P : Program) (m : List Blk) (t : TypeId) (x : AV) (lo hi : Option AV) (K : AV → Prop) : Prop :=
  match P.underlying t, x with
  | some .string, .str s =>
    match lo, hi with
    | none, none => K (.str s)
    | some l, none => intOfK l fun l => NH (0 ≤ l ∧ l ≤ s.length) (NN l.toNat fun l => NS (s.drop l) fun r => K (.str r))
    | none, some h => intOfK h fun h => NH (0 ≤ h ∧ h ≤ s.length) (NN h.toNat fun h => NS (s.take h) fun r => K (.str r))
    | some l, some h => intOfK l fun l => intOfK h fun h => NH (0 ≤ l ∧ l ≤ h ∧ h ≤ s.length) (NN l.toNat fun l => NN h.toNat fun h => NS ((s.drop l).take (h - l)) fun r => K (.str r))
  | some (.slice e), .sl i v n =>
    match szT P e with
    | some sz =>
      chkK m (.sl i v n) fun n =>
      match lo, hi with
      | none, none => K (.view i v sz 0 n)
      | some l, none => intOfK l fun l => NH (0 ≤ l ∧ l ≤ n) (NN l.toNat fun l => K (.view i v sz l n))
      | none, some h => intOfK h fun h => NH (0 ≤ h ∧ h ≤ n) (NN h.toNat fun h => K (.view i v sz 0 h))
      | some l, some h => intOfK l fun l => intOfK h fun h => NH (0 ≤ l ∧ l ≤ h ∧ h ≤ n) (NN l.toNat fun l => NN h.toNat fun h => K (.view i v sz l h))
    | none => False
  | some (.slice e), .hs v n =>
    match szT P e with
    | some sz =>
      NH (SlOk v n) (
      match lo, hi with
      | none, none => K (.hs (cutSl v sz 0 n) (n - 0))
      | some l, none => intOfK l fun l => NH (0 ≤ l ∧ l ≤ n) (NN l.toNat fun l => K (.hs (cutSl v sz l n) (n - l)))
      | none, some h => intOfK h fun h => NH (0 ≤ h ∧ h ≤ n) (NN h.toNat fun h => K (.hs (cutSl v sz 0 h) (h - 0)))
      | some l, some h => intOfK l fun l => intOfK h fun h => NH (0 ≤ l ∧ l ≤ h ∧ h ≤ n) (NN l.toNat fun l => NN h.toNat fun h => K (.hs (cutSl v sz l h) (h - l))))
    | none => False
  | some (.array n e), .ptr _ a off =>
    match szT P e, lo, hi with
    | some _, none, none => K (.raw (.slice (some (a.add off)) n n))
    | _, _, _ => False
  | _, _ => False

def indexAddrK (P : Program) (m : List Blk) (t : TypeId) (x : AV) (n : Int) (K : AV → Prop) : Prop :=
  match P.underlying t with
  | some (.array len e) =>
    match x, szT P e with
    | .ptr j a off, some sz => NH (0 ≤ n ∧ n < len) (NN n.toNat fun k => NN (off + k * sz) fun o => K (.ptr j a o))
    | .hp a off, some sz => NH (0 ≤ n ∧ n < len) (NN n.toNat fun k => NN (off + k * sz) fun o => K (.hp a o))
    | _, _ => False
  | some (.slice e) =>
    match szT P e with
    | some sz =>
      match x with
      | .sl j v c => blkK m j fun b => match b.kind with
        | .row v' _ sz' c' => NH (v' = v ∧ sz' = sz ∧ c' = c ∧ 0 ≤ n ∧ n < c) (NN n.toNat fun k => NN (k * sz) fun o => K (.ptr j b.a o))
        | .ro v' sz' c' => NH (v' = v ∧ sz' = sz ∧ c' = c ∧ 0 ≤ n ∧ n < c) (NN n.toNat fun k => NN (k * sz) fun o => K (.ptr j b.a o))
        | _ => False
      | .view j v sz1 lo hi => blkK m j fun b => match b.kind with
        | .row v' _ sz' c' => NH (v' = v ∧ sz' = sz ∧ sz1 = sz ∧ lo ≤ hi ∧ hi ≤ c' ∧ 0 ≤ n ∧ n < (hi - lo : Nat)) (NN n.toNat fun k => NN ((lo + k) * sz) fun o => K (.ptr j b.a o))
        | .ro v' sz' c' => NH (v' = v ∧ sz' = sz ∧ sz1 = sz ∧ lo ≤ hi ∧ hi ≤ c' ∧ 0 ≤ n ∧ n < (hi - lo : Nat)) (NN n.toNat fun k => NN ((lo + k) * sz) fun o => K (.ptr j b.a o))
        | _ => False
      | .hs v c => NH (SlOk v c ∧ 0 ≤ n ∧ n < c) (NN n.toNat fun k => NN (k * sz) fun o => K (.hp (addrOf v) o))
      | _ => False
    | none => False
  | _ => False
def indexK (P : Program) (t : TypeId) (x : AV) (n : Int) (K : AV → Prop) : Prop :=
  match P.underlying t with
  | some .string => match x with
    | .str s => NH (0 ≤ n ∧ n < s.length) (NN n.toNat fun k => K (.int .u8 (s.getD k 0).toNat))
    | _ => False
  | some (.array len e) =>
    match x, szT P e with
    | .agg cs, some sz => NH (0 ≤ n ∧ n < len) (NN n.toNat fun k => NN (k * sz) fun o => partK P e cs o K)
    | _, _ => False
  | _ => False
def fieldAddrK (P : Program) (s : TypeId) (x : AV) (f : Nat) (K : AV → Prop) : Prop :=
  match P.underlying s with
  | some (.struct fs) =>
    match fs[f]? with
    | some fd =>
      match x, szT P fd.type, litO fd.offset with
      | .ptr j a off, some (_ + 1), some o => NN (off + o) fun o => K (.ptr j a o)
      | .hp a off, some (_ + 1), some o => NN (off + o) fun o => K (.hp a o)
      | _, _, _ => False
    | none => False
  | _ => False
def fieldK (P : Program) (s : TypeId) (x : AV) (f : Nat) (K : AV → Prop) : Prop :=
  match P.underlying s with
  | some (.struct fs) =>
    match fs[f]? with
    | some fd =>
      match x with
      | .agg cs => partK P fd.type cs fd.offset K
      | _ => False
    | none => False
  | _ => False
def addK (o n : Nat) (K : Nat → Prop) : Prop :=
  match n with
  | 0 => K o
  | 1 => K (o + 1)
  | 2 => K (o + 2)
  | 3 => K (o + 3)
  | 4 => K (o + 4)
  | 5 => K (o + 5)
  | 6 => K (o + 6)
  | 7 => K (o + 7)
  | 8 => K (o + 8)
  | 9 => K (o + 9)
  | 10 => K (o + 10)
  | 11 => K (o + 11)
  | 12 => K (o + 12)
  | 13 => K (o + 13)
  | 14 => K (o + 14)
  | 15 => K (o + 15)
  | 16 => K (o + 16)
  | 17 => K (o + 17)
  | 18 => K (o + 18)
  | 19 => K (o + 19)
  | 20 => K (o + 20)
  | 21 => K (o + 21)
  | 22 => K (o + 22)
  | 23 => K (o + 23)
  | n => K (o + n)
def seqO (n : Nat) : List Nat :=
  match n with
  | 0 => []
  | 1 => [0]
  | 2 => [0, 1]
  | 3 => [0, 1, 2]
  | 4 => [0, 1, 2, 3]
  | 5 => [0, 1, 2, 3, 4]
  | 6 => [0, 1, 2, 3, 4, 5]
  | 7 => [0, 1, 2, 3, 4, 5, 6]
  | 8 => [0, 1, 2, 3, 4, 5, 6, 7]
  | 9 => [0, 1, 2, 3, 4, 5, 6, 7, 8]
  | 10 => [0, 1, 2, 3, 4, 5, 6, 7, 8, 9]
  | 11 => [0, 1, 2, 3, 4, 5, 6, 7, 8, 9, 10]
  | 12 => [0, 1, 2, 3, 4, 5, 6, 7, 8, 9, 10, 11]
  | 13 => [0, 1, 2, 3, 4, 5, 6, 7, 8, 9, 10, 11, 12]
  | 14 => [0, 1, 2, 3, 4, 5, 6, 7, 8, 9, 10, 11, 12, 13]
  | 15 => [0, 1, 2, 3, 4, 5, 6, 7, 8, 9, 10, 11, 12, 13, 14]
  | 16 => [0, 1, 2, 3, 4, 5, 6, 7, 8, 9, 10, 11, 12, 13, 14, 15]
  | 17 => [0, 1, 2, 3, 4, 5, 6, 7, 8, 9, 10, 11, 12, 13, 14, 15, 16]
  | 18 => [0, 1, 2, 3, 4, 5, 6, 7, 8, 9, 10, 11, 12, 13, 14, 15, 16, 17]
  | 19 => [0, 1, 2, 3, 4, 5, 6, 7, 8, 9, 10, 11, 12, 13, 14, 15, 16, 17, 18]
  | 20 => [0, 1, 2, 3, 4, 5, 6, 7, 8, 9, 10, 11, 12, 13, 14, 15, 16, 17, 18, 19]
  | 21 => [0, 1, 2, 3, 4, 5, 6, 7, 8, 9, 10, 11, 12, 13, 14, 15, 16, 17, 18, 19, 20]
  | 22 => [0, 1, 2, 3, 4, 5, 6, 7, 8, 9, 10, 11, 12, 13, 14, 15, 16, 17, 18, 19, 20, 21]
  | 23 => [0, 1, 2, 3, 4, 5, 6, 7, 8, 9, 10, 11, 12, 13, 14, 15, 16, 17, 18, 19, 20, 21, 22]
  | n => List.range n
/-- Cells of what is read alone, one by one. -/
def ldsK (F : Heap) (a : Addr) (off : Nat) : List Nat → (List AV → Prop) → Prop
  | [], K => K []
  | i :: is, K => addK off i fun o => NLd F (a.add o) fun u => cellHK u fun x => ldsK F a off is fun us => K (x :: us)
/-- The cells from an address on. -/
def loadK (P : Program) (m : List Blk) (t : TypeId) (x : AV) (K : AV → Prop) : Prop :=
  match x with
  | .ptr j a off => blkK m j fun b => NH (b.a = a) (partK P t b.cs off K)
  | .hp a off => heapK m fun F => match aggT P t, szT P t with
    | some true, some s => ldsK F a off (seqO s) fun xs => K (.agg xs)
    | some false, _ => NLd F (a.add off) fun u => cellHK u K
    | _, _ => False
  | _ => False
def zeroT (P : Program) (t : TypeId) : Option AV :=
  match P.info? t with
  | some i => match i.zero with
    | some v => some (ofVal v)
    | none => none
  | none => none
/-- How many blocks there are, as a numeral. -/
def lenLK : List Blk → List Nat → (Nat → Prop) → Prop
  | [], n :: _, K => K n
  | _ :: m, _ :: ns, K => lenLK m ns K
  | _, [], _ => False
def lits : List Nat := [0, 1, 2, 3, 4, 5, 6, 7, 8, 9, 10, 11, 12, 13, 14, 15, 16, 17, 18, 19, 20, 21, 22, 23, 24, 25, 26, 27, 28, 29, 30, 31, 32, 33, 34, 35, 36, 37, 38, 39, 40]
/-- A cell, reckoned. -/
def cellFK (x : AV) (K : AV → Prop) : Prop :=
  match x with
  | .int k n => K (.int k n)
  | .bool b => K (.bool b)
  | .str s => K (.str s)
  | .ptr i a off => K (.ptr i a off)
  | .raw v => K (.raw v)
  | x => K x
/-- Cells, reckoned. -/
def forceK : List AV → (List AV → Prop) → Prop
  | [], K => K []
  | x :: xs, K => cellFK x fun y => forceK xs fun ys => K (y :: ys)
def boxK (x : AV) (K : List AV → Prop) : Prop :=
  match x with
  | .agg cs => K cs
  | .raw (.agg cs) => K (cs.toList.map .raw)
  | v => K [v]
/-- Parts laid into cells. -/
def fillK (place : Nat → Option (Nat × Nat)) (sl : List AV) (cells : List AV) : List (Nat × Operand) → (List AV → Prop) → Prop
  | [], k => k cells
  | (i, o) :: rest, k => evK sl o fun x =>
    match place i with
    | some (off, size) =>
      match Nat.decEq x.cells.length size with
      | .isTrue _ => putK cells off x.cells fun cells => fillK place sl cells rest k
      | .isFalse _ => False
    | none => False
def nthP : List (Nat × Nat) → Nat → Option (Nat × Nat)
  | [], _ => none
  | x :: _, 0 => some x
  | _ :: xs, n + 1 => nthP xs n
def placesT (P : Program) : List Field → Option (List (Nat × Nat))
  | [] => some []
  | f :: fs => match szT P f.type, placesT P fs with
    | some s, some ps => some ((f.offset, s) :: ps)
    | _, _ => none
def buildK (P : Program) (sl : List AV) (t : TypeId) (parts : List (Nat × Operand)) (K : AV → Prop) : Prop :=
  match zeroT P t, P.underlying t with
  | some z, some (.struct fs) =>
    match placesT P fs.toList with
    | some ps => boxK z fun zs => forceK zs fun zs => fillK (nthP ps) sl zs parts fun cs => K (.agg cs)
    | none => False
  | some z, some (.array _ e) =>
    match szT P e with
    | some s => boxK z fun zs => forceK zs fun zs => fillK (fun i => some (i * s, s)) sl zs parts fun cs => K (.agg cs)
    | none => False
  | _, _ => False
def lenK (P : Program) (m : List Blk) (t : TypeId) (x : AV) (K : AV → Prop) : Prop :=
  match P.underlying t with
  | some .string => match x with
    | .str s => K (.int .i64 s.length)
    | _ => False
  | some (.array n _) => K (.int .i64 n)
  | some (.slice _) => chkK m x fun n => K (.int .i64 n)
  | _ => False
def maxK (isMax : Bool) : AV → List AV → (AV → Prop) → Prop
  | x, [], K => K x
  | .int k x, .int _ y :: rest, K =>
    match isMax with
    | true => NV (max x y) fun r => maxK isMax (.int k r) rest K
    | false => NV (min x y) fun r => maxK isMax (.int k r) rest K
  | _, _, _ => False

/-- Operations that make no memory and write none. -/
def opV (P : Program) (sl : List AV) (m : List Blk) (op : Op) (K : AV → Prop) : Prop :=
  match op with
  | .move x => evK sl x K
  | .assign x => evK sl x K
  | .pick c a b => evK sl c fun x => match x with
    | .bool t => NIf t (evK sl a K) (evK sl b K)
    | _ => False
  | .binOp op t x y _ =>
    match constShift op y with
    | some n => evK sl x fun a => shiftC op a n K
    | none => evK sl x fun a => evK sl y fun b => binK P op t a b K
  | .unOp op _ x => evK sl x fun a => unK op a K
  | .convert src dst x => evK sl x fun a => convK P m src dst a K
  | .slice t x lo hi none => evK sl x fun a =>
    match lo, hi with
    | none, none => sliceK P m t a none none K
    | some l, none => evK sl l fun l => sliceK P m t a (some l) none K
    | none, some h => evK sl h fun h => sliceK P m t a none (some h) K
    | some l, some h => evK sl l fun l => evK sl h fun h => sliceK P m t a (some l) (some h) K
  | .fieldAddr s x f => evK sl x fun a => fieldAddrK P s a f K
  | .field s x f => evK sl x fun a => fieldK P s a f K
  | .indexAddr t x i => evK sl x fun a => evK sl i fun b => intOfK b fun n => indexAddrK P m t a n K
  | .index t x i => evK sl x fun a => evK sl i fun b => intOfK b fun n => indexK P t a n K
  | .extract x i => evK sl x fun a => match a with
    | .tup vs => nthK vs i K
    | _ => False
  | .load t x => evK sl x fun a => loadK P m t a K
  | .nilCheck x => evK sl x fun a => match a with
    | .ptr j b off => K (.ptr j b off)
    | .hp a off => K (.hp a off)
    | _ => False
  | .build t parts => buildK P sl t parts.toList K
  | .makeFunc (.func f) first captured => evLK sl first.toList fun xs => evLK sl captured.toList fun ys => K (.fn f xs ys)
  | .call c =>
    match c.callee with
    | .builtin .len => match c.args.toList, c.argTypes.toList with
      | [x], [t] => evK sl x fun a => lenK P m t a K
      | _, _ => False
    | .builtin .max => evLK sl c.args.toList fun xs => match xs with
      | x :: xs => maxK true x xs K
      | [] => False
    | .builtin .min => evLK sl c.args.toList fun xs => match xs with
      | x :: xs => maxK false x xs K
      | [] => False
    | _ => False
  | _ => False

/-- Values of one cell. -/
def ones : List AV → Bool
  | [] => true
  | x :: xs => match x with
    | .agg _ => false
    | .tup _ => false
    | .any => false
    | .raw v => v.oneCell' && ones xs
    | _ => ones xs
def appK : List Blk → Blk → (List Blk → Prop) → Prop
  | [], b, k => k [b]
  | x :: xs, b, k => appK xs b fun ys => k (x :: ys)
def repCells (z : List AV) : Nat → List AV
  | 0 => []
  | n + 1 => z ++ repCells z n

def storeK (P : Program) (m : List Blk) (t : TypeId) (p v : AV) (K : List Blk → Prop) : Prop :=
  match p, szT P t with
  | .ptr j a off, some sz => blkK m j fun b =>
    match b with
    | ⟨a', bcs, .var t'⟩ => boxK v fun vcs => NH (a' = a ∧ vcs.length = sz ∧ ones vcs = true) (putK bcs off vcs fun cs => setBlkK m j ⟨a', cs, .var t'⟩ K)
    | ⟨a', bcs, .row v' t' sz' n'⟩ => boxK v fun vcs => NH (a' = a ∧ vcs.length = sz ∧ ones vcs = true) (putK bcs off vcs fun cs => setBlkK m j ⟨a', cs, .row v' t' sz' n'⟩ K)
    | _ => False
  | _, _ => False

def appendK (P : Program) (m : List Blk) (t : TypeId) (s x : AV) (K : AV → List Blk → Prop) : Prop :=
  match P.underlying t with
  | some (.slice e) =>
    match szT P e, bytesT P e, zeroT P e, lenSl x with
    | some sz, some by_, some z, some c =>
      match s with
      | .sl i v n => blkK m i fun b => match b.kind with
        | .row v' e' sz' n' =>
          elemsK m sz x fun news => NH (v' = v ∧ e' = e ∧ sz' = sz ∧ n' = n ∧ 0 < sz ∧ ones news = true ∧ z.cells.length = sz ∧ (n + c) * by_ ≤ 140737488355328 ∧ n + c ≤ 9223372036854775807)
            (∀ v2, setBlkK m i ⟨addrOf v2, b.cs ++ news, .row v2 e sz (n + c)⟩ fun m' => K (.sl i v2 (n + c)) m')
        | _ => False
      | .raw (.slice none 0 0) =>
          elemsK m sz x fun news => NH (0 < sz ∧ ones news = true ∧ z.cells.length = sz ∧ c * by_ ≤ 140737488355328 ∧ c ≤ 9223372036854775807)
            (lenLK m lits fun ln => ∀ v2, appK m ⟨addrOf v2, news, .row v2 e sz c⟩ fun m' => K (.sl ln v2 c) m')
      | _ => False
    | _, _, _, _ => False
  | _ => False

def allocK (m : List Blk) (t : TypeId) (cs : List AV) (K : AV → List Blk → Prop) : Prop :=
  lenLK m lits fun ln => ∀ b, appK m ⟨⟨b, 0, none⟩, cs, .var t⟩ fun m' => K (.ptr ln ⟨b, 0, none⟩ 0) m'

/-- All operations. -/
def opM (P : Program) (sl : List AV) (m : List Blk) (op : Op) (K : AV → List Blk → Prop) : Prop :=
  match op with
  | .alloc t => match zeroT P t with
    | some z => boxK z fun cs => forceK cs fun cs => allocK m t cs K
    | none => False
  | .box t x => evK sl x fun a => boxK a fun cs => allocK m t cs K
  | .store t p x => evK sl p fun a => evK sl x fun v => storeK P m t a v fun m' => K (.raw undef) m'
  | .buildSlice t len parts =>
    match P.underlying t with
    | some (.slice e) =>
      match zeroT P e, szT P e with
      | some z, some s => NH (len ≤ 16777216 ∧ len * s ≤ 16777216 ∧ z.cells.length = s)
        (fillK (fun i => some (i * s, s)) sl (repCells z.cells len) parts.toList fun cs =>
          lenLK m lits fun ln => ∀ b, appK m ⟨⟨b, 0, none⟩, cs, .row (.slice (some ⟨b, 0, none⟩) len len) e s len⟩ fun m' => K (.sl ln (.slice (some ⟨b, 0, none⟩) len len) len) m')
      | _, _ => False
    | _ => False
  | .makeSlice t l c => evK sl l fun l => evK sl c fun c => intOfK l fun l => intOfK c fun c =>
    match P.underlying t with
    | some (.slice e) =>
      match zeroT P e, szT P e, bytesT P e with
      | some z, some s, some by_ => NH (0 ≤ l ∧ l = c ∧ c * by_ ≤ 140737488355328 ∧ c ≤ 9223372036854775807 ∧ z.cells.length = s) (NN l.toNat fun l => lenLK m lits fun ln =>
          ∀ b, appK m ⟨⟨b, 0, none⟩, repCells z.cells l, .row (.slice (some ⟨b, 0, none⟩) l c.toNat) e s l⟩ fun m' => K (.sl ln (.slice (some ⟨b, 0, none⟩) l c.toNat) l) m')
      | _, _, _ => False
    | _ => False
  | .call c =>
    match c.callee with
    | .builtin .append => match c.args.toList, c.argTypes.toList with
      | [s, x], [t, t'] => match Nat.decEq t t' with
        | .isTrue _ => evK sl s fun s => evK sl x fun x => appendK P m t s x K
        | .isFalse _ => False
      | _, _ => False
    | .builtin .clear => match c.args.toList, c.argTypes.toList with
      | [x], [t] => evK sl x fun x => NMap P (Builtin.clear_ #[t] 0 #[x.den]) m K
      | _, _ => False
    | .builtin .delete => match c.args.toList, c.argTypes.toList with
      | [x, y], [t, t'] => evK sl x fun x => evK sl y fun y => NMap P (Builtin.delete_ #[t, t'] 0 #[x.den, y.den]) m K
      | _, _ => False
    | .builtin .copy => match c.args.toList, c.argTypes.toList with
      | [x, y], [t, t'] => evK sl x fun x => evK sl y fun y => NMap P (Builtin.copy_ #[t, t'] 0 #[x.den, y.den]) m K
      | _, _ => False
    | .value f => evK sl f fun f => match f with
      | .fn g first captured => evLK sl c.args.toList fun xs => NCall P g (first ++ xs ++ captured) m K
      | _ => False
    | _ => opV P sl m op fun v => K v m
  | .makeMap t none => NMap P (Instr.makeMap t none) m K
  | .lookup t x i ok => evK sl x fun x => evK sl i fun i => NMap P (Instr.lookup t x.den i.den ok) m K
  | .mapUpdate t x k v => evK sl x fun x => evK sl k fun k => evK sl v fun v => NMap P (do Instr.mapUpdate t x.den k.den v.den; pure undef) m fun _ m => K (.raw undef) m
  | .insert t x k v => evK sl x fun x => evK sl k fun k => evK sl v fun v => NMap P (do Instr.mapUpdate t x.den k.den v.den; pure undef) m fun _ m => K (.raw undef) m
  | .mapEntry t x k => evK sl x fun x => evK sl k fun k => NMap P (Instr.mapEntry t x.den k.den) m K
  | .entryStore t x s v => evK sl x fun x => evK sl s fun s => evK sl v fun v => NMap P (do Instr.entryStore t x.den s.den v.den; pure undef) m fun _ m => K (.raw undef) m
  | .range t x => evK sl x fun x => NMap P (Instr.range t x.den) m K
  | .next it str => evK sl it fun x => NMap P (Instr.next x.den str 0) m K
  | .entry it => evK sl it fun x => NMap P (Instr.entry x.den) m K
  | op => opV P sl m op fun v => K v m

/-- The slot of the operation that a guard names. -/
def guardK (ops : Array Oper) (sl : List AV) (j : Nat) (want : Bool) (yes no : Prop) : Prop :=
  match ops[j]? with
  | some o => match o.dst with
    | some d => getK sl d fun x => match x with
      | .bool b => match want with
        | true => NIf b yes no
        | false => NIf b no yes
      | .raw (.tuple _) => no
      | _ => False
    | none => False
  | none => False

def dstK (sl : List AV) (d : Option Tmp) (v : AV) (k : List AV → Prop) : Prop :=
  match d with
  | some d => setK sl d v k
  | none => k sl

def opsK (P : Program) (ops : Array Oper) : List Oper → List AV → List Blk → (List AV → List Blk → Prop) → Prop
  | [], sl, m, k => k sl m
  | o :: rest, sl, m, k =>
    match o.guard with
    | none => opM P sl m o.op fun v m' => dstK sl o.dst v fun sl' => opsK P ops rest sl' m' k
    | some (j, want) => guardK ops sl j want
      (opM P sl m o.op fun v m' => dstK sl o.dst v fun sl' => opsK P ops rest sl' m' k)
      (dstK sl o.dst (.raw undef) fun sl' => opsK P ops rest sl' m k)
def codeK (P : Program) : Code → List AV → List Blk → Post → Prop
  | .skip, sl, m, Q => Q .normal sl m
  | .region _ ops draw, sl, m, Q =>
    match draw with
    | false => opsK P ops ops.toList sl m fun sl m => Q .normal sl m
    | true => NDraw P ops sl m fun sl m => Q .normal sl m
  | .seq a b, sl, m, Q => codeK P a sl m fun e sl m => match e with
    | .normal => codeK P b sl m Q
    | e => Q e sl m
  | .cond c a b, sl, m, Q => evK sl c fun v => match v with
    | .bool x => NIf x (codeK P a sl m Q) (codeK P b sl m Q)
    | _ => False
  | .block id c, sl, m, Q => codeK P c sl m fun e sl m => match e with
    | .exit j => match Nat.decEq j id with
      | .isTrue _ => Q .normal sl m
      | .isFalse _ => Q (.exit j) sl m
    | e => Q e sl m
  | .loop c, sl, m, Q => NLoop (codeK P c) sl m Q
  | .exit id, sl, m, Q => Q (.exit id) sl m
  | .ret, sl, m, Q => Q .ret sl m
  | .scope c, sl, m, Q => codeK P c sl m fun e sl m => match e with
    | .goto _ => False
    | e => Q e sl m
  | .label _, sl, m, Q => Q .normal sl m
  | _, _, _, _ => False

/-- What a function hands back. -/
def resK (P : Program) (m : List Blk) (sl : List AV) : List ResultVar → (List AV → Prop) → Prop
  | [], k => k []
  | .tmp t :: rest, k => getK sl t fun x => resK P m sl rest fun xs => k (x :: xs)
  | .cell a t :: rest, k => getK sl a fun p => loadK P m t p fun x => resK P m sl rest fun xs => k (x :: xs)
def retAV : List AV → AV
  | [x] => x
  | xs => .tup xs
def retK (xs : List AV) (k : AV → Prop) : Prop :=
  match xs with
  | [] => k (.tup [])
  | [x] => k x
  | x :: y :: xs => k (.tup (x :: y :: xs))
def argK : List AV → Nat → (List AV → Prop) → Prop
  | [], 0, k => k []
  | [], n + 1, k => argK [] n fun ys => k (.any :: ys)
  | x :: xs, n + 1, k => argK xs n fun ys => k (x :: ys)
  | _ :: _, 0, _ => False
/-- A function's whole body. -/
def funcK (P : Program) (fn : Func) (args : List AV) (m : List Blk) (R : AV → List Blk → Prop) : Prop :=
  match fn.body with
  | some c => argK args fn.ntmps fun sl => codeK P c sl m fun e sl m' =>
    match e with
    | .normal => resK P m' sl fn.results.toList fun xs => retK xs fun r => R r m'
    | .ret => resK P m' sl fn.results.toList fun xs => retK xs fun r => R r m'
    | _ => False
  | none => False

end Go.Sx


