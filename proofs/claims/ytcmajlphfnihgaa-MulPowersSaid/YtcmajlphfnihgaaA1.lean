/- A shadow of the machine: values without addresses, rows that a call owns, and a function that runs a program's code over them. -/
import Derived.Orders
import Derived.Below
import Derived.Laws.Entries
set_option linter.unusedVariables false
set_option linter.unusedSimpArgs false
namespace Go.Proofs.YtcmajlphfnihgaaA
open Go

/-- A value as the shadow knows it. -/
inductive D where
  | top
  | bool (b : Bool)
  | int (k : IntKind) (n : Int)
  | str (s : ByteArray)
  | nilS
  | ints (k : IntKind) (xs : List Int)
  | list (sz : Nat) (xs : List D)
  | nilP
  | ptr (cs : List D)
  | agg (cs : List D)
  | tuple (vs : List D)
  | sref (b v sz off len : Nat)
  | pref (b v i off : Nat)
  | fn (f : FuncId) (first captured : List D)
  | nilF
  | nilI
  | nilM
  | lit (d : D)
  deriving Inhabited

/-- A row that was written out is a row. -/
def D.bare : D → D
  | .lit d => d
  | d => d

def D.cells : D → List D
  | .agg cs => cs
  | d => [d]
/-- What one cell may be told to hold. -/
def D.one : D → Bool
  | .top | .agg _ | .tuple _ => false
  | _ => true
/-- As many cells as an element has. -/
def D.wide (s : Nat) (d : D) : Prop := d.cells.length = s ∧ d.cells.all D.one = true
/-- No way leads from it to what a call owns. -/
def D.isT : Nat → D → Bool
  | _, .bool _ | _, .int _ _ | _, .str _ | _, .nilS | _, .ints _ _ | _, .list _ _ | _, .nilP | _, .ptr _ | _, .nilF | _, .nilI | _, .nilM | _, .top | _, .lit _ => true
  | n + 1, .agg cs => cs.all (D.isT n)
  | n + 1, .tuple cs => cs.all (D.isT n)
  | n + 1, .fn _ a c => a.all (D.isT n) && c.all (D.isT n)
  | _, _ => false
/-- Nothing of it lies in memory. -/
def D.flat : Nat → D → Bool
  | _, .bool _ | _, .int _ _ | _, .str _ | _, .nilI => true
  | n + 1, .agg cs => cs.all (D.flat n)
  | n + 1, .tuple cs => cs.all (D.flat n)
  | _, _ => false


inductive Body where
  | dead
  | ints (k : IntKind) (xs : List Int)
  | rows (sz : Nat) (xs : List D)
structure Blk where
  ver : Nat
  fz : Bool
  body : Body
abbrev Heap := List Blk
def noBlk : Blk := ⟨0, false, .dead⟩

def Heap.get (h : Heap) (b v : Nat) : Body :=
  match h[b]? with
  | some B => if B.ver = v then B.body else .dead
  | none => .dead

/-! ### types -/
section
variable (P : Program)
def aggB (t : TypeId) : Option Bool := (P.underlying t).map fun | .struct _ | .array _ _ => true | _ => false
def szOf (t : TypeId) : Option Nat := (P.info? t).map (·.size)
def bytesOf (t : TypeId) : Option Nat := (P.info? t).map (·.bytes)
def intK (t : TypeId) : Option IntKind := match P.underlying t with | some (.int k) => some k | _ => none

def ofV1 : Value → D
  | .bool b => .bool b
  | .int k n => .int k n
  | .string s => .str s
  | .pointer none => .nilP
  | .slice _ 0 0 => .nilS
  | .nilFunc => .nilF
  | .nilIface => .nilI
  | .map none => .nilM
  | .func (.func f) a c => if a.isEmpty && c.isEmpty then .fn f [] [] else .top
  | _ => .top
def ofV : Value → D
  | .agg cs => .agg (cs.toList.map ofV1)
  | .tuple cs => .tuple (cs.toList.map ofV1)
  | v => ofV1 v
def zeroD (t : TypeId) : Option D := (P.info? t).bind fun i => i.zero.map ofV

/-- The types of a type's cells. -/
def cellTypes : Nat → TypeId → List TypeId
  | 0, t => [t]
  | n + 1, t => match P.underlying t with
    | some (.struct fs) => fs.toList.flatMap fun f => cellTypes n f.type
    | _ => [t]
/-- A nil slice, as of a type. -/
def norm1 (t : TypeId) : D → D
  | .nilS => match P.underlying t with
    | some (.slice e) => match intK P e with
      | some k => .ints k []
      | none => match szOf P e with | some s => .list s [] | none => .nilS
    | _ => .nilS
  | .lit d => d
  | d => d
def norm (t : TypeId) : D → D
  | .agg cs => .agg ((cellTypes P 8 t).zipWith (norm1 P) cs ++ cs.drop (cellTypes P 8 t).length)
  | d => norm1 P t d
def normR (ts : List TypeId) : D → D
  | .tuple vs => .tuple (ts.zipWith (norm P) vs ++ vs.drop ts.length)
  | d => match ts with | [t] => norm P t d | _ => d
end

/-! ### reading -/
def ldCells (agg : Bool) (s : Nat) (cs : List D) : Option D :=
  if agg then (if s ≤ cs.length then some (.agg (cs.take s)) else none) else cs.head?
/-- The cells behind an address. -/
def cellsAt (h : Heap) : D → Option (List D)
  | .ptr cs => some cs
  | .pref b v i off => match h.get b v with
    | .ints k xs => if off = 0 then if i < xs.length then some [.int k (xs.getD i 0)] else none else none
    | .rows _ xs => (xs[i]?).map fun d => d.cells.drop off
    | .dead => none
  | _ => none
def ld (P : Program) (h : Heap) (t : TypeId) (p : D) : Option D :=
  (aggB P t).bind fun a => (szOf P t).bind fun s => (cellsAt h p).bind fun cs => ldCells a s cs

/-- What a value holds, as of now: no way leads from the answer to what the call owns. -/
def reify (h : Heap) : Nat → D → Option D
  | 0, d => if d.isT 0 then some d.bare else none
  | n + 1, .agg cs => (cs.mapM (reify h n)).map .agg
  | n + 1, .tuple cs => (cs.mapM (reify h n)).map .tuple
  | n + 1, .fn f a c => (a.mapM (reify h n)).bind fun a' => (c.mapM (reify h n)).map fun c' => .fn f a' c'
  | _ + 1, .sref b v sz off len => match h.get b v with
    | .ints k xs => if sz = 1 then if off + len ≤ xs.length then some (.ints k ((xs.drop off).take len)) else none else none
    | .rows s xs => if s = sz then if off + len ≤ xs.length then if ((xs.drop off).take len).all (fun d => d.cells.all (D.isT 2)) then some (.list sz ((xs.drop off).take len)) else none else none else none
    | .dead => none
  | n + 1, .pref b v i off => (cellsAt h (.pref b v i off)).bind fun cs => (cs.mapM (reify h n)).map .ptr
  | n + 1, .lit d => some d
  | n + 1, d => some d
/-- The rows that a value leads to. -/
def reach (h : Heap) : Nat → D → List Nat
  | 0, _ => []
  | n + 1, .agg cs => cs.flatMap (reach h n)
  | n + 1, .tuple cs => cs.flatMap (reach h n)
  | n + 1, .fn _ a c => a.flatMap (reach h n) ++ c.flatMap (reach h n)
  | _ + 1, .sref b _ _ _ _ => [b]
  | n + 1, .pref b v i off => b :: ((cellsAt h (.pref b v i off)).getD []).flatMap (reach h n)
  | _ + 1, _ => []
/-- The rows that values lead to are written no more. -/
def mark (h : Heap) (b : Nat) : Heap := h.modify b fun B => { B with fz := true }
def freeze (h : Heap) (l : List Nat) : Heap := l.foldl mark h
abbrev DEPTH : Nat := 5

/-! ### operations that touch no memory -/
def cmpD (op : BinOp) (x y : Int) : Option D :=
  match op with
  | .eql => some (.bool (decide (x = y)))
  | .neq => some (.bool (!decide (x = y)))
  | .lss => some (.bool (decide (x < y)))
  | .leq => some (.bool (decide (x ≤ y)))
  | .gtr => some (.bool (decide (y < x)))
  | .geq => some (.bool (decide (y ≤ x)))
  | _ => none
def strD (op : BinOp) (x y : ByteArray) : Option D :=
  match op with
  | .add => if x.size + y.size ≤ 9223372036854775807 then some (.str (x ++ y)) else none
  | .eql => some (.bool (decide (x = y)))
  | .neq => some (.bool (!decide (x = y)))
  | .lss => some (.bool (Op.bytesLess x.toList y.toList))
  | .gtr => some (.bool (!(Op.bytesLess x.toList y.toList || decide (x = y))))
  | .leq => some (.bool (Op.bytesLess x.toList y.toList || decide (x = y)))
  | .geq => some (.bool (!Op.bytesLess x.toList y.toList))
  | _ => none
def arithD (op : BinOp) (k : IntKind) (x y : Int) : Option D :=
  match op with
  | .add => some (.int k (k.wrap (x + y)))
  | .sub => some (.int k (k.wrap (x - y)))
  | .mul => some (.int k (k.wrap (x * y)))
  | .quo => if y = 0 then none else some (.int k (k.wrap (x.tdiv y)))
  | .rem => if y = 0 then none else some (.int k (x.tmod y))
  | .and => some (.int k (bits .and k x y))
  | .or => some (.int k (bits .or k x y))
  | .xor => some (.int k (bits .xor k x y))
  | .andNot => some (.int k (bits .andNot k x y))
  | .shl | .shr => none
  | op => cmpD op x y
def shiftD (op : BinOp) (k : IntKind) (x y : Int) : Option D :=
  match op with
  | .shl => if y < 0 then none else some (.int k (k.wrap (x * 2 ^ min y.toNat k.bits)))
  | .shr => if y < 0 then none else some (.int k (x / 2 ^ min y.toNat k.bits))
  | _ => none
def eqB (op : BinOp) (b : Bool) : Option D :=
  match op with
  | .eql => some (.bool b)
  | .neq => some (.bool (!b))
  | _ => none
def binD (op : BinOp) : D → D → Option D
  | .int k x, .int k' y => match op with
    | .shl | .shr => shiftD op k x y
    | _ => if k = k' then arithD op k x y else none
  | .str x, .str y => strD op x y
  | _, _ => none
/-- What is told by its type: bools, pointers and nil. -/
def eqD (op : BinOp) : TypeDesc → D → D → Option D
  | .bool, .bool x, .bool y => eqB op (x == y)
  | .pointer _, .nilP, .nilP => eqB op true
  | .pointer _, .nilP, .pref _ _ _ _ | .pointer _, .nilP, .ptr _ | .pointer _, .pref _ _ _ _, .nilP | .pointer _, .ptr _, .nilP => eqB op false
  | _, _, _ => none
def unD (op : UnOp) : D → Option D
  | .int k n => match op with
    | .neg => some (.int k (k.wrap (0 - n)))
    | .xor => some (.int k (bits .xor k (if k.signed then -1 else k.max) n))
    | _ => none
  | .bool b => match op with | .not => some (.bool (!b)) | _ => none
  | _ => none
def convD (P : Program) (src dst : TypeId) (x : D) : Option D :=
  match P.underlying src, P.underlying dst, x with
  | some (.int _), some (.int k), .int _ n => some (.int k (k.wrap n))
  | some .string, some .string, .str s => some (.str s)
  | _, _, _ => none
def upd (cs : List D) (off : Nat) (vs : List D) : List D := cs.take off ++ vs ++ cs.drop (off + vs.length)
def buildD (P : Program) (fs : List Field) : List (Nat × D) → List D → Option (List D)
  | [], cs => some cs
  | (i, v) :: rest, cs => (fs[i]?).bind fun f => (szOf P f.type).bind fun s =>
    if v.cells.length = s ∧ f.offset + s ≤ cs.length ∧ v.cells.all D.one then buildD P fs rest (upd cs f.offset v.cells) else none
def buildS (s : Nat) : List (Nat × D) → List D → Option (List D)
  | [], l => some l
  | p :: parts, l => if p.1 < l.length ∧ p.2.cells.length = s ∧ p.2.cells.all D.one then buildS s parts (l.set p.1 p.2) else none
def asInts (k : IntKind) : List D → Option (List Int)
  | [] => some []
  | .int k' n :: l => if k = k' then (asInts k l).map (n :: ·) else none
  | _ => none
def offOf (P : Program) (s : TypeId) (f : Nat) : Option Nat :=
  match P.underlying s with
  | some (.struct fs) => (fs[f]?).bind fun x => (szOf P x.type).bind fun z => if z = 0 then none else some x.offset
  | _ => none
def elemOf? (P : Program) (t : TypeId) : Option TypeId := match P.underlying t with | some (.slice e) => some e | _ => none
def indexD (P : Program) (t : TypeId) (x ix : D) : Option D :=
  (elemOf? P t).bind fun e => (szOf P e).bind fun s => match ix with
    | .int _ i => if 0 ≤ i then match x.bare with
      | .ints k xs => if s = 1 then if i < (xs.length : Int) then some (.ptr [.int k (xs.getD i.toNat 0)]) else none else none
      | .list sz xs => if s = sz then (xs[i.toNat]?).map fun d => .ptr d.cells else none
      | .sref b v sz off len => if s = sz then if i < (len : Int) then some (.pref b v (off + i.toNat) 0) else none else none
      | _ => none
      else none
    | _ => none
def boundD (o : Option D) (dflt most : Nat) : Option Nat :=
  match o with
  | none => some dflt
  | some (.int _ i) => if 0 ≤ i then if i ≤ (most : Int) then some i.toNat else none else none
  | _ => none
def sliceD (P : Program) (t : TypeId) (x : D) (lo hi mx : Option D) : Option D :=
  match mx with
  | some _ => none
  | none => match x.bare with
    | .str s => match P.underlying t with
      | some .string => (boundD hi s.size s.size).bind fun h => (boundD lo 0 h).map fun l => .str (s.extract l h)
      | _ => none
    | .ints k xs => (boundD hi xs.length xs.length).bind fun h => (boundD lo 0 h).bind fun l => (elemOf? P t).bind fun e => (szOf P e).bind fun s => if s = 1 then some (.ints k ((xs.take h).drop l)) else none
    | .list sz xs => (boundD hi xs.length xs.length).bind fun h => (boundD lo 0 h).bind fun l => (elemOf? P t).bind fun e => (szOf P e).bind fun s => if s = sz then some (.list sz ((xs.take h).drop l)) else none
    | .sref b v sz off len => (boundD hi len len).bind fun h => (boundD lo 0 h).bind fun l => (elemOf? P t).bind fun e => (szOf P e).bind fun s => if s = sz then some (.sref b v sz (off + l) (h - l)) else none
    | .nilS => (boundD hi 0 0).bind fun h => (boundD lo 0 h).bind fun _ => (elemOf? P t).bind fun e => (szOf P e).map fun _ => .nilS
    | _ => none
def lenD (P : Program) (t : TypeId) (d : D) : Option Nat :=
  match P.underlying t with
  | some .string => match d with | .str s => some s.size | _ => none
  | some (.slice _) => match d.bare with
    | .nilS => some 0
    | .ints _ xs => some xs.length
    | .list _ xs => some xs.length
    | .sref _ _ _ _ len => some len
    | _ => none
  | _ => none
def minD : D → List D → Option D
  | d, [] => match d with | .int _ _ => some d | _ => none
  | .int k x, .int k' y :: l => if k = k' then minD (.int k (if y < x then y else x)) l else none
  | _, _ => none
def maxD : D → List D → Option D
  | d, [] => match d with | .int _ _ => some d | _ => none
  | .int k x, .int k' y :: l => if k = k' then maxD (.int k (if y > x then y else x)) l else none
  | _, _ => none
def bytesD (xs : List Int) : ByteArray := ⟨(xs.map fun n => UInt8.ofNat n.toNat).toArray⟩

/-! ### the classes of operations -/
inductive Cls where
  | P | R | A | W
  deriving DecidableEq

structure Cx where
  P : Program
  shared : FuncId → Bool
  plan : FuncId → Nat → List (Nat × List Nat)
  ok : FuncId → Bool

def cls (C : Cx) (draw : Bool) (o : Oper) : Cls :=
  match o.op with
  | .move _ | .assign _ | .pick .. | .build .. | .buildSlice .. | .nilCheck _ | .binOp .. | .unOp .. | .makeFunc .. | .fieldAddr .. | .field .. | .indexAddr .. | .index .. | .extract .. | .slice .. => .P
  | .convert src dst _ => match C.P.underlying dst with
    | some .string => match C.P.underlying src with | some .string => .P | _ => .R
    | some (.slice _) => .P
    | _ => .P
  | .load .. => .R
  | .alloc _ | .box .. | .makeSlice .. => .A
  | .call c => match c.callee with
    | .builtin .len | .builtin .min | .builtin .max => .P
    | .value (.func f) => if C.shared f then .W else if draw then .R else .W
    | .value _ => if draw then .R else .W
    | _ => .W
  | _ => .W

/-- A machine-less reading of operands. -/
abbrev Env := Operand → D

def opP (C : Cx) (o : Oper) (ρ : Env) : Option D :=
  match o.op with
  | .move x | .assign x => some (ρ x)
  | .pick c a b => match ρ c with | .bool t => some (if t then ρ a else ρ b) | _ => none
  | .build t parts => match C.P.underlying t with
    | some (.struct fs) => match zeroD C.P t with
      | some (.agg z) => if fs.toList.all (fun f => (szOf C.P f.type).isSome) then (buildD C.P fs.toList (parts.toList.map fun p => (p.1, ρ p.2)) z).map .agg else none
      | _ => none
    | _ => none
  | .buildSlice t len parts => (elemOf? C.P t).bind fun e => (szOf C.P e).bind fun s => if len ≤ 4096 then if len = 0 then (if parts.toList.isEmpty then some .nilS else none) else
      (zeroD C.P e).bind fun z => if 0 < s ∧ s ≤ 4096 ∧ z.cells.length = s ∧ z.cells.all D.one then
      (buildS s (parts.toList.map fun p => (p.1, norm C.P e (ρ p.2))) (List.replicate len z)).bind fun l => if l.all (fun d => d.cells.all (fun c => c.isT 2)) then
        match intK C.P e with
        | some k => (asInts k l).map fun l => .lit (.ints k l)
        | none => some (.lit (.list s l)) else none else none else none
  | .nilCheck x => match ρ x with
    | .ptr cs => some (.ptr cs)
    | .pref b v i off => some (.pref b v i off)
    | .fn f a c => some (.fn f a c)
    | _ => none
  | .binOp op t x y _ => match binD op (ρ x) (ρ y) with
    | some d => some d
    | none => (C.P.underlying t).bind fun u => eqD op u (ρ x) (ρ y)
  | .unOp op _ x => unD op (ρ x)
  | .convert src dst x => match C.P.underlying src, C.P.underlying dst, ρ x with
    | some .string, some (.slice e), .str s => match C.P.underlying e with
      | some (.int .u8) => if s.size ≤ 140737488351232 then some (.ints .u8 (s.data.toList.map fun b => (b.toNat : Int))) else none
      | _ => none
    | _, _, _ => convD C.P src dst (ρ x)
  | .makeFunc (.func f) first captured => some (.fn f (first.toList.map ρ) (captured.toList.map ρ))
  | .fieldAddr s x f => (offOf C.P s f).bind fun off => match ρ x with
    | .ptr cs => some (.ptr (cs.drop off))
    | .pref b v i o => some (.pref b v i (o + off))
    | _ => none
  | .field t x f => match C.P.underlying t with
    | some (.struct fs) => (fs[f]?).bind fun y => (aggB C.P y.type).bind fun a => (szOf C.P y.type).bind fun s => match ρ x with
      | .agg cs => ldCells a s (cs.drop y.offset)
      | _ => none
    | _ => none
  | .indexAddr t x ix => indexD C.P t (ρ x) (ρ ix)
  | .index t x ix => match C.P.underlying t, ρ x, ρ ix with
    | some .string, .str s, .int _ i => if 0 ≤ i then if i < (s.size : Int) then some (.int .u8 ((s.data.getD i.toNat 0).toNat : Int)) else none else none
    | _, _, _ => none
  | .extract x i => match ρ x with | .tuple vs => vs[i]? | _ => none
  | .slice t x lo hi mx => sliceD C.P t (ρ x) (lo.map ρ) (hi.map ρ) (mx.map ρ)
  | .call c => match c.callee with
    | .builtin .len => match c.args.toList, c.argTypes.toList with | [x], t :: _ => (lenD C.P t (ρ x)).map fun (n : Nat) => D.int .i64 (n : Int) | _, _ => none
    | .builtin .min => match c.args.toList with | x :: l => minD (ρ x) (l.map ρ) | _ => none
    | .builtin .max => match c.args.toList with | x :: l => maxD (ρ x) (l.map ρ) | _ => none
    | _ => none
  | _ => none

abbrev Run := FuncId → List D → Heap → Option (D × Heap)
/-- A call of which nothing is seen but what it answers. -/
def icall (C : Cx) (call : Run) (f : FuncId) (ds : List D) : Option D :=
  (C.P.funcs[f]?).bind fun fn => (call f (fn.params.toList.zipWith (norm C.P) ds ++ ds.drop fn.params.size) []).bind fun r => (reify r.2 DEPTH r.1).map (normR C.P fn.resultTypes.toList)
def callee (c : Call) (ρ : Env) : Option (FuncId × List D) :=
  match c.callee with
  | .value x => match ρ x with
    | .fn f a cp => some (f, a ++ c.args.toList.map ρ ++ cp)
    | _ => none
  | _ => none
def opR (C : Cx) (call : Run) (o : Oper) (ρ : Env) (h : Heap) : Option D :=
  match o.op with
  | .load t p => ld C.P h t (ρ p)
  | .convert src dst x => match C.P.underlying src, C.P.underlying dst with
    | some (.slice e), some .string => match C.P.underlying e with
      | some (.int .u8) => match reify h DEPTH (ρ x) with
        | some (.ints .u8 xs) => some (.str (bytesD xs))
        | _ => none
      | _ => none
    | _, _ => none
  | .call c => (callee c ρ).bind fun p => if C.shared p.1 then none else (p.2.mapM (reify h DEPTH)).bind fun ds => (icall C call p.1 ds).bind fun r =>
      if p.2.all (D.isT 3) || r.flat 3 then some r else none
  | _ => none

/-- What a new row holds, and how it is named. -/
def opA (C : Cx) (o : Oper) (ρ : Env) : Option (Body × (Nat → Nat → D)) :=
  match o.op with
  | .alloc t => (zeroD C.P t).bind fun z => (szOf C.P t).bind fun s => if 0 < s ∧ z.cells.length = s ∧ z.cells.all D.one then some (.rows s [z], fun b v => .pref b v 0 0) else none
  | .box t x => (szOf C.P t).bind fun s => if 0 < s ∧ (ρ x).cells.length = s ∧ (ρ x).cells.all D.one then some (.rows s [ρ x], fun b v => .pref b v 0 0) else none
  | .makeSlice t l c => (elemOf? C.P t).bind fun e => (szOf C.P e).bind fun s => (bytesOf C.P e).bind fun by_ => (zeroD C.P e).bind fun z => match ρ l, ρ c with
    | .int _ n, .int _ m => if 0 ≤ n then if n ≤ m then if m ≤ 140737488351232 then if (by_ : Int) * m ≤ 140737488351232 then if 0 < s ∧ z.cells.length = s ∧ z.cells.all D.one then
        match intK C.P e, z with
        | some k, .int k' 0 => if k = k' then some (.ints k (List.replicate n.toNat 0), fun b v => .sref b v 1 0 n.toNat) else none
        | _, _ => some (.rows s (List.replicate n.toNat z), fun b v => .sref b v s 0 n.toNat) else none else none else none else none else none
    | _, _ => none
  | _ => none
def putA (base : Nat) (dst : Option Tmp) (h : Heap) (x : Body × (Nat → Nat → D)) : Option (D × Heap) :=
  dst.bind fun t => (h[base + t]?).map fun B => (x.2 (base + t) (B.ver + 1), h.set (base + t) ⟨B.ver + 1, false, x.1⟩)

def st (P : Program) (h : Heap) (t : TypeId) (p v : D) : Option Heap :=
  (szOf P t).bind fun s => match p with
    | .pref b w i off => match h[b]? with
      | some B => if B.ver = w ∧ B.fz = false then match B.body with
        | .ints k xs => match v with
          | .int k' n => if k = k' ∧ off = 0 ∧ i < xs.length ∧ s = 1 then some (h.set b { B with body := .ints k (xs.set i n) }) else none
          | _ => none
        | .rows sz xs => match xs[i]? with
          | some d => if v.cells.length = s ∧ off + s ≤ d.cells.length ∧ v.cells.all D.one then
              some (h.set b { B with body := .rows sz (xs.set i (if off = 0 ∧ s = sz then v else .agg (upd d.cells off v.cells))) }) else none
          | none => none
        | .dead => none else none
      | none => none
    | _ => none
/-- Growing a row: the old one is not to be used any more. -/
def kill1 (h : Heap) (b : Nat) : Heap := match h[b]? with | some B => h.set b { B with body := .dead } | none => h
/-- The room that the growing asks for is there. -/
def roomy (n by_ : Nat) : Bool := decide ((n + 192) * (by_ + 1) ≤ 70368744177664)
def growI (base : Nat) (dst : Option Tmp) (h : Heap) (by_ : Nat) (k : IntKind) (ys : List Int) : D → Option (D × Heap)
  | .nilS => if roomy ys.length by_ then putA base dst h (.ints k ys, fun b v => .sref b v 1 0 ys.length) else none
  | .sref b v 1 0 len => match h[b]? with
    | some B => if B.ver = v ∧ B.fz = false then match B.body with
      | .ints k' xs => if k' = k ∧ len = xs.length then if roomy (xs.length + ys.length) by_ then
          putA base dst (kill1 h b) (.ints k (xs ++ ys), fun b v => .sref b v 1 0 (xs.length + ys.length)) else none else none
      | _ => none
      else none
    | none => none
  | _ => none
def growR (base : Nat) (dst : Option Tmp) (h : Heap) (by_ s : Nat) (ys : List D) : D → Option (D × Heap)
  | .nilS => if roomy ys.length by_ then putA base dst h (.rows s ys, fun b v => .sref b v s 0 ys.length) else none
  | .sref b v s' 0 len => match h[b]? with
    | some B => if B.ver = v ∧ B.fz = false ∧ s' = s then match B.body with
      | .rows s'' xs => if s'' = s ∧ len = xs.length then if roomy (xs.length + ys.length) by_ then
          putA base dst (kill1 h b) (.rows s (xs ++ ys), fun b v => .sref b v s 0 (xs.length + ys.length)) else none else none
      | _ => none
      else none
    | none => none
  | _ => none
/-- What is behind the dots of an append, or in a copy. -/
def src (h : Heap) (d : D) : Option D :=
  match d.bare with
  | .str s => some (.ints .u8 (s.data.toList.map fun b => (b.toNat : Int)))
  | .sref b v sz off len => reify h 1 (.sref b v sz off len)
  | .ints k xs => some (.ints k xs)
  | .list s xs => some (.list s xs)
  | .nilS => some .nilS
  | _ => none
def appendD (P : Program) (base : Nat) (dst : Option Tmp) (h : Heap) (t : TypeId) (x y : D) : Option (D × Heap) :=
  (elemOf? P t).bind fun e => (szOf P e).bind fun s => (bytesOf P e).bind fun by_ => (zeroD P e).bind fun z => if z.cells.length = s then match src h y with
    | some .nilS => match x.bare with
      | .nilS | .ints _ _ | .list _ _ | .sref _ _ _ _ _ => some (x, h)
      | _ => none
    | some (.ints k ys) => if s = 1 then match x with
      | .lit (.ints k' xs) => if k = k' then if roomy (xs.length + ys.length) by_ then some (.ints k (xs ++ ys), h) else none else none
      | x => growI base dst (h) by_ k ys x
      else none
    | some (.list s' ys) => if s = s' ∧ intK P e = none then match x with
      | .lit (.list s'' xs) => if s'' = s' then if roomy (xs.length + ys.length) by_ then some (.list s' (xs ++ ys), h) else none else none
      | x => growR base dst (h) by_ s ys x
      else none
    | _ => none else none
def copyD (P : Program) (h : Heap) (t : TypeId) (x y : D) : Option (D × Heap) :=
  (elemOf? P t).bind fun e => (szOf P e).bind fun s => if s = 1 then match x, src h y with
    | .sref b v 1 off len, some (.ints k ys) => match h[b]? with
      | some B => if B.ver = v ∧ B.fz = false then match B.body with
        | .ints k' xs => if k' = k ∧ off + len ≤ xs.length then
            some (.int .i64 ((min ys.length len : Nat) : Int), h.set b { B with body := .ints k (xs.take off ++ (ys.take (min ys.length len) ++ xs.drop (off + min ys.length len))) }) else none
        | _ => none
        else none
      | none => none
    | _, _ => none
    else none

def opW (C : Cx) (call : Run) (draw : Bool) (base : Nat) (o : Oper) (ρ : Env) (h : Heap) : Option (D × Heap) :=
  match o.op with
  | .store t a v => (st C.P h t (ρ a) (ρ v)).map fun h' => (.tuple [], h')
  | .call c => match c.callee with
    | .builtin .append => match c.args.toList, c.argTypes.toList with
      | [x, y], t :: ts => if ts.all (fun u => (C.P.underlying u).isSome && (intK C.P u).isNone) then appendD C.P base o.dst h t (ρ x) (ρ y) else none
      | _, _ => none
    | .builtin .copy => match c.args.toList, c.argTypes.toList with
      | [x, y], t :: _ => copyD C.P h t (ρ x) (ρ y)
      | _, _ => none
    | .value _ => (callee c ρ).bind fun p =>
      if C.shared p.1 then call p.1 p.2 h
      else (p.2.mapM (reify h DEPTH)).bind fun ds => (icall C call p.1 ds).map fun r =>
        (r, if p.2.all (D.isT 3) || r.flat 3 then h else freeze h (p.2.flatMap (reach h DEPTH)))
    | _ => none
  | _ => none

structure St where
  tmps : List D
  heap : Heap
def St.ev (s : St) : Env
  | .tmp t => s.tmps.getD t (.tuple [])
  | .const v => ofV v
  | .global _ => .top
  | .func f => .fn f [] []
def putT (l : List D) (dst : Option Tmp) (d : D) : List D := match dst with | some t => l.set t d | none => l

/-- The rows of some slots, as if they were not there. -/
def maskH (base : Nat) (m : List Nat) (h : Heap) : Heap := m.foldl (fun h t => kill1 h (base + t)) h
/-- What is written lies among the rows of these slots. -/
def effOk (base : Nat) (m : List Nat) (o : Oper) (ρ : Env) : Bool :=
  m.isEmpty || match o.op with
  | .store _ a _ => match ρ a with | .pref b _ _ _ => m.any fun t => base + t == b | _ => true
  | .call c => match c.callee, c.args.toList with
    | .builtin .append, x :: _ => (match ρ x with | .sref b _ _ _ _ => m.any fun t => base + t == b | _ => true) && (match o.dst with | some t => m.any (· == t) | none => true)
    | _, _ => false
  | _ => false
def opv (C : Cx) (call : Run) (draw : Bool) (base : Nat) (m : List Nat) (o : Oper) (ρ : Env) (h : Heap) : Option (D × Heap) :=
  match cls C draw o with
  | .P => (opP C o ρ).map fun d => (d, h)
  | .R => (opR C call o ρ (maskH base m h)).map fun d => (d, h)
  | .A => (opA C o ρ).bind (putA base o.dst h)
  | .W => if effOk base m o ρ then opW C call draw base o ρ h else none
/-- Is the operation wanted? none: the shadow cannot tell. -/
def wantD (ops : Array Oper) (o : Oper) (s : St) : Option Bool :=
  match o.guard with
  | none => some true
  | some (j, want) => match (ops[j]?).bind (·.dst) with
    | some t => match s.tmps.getD t .top with
      | .bool b => some (b == want)
      | .tuple _ => some false
      | _ => none
    | none => none
def opStep (C : Cx) (call : Run) (draw : Bool) (base : Nat) (ops : Array Oper) (m : List Nat) (o : Oper) (s : St) : Option St :=
  (wantD ops o s).bind fun w =>
    if w then (opv C call draw base m o s.ev s.heap).map fun r => ⟨putT s.tmps o.dst r.1, r.2⟩
    else some ⟨putT s.tmps o.dst (.tuple []), s.heap⟩
/-- Of an operation: the slots whose rows it does not look at, or does write. -/
abbrev Plan := List (Nat × List Nat)
def Plan.at (p : Plan) (i : Nat) : List Nat := match p with | [] => [] | (j, m) :: p => if j = i then m else Plan.at p i
def opsRun (C : Cx) (call : Run) (draw : Bool) (base : Nat) (ops : Array Oper) (p : Plan) : Nat → List Oper → St → Option St
  | _, [], s => some s
  | i, o :: l, s => (opStep C call draw base ops (p.at i) o s).bind (opsRun C call draw base ops p (i + 1) l)
def killA (C : Cx) (base : Nat) (ops : List Oper) (s : St) : St :=
  ⟨s.tmps, ops.foldl (fun h o => if cls C true o = .A then match o.dst with | some t => kill1 h (base + t) | none => h else h) s.heap⟩

inductive X where
  | normal
  | exit (id : Nat)
  | ret

/-- What is to be forgotten when a region is entered: slots, rows. -/
abbrev Forget := FuncId → Nat → List Nat × List Nat
def forget (base : Nat) (x : List Nat × List Nat) (s : St) : St :=
  ⟨x.1.foldl (fun l t => l.set t .top) s.tmps, x.2.foldl (fun h t => kill1 h (base + t)) s.heap⟩
def resultsD (P : Program) (fn : Func) (s : St) : Option D :=
  (fn.results.toList.mapM fun (r : ResultVar) => match r with | .tmp t => some (s.tmps.getD t (.tuple [])) | .cell a t => ld P s.heap t (s.tmps.getD a (.tuple []))).map fun l =>
    match l with | [d] => d | l => .tuple l
/-- Rows of a call that was never given any. -/
def tidy (h : Heap) (n : Nat) : Heap := if (h.drop n).all (fun B => B.ver == 0) then h.take n else h

mutual
def run (C : Cx) (F : Forget) : Nat → Run
  | 0, _, _, _ => none
  | k + 1, f, ds, h => (C.P.funcs[f]?).bind fun fn => fn.body.bind fun c => if C.ok f ∧ ds.length ≤ fn.ntmps then
      (exec C F k f h.length c ⟨ds ++ List.replicate (fn.ntmps - ds.length) (.tuple []), h ++ List.replicate fn.ntmps noBlk⟩).bind fun r =>
        match r.1 with
        | .exit _ => none
        | _ => (resultsD C.P fn r.2).map fun d => (d, tidy r.2.heap h.length) else none
def exec (C : Cx) (F : Forget) : Nat → FuncId → Nat → Code → St → Option (X × St)
  | 0, _, _, _, _ => none
  | k + 1, f, base, c, s => match c with
    | .skip => some (.normal, s)
    | .label _ => some (.normal, s)
    | .region id ops draw =>
      (opsRun C (run C F k) draw base ops (C.plan f id) 0 ops.toList (if draw then killA C base ops.toList (forget base (F f id) s) else forget base (F f id) s)).map fun s' => (.normal, s')
    | .seq x y => (exec C F k f base x s).bind fun r => match r.1 with
      | .normal => exec C F k f base y r.2
      | _ => some r
    | .cond c x y => match s.ev c with
      | .bool b => if b then exec C F k f base x s else exec C F k f base y s
      | _ => none
    | .block id x => (exec C F k f base x s).map fun r => match r.1 with
      | .exit id' => if id' = id then (.normal, r.2) else r
      | _ => r
    | .loop x => (exec C F k f base x s).bind fun r => match r.1 with
      | .normal => exec C F k f base (.loop x) r.2
      | _ => some r
    | .exit id => some (.exit id, s)
    | .ret => some (.ret, s)
    | _ => none
end
end Go.Proofs.YtcmajlphfnihgaaA
