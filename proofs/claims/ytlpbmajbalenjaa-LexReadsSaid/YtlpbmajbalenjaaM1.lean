/- A shadow of the machine: values without addresses, rows that a call owns, and a function that runs a program's code over them. -/
import Derived.Orders
import Derived.Below
import Derived.Laws.Entries
import Derived.Laws.CopyRow
import Derived.ChangeKeysEq
import Derived.Laws.Concat
import Derived.Laws.Strings
import Derived.Laws.Shifts
set_option linter.unusedVariables false
set_option linter.unusedSimpArgs false
namespace Go.Proofs.YtlpbmajbalenjaaA
open Go

inductive D where
 | top
 | bool (b : Bool)
 | int (k : IntKind) (n : Int)
 | str (s : ByteArray)
 | nilS
 | ints (k : IntKind) (xs : List Int)
 | list (sz : Nat) (xs : List D)
 | nilP
 | ptr (cs : List D)
 | agg (cs : List D)
 | tuple (vs : List D)
 | sref (b v sz off len : Nat)
 | pref (b v i off : Nat)
 | fn (f : FuncId) (first captured : List D)
 | nilF
 | nilI
 | nilM
 | lit (d : D)
 | mref (b v : Nat)
 | mlit (ks vs : List D)
 deriving Inhabited

def D.bare : D → D
 | .lit d => d
 | d => d

def D.cells : D → List D
 | .agg cs => cs
 | d => [d]
def D.one : D → Bool
 | .top | .agg _ | .tuple _ => false
 | _ => true
def D.wide (s : Nat) (d : D) : Prop := d.cells.length = s ∧ d.cells.all D.one = true
def D.isT : Nat → D → Bool
 | _, .bool _ | _, .int _ _ | _, .str _ | _, .nilS | _, .ints _ _ | _, .list _ _ | _, .nilP | _, .ptr _ | _, .nilF | _, .nilI | _, .nilM | _, .top | _, .lit _ | _, .mlit _ _ => true
 | n + 1, .agg cs => cs.all (D.isT n)
 | n + 1, .tuple cs => cs.all (D.isT n)
 | n + 1, .fn _ a c => a.all (D.isT n) && c.all (D.isT n)
 | _, _ => false
def D.flat : Nat → D → Bool
 | _, .bool _ | _, .int _ _ | _, .str _ | _, .nilI => true
 | n + 1, .agg cs => cs.all (D.flat n)
 | n + 1, .tuple cs => cs.all (D.flat n)
 | _, _ => false


inductive Body where
 | dead
 | ints (k : IntKind) (xs : List Int)
 | rows (sz : Nat) (xs : List D)
 | map (es : List (D × D))
 | iter (s : ByteArray) (pos : Nat)
structure Blk where
 ver : Nat
 fz : Bool
 body : Body
abbrev Heap := List Blk
def noBlk : Blk := ⟨0, false, .dead⟩

def Heap.get (h : Heap) (b v : Nat) : Body :=
 match h[b]? with
 | some B => if B.ver = v then B.body else .dead
 | none => .dead

section
variable (P : Program)
def aggB (t : TypeId) : Option Bool := (P.underlying t).map fun | .struct _ | .array _ _ => true | _ => false
def szOf (t : TypeId) : Option Nat := (P.info? t).map (·.size)
def bytesOf (t : TypeId) : Option Nat := (P.info? t).map (·.bytes)
def intK (t : TypeId) : Option IntKind := match P.underlying t with | some (.int k) => some k | _ => none

def ofV1 : Value → D
 | .bool b => .bool b
 | .int k n => .int k n
 | .string s => .str s
 | .pointer none => .nilP
 | .slice _ 0 0 => .nilS
 | .nilFunc => .nilF
 | .nilIface => .nilI
 | .map none => .nilM
 | .func (.func f) a c => if a.isEmpty && c.isEmpty then .fn f [] [] else .top
 | _ => .top
def ofV : Value → D
 | .agg cs => .agg (cs.toList.map ofV1)
 | .tuple cs => .tuple (cs.toList.map ofV1)
 | v => ofV1 v
def zeroD (t : TypeId) : Option D := (P.info? t).bind fun i => i.zero.map ofV

def cellTypes : Nat → TypeId → List TypeId
 | 0, t => [t]
 | n + 1, t => match P.underlying t with
  | some (.struct fs) => fs.toList.flatMap fun f => cellTypes n f.type
  | _ => [t]
def norm1 (t : TypeId) : D → D
 | .nilS => match P.underlying t with
  | some (.slice e) => match intK P e with
   | some k => .ints k []
   | none => match szOf P e with | some s => .list s [] | none => .nilS
  | _ => .nilS
 | .nilM => match P.underlying t with
  | some (.map _ _) => .mlit [] []
  | _ => .nilM
 | .lit d => d
 | d => d
def norm (t : TypeId) : D → D
 | .agg cs => .agg ((cellTypes P 8 t).zipWith (norm1 P) cs ++ cs.drop (cellTypes P 8 t).length)
 | d => norm1 P t d
def normR (ts : List TypeId) : D → D
 | .tuple vs => .tuple (ts.zipWith (norm P) vs ++ vs.drop ts.length)
 | d => match ts with | [t] => norm P t d | _ => d
end

def ldCells (agg : Bool) (s : Nat) (cs : List D) : Option D :=
 if agg then (if s ≤ cs.length then some (.agg (cs.take s)) else none) else cs.head?
def cellsAt (h : Heap) : D → Option (List D)
 | .ptr cs => some cs
 | .pref b v i off => match h.get b v with
  | .ints k xs => if off = 0 then if i < xs.length then some [.int k (xs.getD i 0)] else none else none
  | .rows _ xs => (xs[i]?).map fun d => d.cells.drop off
  | .map _ | .iter _ _ => none
  | .dead => none
 | _ => none
def ld (P : Program) (h : Heap) (t : TypeId) (p : D) : Option D :=
 (aggB P t).bind fun a => (szOf P t).bind fun s => (cellsAt h p).bind fun cs => ldCells a s cs

def reify (h : Heap) : Nat → D → Option D
 | 0, d => if d.isT 0 then some d.bare else none
 | n + 1, .agg cs => (cs.mapM (reify h n)).map .agg
 | n + 1, .tuple cs => (cs.mapM (reify h n)).map .tuple
 | n + 1, .fn f a c => (a.mapM (reify h n)).bind fun a' => (c.mapM (reify h n)).map fun c' => .fn f a' c'
 | _ + 1, .sref b v sz off len => match h.get b v with
  | .ints k xs => if sz = 1 then if off + len ≤ xs.length then some (.ints k ((xs.drop off).take len)) else none else none
  | .rows s xs => if s = sz then if off + len ≤ xs.length then if ((xs.drop off).take len).all (fun d => d.cells.all (D.isT 2)) then some (.list sz ((xs.drop off).take len)) else none else none else none
  | .map _ | .iter _ _ => none
  | .dead => none
 | n + 1, .pref b v i off => (cellsAt h (.pref b v i off)).bind fun cs => (cs.mapM (reify h n)).map .ptr
 | n + 1, .lit d => some d
 | _ + 1, .mref b v => match h.get b v with
  | .map es => if es.all (fun e => e.1.isT 2 && e.2.isT 2) then some (.mlit (es.map (·.1)) (es.map (·.2))) else some .top
  | .dead => none
  | _ => some .top
 | n + 1, d => some d
def cellsB (h : Heap) (b i off : Nat) : List D :=
 match h[b]? with
 | some B => match B.body with
  | .ints k xs => if off = 0 then if i < xs.length then [.int k (xs.getD i 0)] else [] else []
  | .rows _ xs => match xs[i]? with | some d => d.cells.drop off | none => []
  | _ => []
 | none => []
theorem cellsB_of {h : Heap} {b v i off : Nat} {cs : List D} (e : cellsAt h (.pref b v i off) = some cs) : cellsB h b i off = cs := by
 simp only [cellsAt, Heap.get] at e
 unfold cellsB
 cases hB : h[b]? with
 | none => rw [hB] at e; cases e
 | some B =>
  rw [hB] at e
  simp only at e ⊢
  by_cases hv : B.ver = v
  ·rw [if_pos hv] at e
   cases hb : B.body with
   | ints k xs =>
    rw [hb] at e
    simp only at e ⊢
    by_cases h1 : off = 0
    ·by_cases h2 : i < xs.length
     ·rw [if_pos h1, if_pos h2] at e ⊢
      cases e; rfl
     ·rw [if_pos h1, if_neg h2] at e; cases e
    ·rw [if_neg h1] at e; cases e
   | rows s xs =>
    rw [hb] at e
    obtain ⟨d, hd, rfl⟩ := Option.map_eq_some_iff.1 e
    simp only [hd]
   | map _ => rw [hb] at e; cases e
   | iter _ _ => rw [hb] at e; cases e
   | dead => rw [hb] at e; cases e
  ·rw [if_neg hv] at e; cases e
def reach (h : Heap) : Nat → D → List Nat
 | 0, _ => []
 | n + 1, .agg cs => cs.flatMap (reach h n)
 | n + 1, .tuple cs => cs.flatMap (reach h n)
 | n + 1, .fn _ a c => a.flatMap (reach h n) ++ c.flatMap (reach h n)
 | _ + 1, .sref b _ _ _ _ => [b]
 | _ + 1, .mref b _ => [b]
 | n + 1, .pref b v i off => b :: (cellsB h b i off).flatMap (reach h n)
 | _ + 1, _ => []
def mark (h : Heap) (b : Nat) : Heap := h.modify b fun B => { B with fz := true }
def freeze (h : Heap) (l : List Nat) : Heap := l.foldl mark h
abbrev DEPTH : Nat := 5

def cmpD (op : BinOp) (x y : Int) : Option D :=
 match op with
 | .eql => some (.bool (decide (x = y)))
 | .neq => some (.bool (!decide (x = y)))
 | .lss => some (.bool (decide (x < y)))
 | .leq => some (.bool (decide (x ≤ y)))
 | .gtr => some (.bool (decide (y < x)))
 | .geq => some (.bool (decide (y ≤ x)))
 | _ => none
def strD (op : BinOp) (x y : ByteArray) : Option D :=
 match op with
 | .add => if x.size + y.size ≤ 9223372036854775807 then some (.str (x ++ y)) else none
 | .eql => some (.bool (decide (x = y)))
 | .neq => some (.bool (!decide (x = y)))
 | .lss => some (.bool (Op.bytesLess x.toList y.toList))
 | .gtr => some (.bool (!(Op.bytesLess x.toList y.toList || decide (x = y))))
 | .leq => some (.bool (Op.bytesLess x.toList y.toList || decide (x = y)))
 | .geq => some (.bool (!Op.bytesLess x.toList y.toList))
 | _ => none
def arithD (op : BinOp) (k : IntKind) (x y : Int) : Option D :=
 match op with
 | .add => some (.int k (k.wrap (x + y)))
 | .sub => some (.int k (k.wrap (x - y)))
 | .mul => some (.int k (k.wrap (x * y)))
 | .quo => if y = 0 then none else some (.int k (k.wrap (x.tdiv y)))
 | .rem => if y = 0 then none else some (.int k (x.tmod y))
 | .and => some (.int k (bits .and k x y))
 | .or => some (.int k (bits .or k x y))
 | .xor => some (.int k (bits .xor k x y))
 | .andNot => some (.int k (bits .andNot k x y))
 | .shl | .shr => none
 | op => cmpD op x y
def shiftD (op : BinOp) (k : IntKind) (x y : Int) : Option D :=
 match op with
 | .shl => if y < 0 then none else some (.int k (k.wrap (x * 2 ^ min y.toNat k.bits)))
 | .shr => if y < 0 then none else some (.int k (x / 2 ^ min y.toNat k.bits))
 | _ => none
def eqB (op : BinOp) (b : Bool) : Option D :=
 match op with
 | .eql => some (.bool b)
 | .neq => some (.bool (!b))
 | _ => none
def binD (op : BinOp) : D → D → Option D
 | .int k x, .int k' y => match op with
  | .shl | .shr => shiftD op k x y
  | _ => if k = k' then arithD op k x y else none
 | .str x, .str y => strD op x y
 | _, _ => none
def eqD (op : BinOp) : TypeDesc → D → D → Option D
 | .bool, .bool x, .bool y => eqB op (x == y)
 | .pointer _, .nilP, .nilP => eqB op true
 | .pointer _, .nilP, .pref _ _ _ _ | .pointer _, .nilP, .ptr _ | .pointer _, .pref _ _ _ _, .nilP | .pointer _, .ptr _, .nilP => eqB op false
 | _, _, _ => none
def eqF (P : Program) (r : TypeId → D → D → Option Bool) (xs ys : List D) : List Field → Option Bool
 | [] => some true
 | f :: fs => if f.name = "_" then none else (aggB P f.type).bind fun a => (szOf P f.type).bind fun s => (ldCells a s (xs.drop f.offset)).bind fun x => (ldCells a s (ys.drop f.offset)).bind fun y =>
   (r f.type x y).bind fun b => if b then eqF P r xs ys fs else some false
def eqV (P : Program) : Nat → TypeId → D → D → Option Bool
 | 0, _, _, _ => none
 | n + 1, t, x, y => (P.underlying t).bind fun u => match u, x, y with
  | .bool, .bool a, .bool b => some (a == b)
  | .int _, .int k a, .int k' b => if k = k' then some (a == b) else none
  | .string, .str a, .str b => some (a == b)
  | .struct fs, .agg xs, .agg ys => if P.stoodInHeld t then none else eqF P (eqV P n) xs ys fs.toList
  | _, _, _ => none
def eqS (P : Program) (op : BinOp) (t : TypeId) (x y : D) : Option D :=
 match x, y with
 | .agg xs, .agg ys => if P.eqGuardType P.depth t then none else (eqV P 4 t (.agg xs) (.agg ys)).bind (eqB op)
 | _, _ => none
def eqN (op : BinOp) (u : TypeDesc) (x : D) (y : Operand) : Option D :=
 match u, x.bare, y with
 | .slice _, .ints _ (_ :: _), .const (.slice none 0 0) => eqB op false
 | .slice _, .list _ (_ :: _), .const (.slice none 0 0) => eqB op false
 | .slice _, .sref _ _ _ _ (_ + 1), .const (.slice none 0 0) => eqB op false
 | _, _, _ => none
def unD (op : UnOp) : D → Option D
 | .int k n => match op with
  | .neg => some (.int k (k.wrap (0 - n)))
  | .xor => some (.int k (bits .xor k (if k.signed then -1 else k.max) n))
  | _ => none
 | .bool b => match op with | .not => some (.bool (!b)) | _ => none
 | _ => none
def convD (P : Program) (src dst : TypeId) (x : D) : Option D :=
 match P.underlying src, P.underlying dst, x with
 | some (.int _), some (.int k), .int _ n => some (.int k (k.wrap n))
 | some .string, some .string, .str s => some (.str s)
 | _, _, _ => none
def upd (cs : List D) (off : Nat) (vs : List D) : List D := cs.take off ++ vs ++ cs.drop (off + vs.length)
def buildD (P : Program) (fs : List Field) : List (Nat × D) → List D → Option (List D)
 | [], cs => some cs
 | (i, v) :: rest, cs => (fs[i]?).bind fun f => (szOf P f.type).bind fun s =>
  if v.cells.length = s ∧ f.offset + s ≤ cs.length ∧ v.cells.all D.one then buildD P fs rest (upd cs f.offset v.cells) else none
def buildS (s : Nat) : List (Nat × D) → List D → Option (List D)
 | [], l => some l
 | p :: parts, l => if p.1 < l.length ∧ p.2.cells.length = s ∧ p.2.cells.all D.one then buildS s parts (l.set p.1 p.2) else none
def asInts (k : IntKind) : List D → Option (List Int)
 | [] => some []
 | .int k' n :: l => if k = k' then (asInts k l).map (n :: ·) else none
 | _ => none
def offOf (P : Program) (s : TypeId) (f : Nat) : Option Nat :=
 match P.underlying s with
 | some (.struct fs) => (fs[f]?).bind fun x => (szOf P x.type).bind fun z => if z = 0 then none else some x.offset
 | _ => none
def elemOf? (P : Program) (t : TypeId) : Option TypeId := match P.underlying t with | some (.slice e) => some e | _ => none
def indexD (P : Program) (t : TypeId) (x ix : D) : Option D :=
 (elemOf? P t).bind fun e => (szOf P e).bind fun s => match ix with
  | .int _ i => if 0 ≤ i then match x.bare with
   | .ints k xs => if s = 1 then if i < (xs.length : Int) then some (.ptr [.int k (xs.getD i.toNat 0)]) else none else none
   | .list sz xs => if s = sz then (xs[i.toNat]?).map fun d => .ptr d.cells else none
   | .sref b v sz off len => if s = sz then if i < (len : Int) then some (.pref b v (off + i.toNat) 0) else none else none
   | _ => none
   else none
  | _ => none
def boundD (o : Option D) (dflt most : Nat) : Option Nat :=
 match o with
 | none => some dflt
 | some (.int _ i) => if 0 ≤ i then if i ≤ (most : Int) then some i.toNat else none else none
 | _ => none
def sliceD (P : Program) (t : TypeId) (x : D) (lo hi mx : Option D) : Option D :=
 match mx with
 | some _ => none
 | none => match x.bare with
  | .str s => match P.underlying t with
   | some .string => (boundD hi s.size s.size).bind fun h => (boundD lo 0 h).map fun l => .str (s.extract l h)
   | _ => none
  | .ints k xs => (boundD hi xs.length xs.length).bind fun h => (boundD lo 0 h).bind fun l => (elemOf? P t).bind fun e => (szOf P e).bind fun s => if s = 1 then some (.ints k ((xs.take h).drop l)) else none
  | .list sz xs => (boundD hi xs.length xs.length).bind fun h => (boundD lo 0 h).bind fun l => (elemOf? P t).bind fun e => (szOf P e).bind fun s => if s = sz then some (.list sz ((xs.take h).drop l)) else none
  | .sref b v sz off len => (boundD hi len len).bind fun h => (boundD lo 0 h).bind fun l => (elemOf? P t).bind fun e => (szOf P e).bind fun s => if s = sz then some (.sref b v sz (off + l) (h - l)) else none
  | .nilS => (boundD hi 0 0).bind fun h => (boundD lo 0 h).bind fun _ => (elemOf? P t).bind fun e => (szOf P e).map fun _ => .nilS
  | _ => none
def lenD (P : Program) (t : TypeId) (d : D) : Option Nat :=
 match P.underlying t with
 | some .string => match d with | .str s => some s.size | _ => none
 | some (.slice _) => match d.bare with
  | .nilS => some 0
  | .ints _ xs => some xs.length
  | .list _ xs => some xs.length
  | .sref _ _ _ _ len => some len
  | _ => none
 | _ => none
def minD : D → List D → Option D
 | d, [] => match d with | .int _ _ => some d | _ => none
 | .int k x, .int k' y :: l => if k = k' then minD (.int k (if y < x then y else x)) l else none
 | _, _ => none
def maxD : D → List D → Option D
 | d, [] => match d with | .int _ _ => some d | _ => none
 | .int k x, .int k' y :: l => if k = k' then maxD (.int k (if y > x then y else x)) l else none
 | _, _ => none
def bytesD (xs : List Int) : ByteArray := ⟨(xs.map fun n => UInt8.ofNat n.toNat).toArray⟩

def buildL (P : Program) (t : TypeId) (len : Nat) (parts : List (Nat × D)) : Option D :=
 (elemOf? P t).bind fun e => (szOf P e).bind fun s => if len ≤ 4096 then if len = 0 then (if parts.isEmpty then some .nilS else none) else
   (zeroD P e).bind fun z => if 0 < s ∧ s ≤ 4096 ∧ z.cells.length = s ∧ z.cells.all D.one then
   (buildS s (parts.map fun p => (p.1, norm P e p.2)) (List.replicate len z)).bind fun l => if l.all (fun d => d.cells.all (fun c => c.isT 2)) then
    match intK P e with
    | some k => (asInts k l).map fun l => .lit (.ints k l)
    | none => some (.lit (.list s l)) else none else none else none
def leads (P : Program) (t : TypeId) : Bool := match elemOf? P t with
 | some e => (cellTypes P 8 e).any fun c => match P.underlying c with | some (.int _) | some .string | some .bool => false | _ => true
 | none => false

inductive Cls where
 | P | R | A | W
 deriving DecidableEq

abbrev Run := FuncId → List D → Heap → Option (D × Heap)
structure Cx where
 P : Program
 shared : FuncId → Bool
 plan : FuncId → Nat → List (Nat × List Nat)
 ok : FuncId → Bool
 /-- Functions that are told by hand. -/
 orc : Run → FuncId → List D → Option D

def methOf (C : Cx) (g : FuncId) : Option (Option Nat) := if C.shared g then match C.plan g 999996 with | [] => none | (j, l) :: _ => some (if l.isEmpty then none else some j) else none
def adopts (C : Cx) (g : FuncId) : Bool := !(C.plan g 999997).isEmpty
def marked (C : Cx) (t : TypeId) : Bool := !(C.plan 1000003 t).isEmpty
def cls (C : Cx) (draw : Bool) (o : Oper) : Cls :=
 match o.op with
 | .move _ | .assign _ | .pick .. | .build .. | .nilCheck _ | .binOp .. | .unOp .. | .makeFunc .. | .fieldAddr .. | .field .. | .indexAddr .. | .index .. | .extract .. | .slice .. => .P
 | .convert src dst _ => match C.P.underlying dst with
  | some .string => match C.P.underlying src with | some .string => .P | _ => .R
  | some (.slice _) => .P
  | _ => .P
 | .buildSlice t .. => if leads C.P t && (!draw || marked C t) then .W else .P
 | .load .. | .lookup .. => .R
 | .alloc _ | .box .. | .makeSlice .. | .makeMap .. | .range .. => .A
 | .call c => match c.callee with
  | .builtin .len | .builtin .min | .builtin .max => .P
  | .value (.func f) => if C.shared f || adopts C f then .W else if draw then .R else .W
  | .value _ => if draw then .R else .W
  | _ => .W
 | _ => .W

abbrev Env := Operand → D

def opP (C : Cx) (o : Oper) (ρ : Env) : Option D :=
 match o.op with
 | .move x | .assign x => some (ρ x)
 | .pick c a b => match ρ c with | .bool t => some (if t then ρ a else ρ b) | _ => none
 | .build t parts => match C.P.underlying t with
  | some (.struct fs) => match zeroD C.P t with
   | some (.agg z) => if fs.toList.all (fun f => (szOf C.P f.type).isSome) then (buildD C.P fs.toList (parts.toList.map fun p => (p.1, ρ p.2)) z).map .agg else none
   | _ => none
  | _ => none
 | .buildSlice t len parts => buildL C.P t len (parts.toList.map fun p => (p.1, ρ p.2))
 | .nilCheck x => match ρ x with
  | .ptr cs => some (.ptr cs)
  | .pref b v i off => some (.pref b v i off)
  | .fn f a c => some (.fn f a c)
  | _ => none
 | .binOp op t x y _ => match binD op (ρ x) (ρ y) with
  | some d => some d
  | none => (C.P.underlying t).bind fun u => match eqD op u (ρ x) (ρ y) with
   | some d => some d
   | none => match eqS C.P op t (ρ x) (ρ y) with
    | some d => some d
    | none => eqN op u (ρ x) y
 | .unOp op _ x => unD op (ρ x)
 | .convert src dst x => match C.P.underlying src, C.P.underlying dst, ρ x with
  | some .string, some (.slice e), .str s => match C.P.underlying e with
   | some (.int .u8) => if s.size ≤ 140737488351232 then some (.ints .u8 (s.data.toList.map fun b => (b.toNat : Int))) else none
   | _ => none
  | _, _, _ => convD C.P src dst (ρ x)
 | .makeFunc (.func f) first captured => some (.fn f (first.toList.map ρ) (captured.toList.map ρ))
 | .fieldAddr s x f => (offOf C.P s f).bind fun off => match ρ x with
  | .ptr cs => some (.ptr (cs.drop off))
  | .pref b v i o => some (.pref b v i (o + off))
  | _ => none
 | .field t x f => match C.P.underlying t with
  | some (.struct fs) => (fs[f]?).bind fun y => (aggB C.P y.type).bind fun a => (szOf C.P y.type).bind fun s => match ρ x with
   | .agg cs => ldCells a s (cs.drop y.offset)
   | _ => none
  | _ => none
 | .indexAddr t x ix => indexD C.P t (ρ x) (ρ ix)
 | .index t x ix => match C.P.underlying t, ρ x, ρ ix with
  | some .string, .str s, .int _ i => if 0 ≤ i then if i < (s.size : Int) then some (.int .u8 ((s.data.getD i.toNat 0).toNat : Int)) else none else none
  | _, _, _ => none
 | .extract x i => match ρ x with | .tuple vs => vs[i]? | _ => none
 | .slice t x lo hi mx => sliceD C.P t (ρ x) (lo.map ρ) (hi.map ρ) (mx.map ρ)
 | .call c => match c.callee with
  | .builtin .len => match c.args.toList, c.argTypes.toList with | [x], t :: _ => (lenD C.P t (ρ x)).map fun (n : Nat) => D.int .i64 (n : Int) | _, _ => none
  | .builtin .min => match c.args.toList with | x :: l => minD (ρ x) (l.map ρ) | _ => none
  | .builtin .max => match c.args.toList with | x :: l => maxD (ρ x) (l.map ρ) | _ => none
  | _ => none
 | _ => none

def icall (C : Cx) (call : Run) (f : FuncId) (ds : List D) : Option D :=
 (C.P.funcs[f]?).bind fun fn => (call f (fn.params.toList.zipWith (norm C.P) ds ++ ds.drop fn.params.size) []).bind fun r => (reify r.2 DEPTH r.1).map (normR C.P fn.resultTypes.toList)
def callee (c : Call) (ρ : Env) : Option (FuncId × List D) :=
 match c.callee with
 | .value x => match ρ x with
  | .fn f a cp => some (f, a ++ c.args.toList.map ρ ++ cp)
  | _ => none
 | _ => none
def sameD : TypeDesc → D → D → Option Bool
 | .int j, .int k a, .int k' b => if k = k' ∧ k = j then some (a == b) else none
 | .string, .str a, .str b => some (a == b)
 | .bool, .bool a, .bool b => some (a == b)
 | _, _, _ => none
def findD (kd : TypeDesc) (k : D) : List (D × D) → Nat → Option (Option (Nat × D))
 | [], _ => some none
 | e :: es, i => match sameD kd k e.1 with
  | some true => some (some (i, e.2))
  | some false => findD kd k es (i + 1)
  | none => none
def mapAt (h : Heap) : D → Option (List (D × D))
 | .nilM => some []
 | .mlit ks vs => some (ks.zip vs)
 | .mref b v => match h.get b v with | .map es => some es | _ => none
 | _ => none
def keyF (P : Program) (r : TypeId → D → Bool) (xs : List D) : List Field → Bool
 | [] => true
 | f :: fs => !(f.name == "_") && (match (aggB P f.type).bind fun a => (szOf P f.type).bind fun s => ldCells a s (xs.drop f.offset) with
  | some x => r f.type x
  | none => false) && keyF P r xs fs
def keyV (P : Program) : Nat → TypeId → D → Bool
 | 0, _, _ => false
 | n + 1, t, x => match P.underlying t, x with
  | some .bool, .bool _ => true
  | some (.int _), .int _ _ => true
  | some .string, .str _ => true
  | some (.struct fs), .agg xs => keyF P (keyV P n) xs fs.toList
  | _, _ => false
def findS (P : Program) (t : TypeId) (k : D) : List (D × D) → Nat → Option (Option (Nat × D))
 | [], _ => some none
 | e :: es, i => match eqV P 4 t k e.1 with
  | some true => some (some (i, e.2))
  | some false => findS P t k es (i + 1)
  | none => none
def aggD (d : D) : Bool := match d with | .agg _ => true | _ => false
def lookD (P : Program) (h : Heap) (t : TypeId) (m k : D) (ok : Bool) : Option D :=
 match P.underlying t with
 | some (.map kt et) => (P.underlying kt).bind fun kd => if sameD kd k k = some true then (zeroD P et).bind fun z => (mapAt h m).bind fun es => (findD kd k es 0).map fun r =>
   match r with
   | some (_, v) => if ok then .tuple [v, .bool true] else v
   | none => if ok then .tuple [z, .bool false] else z
   else if aggD k && keyV P 4 kt k then (zeroD P et).bind fun z => (mapAt h m).bind fun es => (findS P kt k es 0).map fun r =>
   match r with
   | some (_, v) => if ok then .tuple [v, .bool true] else v
   | none => if ok then .tuple [z, .bool false] else z
   else none
 | _ => none
def updD (P : Program) (h : Heap) (t : TypeId) (m k x : D) : Option Heap :=
 match m with
 | .mref b v => (P.underlying t).bind fun u => match u with
  | .map kt _ => (P.underlying kt).bind fun kd => (h[b]?).bind fun B => if B.ver = v ∧ B.fz = false then match B.body with
   | .map es => if sameD kd k k = some true then (findD kd k es 0).map fun r => match r with
    | some (i, _) => h.set b { B with body := .map (es.set i (k, x)) }
    | none => h.set b { B with body := .map (es ++ [(k, x)]) }
    else if aggD k && keyV P 4 kt k then (findS P kt k es 0).bind fun r => match r with
    | none => some (h.set b { B with body := .map (es ++ [(k, x)]) })
    | some _ => none
    else none
   | _ => none
   else none
  | _ => none
 | _ => none
def opR (C : Cx) (call : Run) (o : Oper) (ρ : Env) (h : Heap) : Option D :=
 match o.op with
 | .load t p => ld C.P h t (ρ p)
 | .lookup t m k ok => lookD C.P h t (ρ m) (ρ k) ok
 | .convert src dst x => match C.P.underlying src, C.P.underlying dst with
  | some (.slice e), some .string => match C.P.underlying e with
   | some (.int .u8) => match reify h DEPTH (ρ x) with
    | some (.ints .u8 xs) => some (.str (bytesD xs))
    | _ => none
   | _ => none
  | _, _ => none
 | .call c => (callee c ρ).bind fun p => if C.shared p.1 then none else (p.2.mapM (reify h DEPTH)).bind fun ds => (icall C call p.1 ds).bind fun r =>
   if p.2.all (D.isT 3) || r.flat 3 then some r else none
 | _ => none

def zrow (P : Program) (t : TypeId) : D → D
 | .agg cs => norm P t (.agg cs)
 | d => d
def opA (C : Cx) (o : Oper) (ρ : Env) : Option (Body × (Nat → Nat → D)) :=
 match o.op with
 | .makeMap t none => some (.map [], fun b v => .mref b v)
 | .range t x => (C.P.underlying t).bind fun u => match u, ρ x with
  | .string, .str s => some (.iter s 0, fun b v => .pref b v 0 0)
  | _, _ => none
 | .alloc t => (zeroD C.P t).bind fun z => (szOf C.P t).bind fun s => if 0 < s ∧ z.cells.length = s ∧ z.cells.all D.one then some (.rows s [z], fun b v => .pref b v 0 0) else none
 | .box t x => (szOf C.P t).bind fun s => if 0 < s ∧ (ρ x).cells.length = s ∧ (ρ x).cells.all D.one then some (.rows s [ρ x], fun b v => .pref b v 0 0) else none
 | .makeSlice t l c => (elemOf? C.P t).bind fun e => (szOf C.P e).bind fun s => (bytesOf C.P e).bind fun by_ => (zeroD C.P e).bind fun z => match ρ l, ρ c with
  | .int _ n, .int _ m => if 0 ≤ n then if n ≤ m then if m ≤ 140737488351232 then if (by_ : Int) * m ≤ 140737488351232 then if 0 < s ∧ z.cells.length = s ∧ z.cells.all D.one then
    match intK C.P e, z with
    | some k, .int k' 0 => if k = k' then some (.ints k (List.replicate n.toNat 0), fun b v => .sref b v 1 0 n.toNat) else none
    | _, _ => if (zrow C.P e z).cells.length = s ∧ (zrow C.P e z).cells.all D.one then some (.rows s (List.replicate n.toNat (zrow C.P e z)), fun b v => .sref b v s 0 n.toNat) else none else none else none else none else none else none
  | _, _ => none
 | _ => none
def putA (base : Nat) (dst : Option Tmp) (h : Heap) (x : Body × (Nat → Nat → D)) : Option (D × Heap) :=
 dst.bind fun t => (h[base + t]?).map fun B => (x.2 (base + t) (B.ver + 1), h.set (base + t) ⟨B.ver + 1, false, x.1⟩)

def st (P : Program) (h : Heap) (t : TypeId) (p v : D) : Option Heap :=
 (szOf P t).bind fun s => match p with
  | .pref b w i off => match h[b]? with
   | some B => if B.ver = w ∧ B.fz = false then match B.body with
    | .ints k xs => match v with
     | .int k' n => if k = k' ∧ off = 0 ∧ i < xs.length ∧ s = 1 then some (h.set b { B with body := .ints k (xs.set i n) }) else none
     | _ => none
    | .rows sz xs => match xs[i]? with
     | some d => if v.cells.length = s ∧ off + s ≤ d.cells.length ∧ v.cells.all D.one then
       some (h.set b { B with body := .rows sz (xs.set i (if off = 0 ∧ s = sz then v else .agg (upd d.cells off v.cells))) }) else none
     | none => none
    | .map _ | .iter _ _ => none
    | .dead => none else none
   | none => none
  | _ => none
def isClear (b : Builtin) : Bool := match b with | .clear => true | _ => false
def clearD (P : Program) (h : Heap) (t : TypeId) (x : D) : Option (D × Heap) :=
 (elemOf? P t).bind fun e => (szOf P e).bind fun s => (zeroD P e).bind fun z => if z.cells.length = s ∧ z.cells.all D.one then match x.bare with
  | .nilS | .ints _ [] | .list _ [] => some (.tuple [], h)
  | .sref b v sz off len => if len = 0 then some (.tuple [], h) else (h[b]?).bind fun B => if B.ver = v ∧ B.fz = false ∧ s = sz then match B.body with
   | .rows s' xs => if s' = s then some (.tuple [], h.set b { B with body := .rows s (xs.take off) }) else none
   | _ => none
   else none
  | _ => none
  else none
def nextD (h : Heap) (it : D) (isStr : Bool) : Option (D × Heap) :=
 match it with
 | .pref b v 0 0 => (h[b]?).bind fun B => if B.ver = v ∧ B.fz = false ∧ isStr = true then match B.body with
  | .iter s pos => if pos < s.size then some (.tuple [.bool true, .int .i64 (pos : Nat), .int .i32 ((Utf8.decode s pos).1 : Nat)], h.set b { B with body := .iter s (pos + (Utf8.decode s pos).2) }) else some (.tuple [.bool false], h)
  | _ => none
  else none
 | _ => none
def kill1 (h : Heap) (b : Nat) : Heap := match h[b]? with | some B => h.set b { B with body := .dead } | none => h
def roomy (n by_ : Nat) : Bool := decide ((n + 192) * (by_ + 1) ≤ 70368744177664)
def growI (base : Nat) (dst : Option Tmp) (h : Heap) (by_ : Nat) (k : IntKind) (ys : List Int) : D → Option (D × Heap)
 | .nilS => if roomy ys.length by_ then putA base dst h (.ints k ys, fun b v => .sref b v 1 0 ys.length) else none
 | .sref b v 1 0 len => match h[b]? with
  | some B => if B.ver = v ∧ B.fz = false then match B.body with
   | .ints k' xs => if k' = k ∧ len = xs.length then if roomy (xs.length + ys.length) by_ then
     putA base dst (kill1 h b) (.ints k (xs ++ ys), fun b v => .sref b v 1 0 (xs.length + ys.length)) else none else none
   | _ => none
   else none
  | none => none
 | _ => none
def growR (base : Nat) (dst : Option Tmp) (h : Heap) (by_ s : Nat) (ys : List D) : D → Option (D × Heap)
 | .nilS => if roomy ys.length by_ then putA base dst h (.rows s ys, fun b v => .sref b v s 0 ys.length) else none
 | .sref b v s' 0 len => match h[b]? with
  | some B => if B.ver = v ∧ B.fz = false ∧ s' = s then match B.body with
   | .rows s'' xs => if s'' = s ∧ len = xs.length then if roomy (xs.length + ys.length) by_ then
     putA base dst (kill1 h b) (.rows s (xs ++ ys), fun b v => .sref b v s 0 (xs.length + ys.length)) else none else none
   | _ => none
   else none
  | none => none
 | _ => none
def src (h : Heap) (d : D) : Option D :=
 match d.bare with
 | .str s => some (.ints .u8 (s.data.toList.map fun b => (b.toNat : Int)))
 | .sref b v sz off len => reify h 1 (.sref b v sz off len)
 | .ints k xs => some (.ints k xs)
 | .list s xs => some (.list s xs)
 | .nilS => some .nilS
 | _ => none
def appendD (P : Program) (base : Nat) (dst : Option Tmp) (h : Heap) (t : TypeId) (x y : D) : Option (D × Heap) :=
 (elemOf? P t).bind fun e => (szOf P e).bind fun s => (bytesOf P e).bind fun by_ => (zeroD P e).bind fun z => if z.cells.length = s then match src h y with
  | some .nilS => match x.bare with
   | .nilS | .ints _ _ | .list _ _ | .sref _ _ _ _ _ => some (x, h)
   | _ => none
  | some (.ints k ys) => if s = 1 then match x with
   | .lit (.ints k' xs) => if k = k' then if ys.isEmpty then some (x, h) else if roomy (xs.length + ys.length) by_ then putA base dst h (.ints k (xs ++ ys), fun b v => .sref b v 1 0 (xs.length + ys.length)) else none else none
   | x => growI base dst (h) by_ k ys x
   else none
  | some (.list s' ys) => if s = s' ∧ intK P e = none then match x with
   | .lit (.list s'' xs) => if s'' = s' then if ys.isEmpty then some (x, h) else if roomy (xs.length + ys.length) by_ then putA base dst h (.rows s' (xs ++ ys), fun b v => .sref b v s' 0 (xs.length + ys.length)) else none else none
   | x => growR base dst (h) by_ s ys x
   else none
  | _ => none else none
def copyD (P : Program) (h : Heap) (t : TypeId) (x y : D) : Option (D × Heap) :=
 (elemOf? P t).bind fun e => (szOf P e).bind fun s => if s = 1 then match x, src h y with
  | .sref b v 1 off len, some (.ints k ys) => match h[b]? with
   | some B => if B.ver = v ∧ B.fz = false then match B.body with
    | .ints k' xs => if k' = k ∧ off + len ≤ xs.length then
      some (.int .i64 ((min ys.length len : Nat) : Int), h.set b { B with body := .ints k (xs.take off ++ (ys.take (min ys.length len) ++ xs.drop (off + min ys.length len))) }) else none
    | _ => none
    else none
   | none => none
  | _, _ => none
  else none

def rowAt (h : Heap) (b v s len : Nat) : Option (List D) :=
 (h[b]?).bind fun B => if B.ver = v ∧ B.fz = false then match B.body with
  | .rows s' xs => if s' = s ∧ len = xs.length ∧ xs.all (fun d => d.cells.all (D.isT 2)) = true ∧ xs.isEmpty = false then some xs else none
  | _ => none
  else none
def cellTo (P : Program) (h : Heap) (j : Option Nat) (b' u' i : Nat) (ty : TypeId) (c : D) : Option D :=
 if j = some i then match c with
  | .sref b v s 0 len => (rowAt h b v s len).map fun _ => .sref b' u' s 0 len
  | c => if c.isT 2 then some c else none
 else (reify h DEPTH c).map (norm1 P ty)
def cellsTo (P : Program) (h : Heap) (j : Option Nat) (b' u' : Nat) : Nat → List TypeId → List D → Option (List D)
 | _, [], [] => some []
 | i, ty :: ts, c :: cs => (cellTo P h j b' u' i ty c).bind fun c' => (cellsTo P h j b' u' (i + 1) ts cs).map (c' :: ·)
 | _, _, _ => none
def rowJ (h : Heap) (j : Option Nat) (cs : List D) : Option (Nat × Nat × Nat × List D) := j.bind fun j => (cs[j]?).bind fun c => match c with
 | .sref b v s 0 len => (rowAt h b v s len).map fun xs => (b, v, s, xs)
 | _ => none
def reachO (h : Heap) (j : Option Nat) : Nat → List D → List Nat
 | _, [] => []
 | i, c :: cs => (if j = some i then [] else reach h DEPTH c) ++ reachO h j (i + 1) cs
def pointee (P : Program) (t : TypeId) : Option TypeId := match P.underlying t with | some (.pointer T) => some T | _ => none
def oneAgg : Body → Option (Nat × List D)
 | .rows n [.agg cs] => some (n, cs)
 | _ => none
def methHeap (j : Option Nat) (n : Nat) (cin : List D) (rj : Option (Nat × Nat × Nat × List D)) : Heap :=
 ⟨1, false, .rows n [.agg cin]⟩ :: match j with
  | none => []
  | some _ => [match rj with | some (_, _, s, xs) => ⟨1, false, .rows s xs⟩ | none => noBlk]
def clash (l : List Nat) (b : Nat) (rj : Option (Nat × Nat × Nat × List D)) : Bool := l.contains b || match rj with | some (b2, _) => l.contains b2 || b2 == b | none => false
def handedH (h : Heap) (rj : Option (Nat × Nat × Nat × List D)) : Heap := match rj with | some q => kill1 h q.1 | none => h
def methD (C : Cx) (call : Run) (base : Nat) (dst : Option Tmp) (h : Heap) (f : FuncId) (ds : List D) (j : Option Nat) : Option (D × Heap) :=
 match ds with
 | .pref b v 0 0 :: rest =>
  (C.P.funcs[f]?).bind fun fn => (fn.params[0]?).bind fun t0 => (pointee C.P t0).bind fun T => (h[b]?).bind fun B => if B.ver = v ∧ B.fz = false then (oneAgg B.body).bind fun nc =>
   (rest.mapM (reify h DEPTH)).bind fun rest' => (cellsTo C.P h j 1 1 0 (cellTypes C.P 8 T) nc.2).bind fun cin =>
   if clash (rest.flatMap (reach h DEPTH) ++ reachO h j 0 nc.2) b (rowJ h j nc.2) = false ∧ cin.length = nc.1 ∧ cin.all D.one = true ∧ (reachO h j 0 nc.2).isEmpty = true then
   (call f (fn.params.toList.zipWith (norm C.P) (.pref 0 1 0 0 :: rest') ++ (.pref 0 1 0 0 :: rest').drop fn.params.size) (methHeap j nc.1 cin (rowJ h j nc.2))).bind fun r =>
   (r.2[0]?).bind fun B0 => if B0.ver = 1 ∧ B0.fz = false then (oneAgg B0.body).bind fun mc =>
    if clash (reachO r.2 j 0 mc.2) 0 (rowJ r.2 j mc.2) = false ∧ mc.1 = nc.1 ∧ r.1.flat 3 = true then
    let h2 := handedH (freeze h (rest.flatMap (reach h DEPTH) ++ reachO h j 0 nc.2)) (rowJ h j nc.2)
    match rowJ r.2 j mc.2 with
    | none => (cellsTo C.P r.2 j 0 0 0 (cellTypes C.P 8 T) mc.2).bind fun cout => if cout.length = nc.1 ∧ cout.all D.one = true then some (r.1, h2.set b ⟨v, false, .rows nc.1 [.agg cout]⟩) else none
    | some (_, _, s, xs) => dst.bind fun t => (h2[base + t]?).bind fun Bd => (cellsTo C.P r.2 j (base + t) (Bd.ver + 1) 0 (cellTypes C.P 8 T) mc.2).bind fun cout =>
      if base + t ≠ b ∧ cout.length = nc.1 ∧ cout.all D.one = true then some (r.1, (h2.set (base + t) ⟨Bd.ver + 1, false, .rows s xs⟩).set b ⟨v, false, .rows nc.1 [.agg cout]⟩) else none
    else none else none else none else none
 | _ => none
def isPref0 : List D → Bool
 | .pref _ _ 0 0 :: _ => true
 | _ => false
def keeps (C : Cx) (g : FuncId) (h : Heap) : Bool := !(C.plan g (1000000 + h.length)).isEmpty
def sharesNow (C : Cx) (g : FuncId) (ds : List D) (h : Heap) : Bool := keeps C g h || (!(ds.all (D.isT 3)) && (C.plan g 999999).isEmpty)
def adoptD (C : Cx) (call : Run) (base : Nat) (dst : Option Tmp) (h : Heap) (f : FuncId) (ds : List D) : Option (D × Heap) :=
 (C.P.funcs[f]?).bind fun fn => (call f (fn.params.toList.zipWith (norm C.P) ds ++ ds.drop fn.params.size) []).bind fun r => match r.1 with
  | .sref b v s 0 len => (r.2[b]?).bind fun B => if B.ver = v ∧ B.fz = false ∧ len ≠ 0 then match B.body with
   | .ints k xs => if s = 1 then putA base dst h (.ints k xs, fun b v => .sref b v 1 0 len) else none
   | .rows s' xs => if s' = s then if xs.all (fun d => d.cells.all (D.isT 2)) then putA base dst h (.rows s xs, fun b v => .sref b v s 0 len) else none else none
   | _ => none
   else none
  | .list s [] => some (.list s [], h)
  | .ints k [] => some (.ints k [], h)
  | .nilS => some (.nilS, h)
  | _ => none
def opW (C : Cx) (call : Run) (draw : Bool) (base : Nat) (o : Oper) (ρ : Env) (h : Heap) : Option (D × Heap) :=
 match o.op with
 | .store t a v => (st C.P h t (ρ a) (ρ v)).map fun h' => (.tuple [], h')
 | .buildSlice t len parts => ((parts.toList.map fun p => ρ p.2).mapM (reify h DEPTH)).bind fun es => (buildL C.P t len ((parts.toList.map (·.1)).zip es)).map fun d => (d, freeze h ((parts.toList.map fun p => ρ p.2).flatMap (reach h DEPTH)))
 | .next it isStr => nextD h (ρ it) isStr
 | .mapUpdate t m k x => (updD C.P h t (ρ m) (ρ k) (ρ x)).map fun h' => (.tuple [], h')
 | .call c => match c.callee with
  | .builtin .append => match c.args.toList, c.argTypes.toList with
   | [x, y], t :: ts => if ts.all (fun u => (C.P.underlying u).isSome && (intK C.P u).isNone) then appendD C.P base o.dst h t (ρ x) (ρ y) else none
   | _, _ => none
  | .builtin .copy => match c.args.toList, c.argTypes.toList with
   | [x, y], t :: _ => copyD C.P h t (ρ x) (ρ y)
   | _, _ => none
  | .builtin b => if isClear b then match c.args.toList, c.argTypes.toList with
   | [x], t :: _ => clearD C.P h t (ρ x)
   | _, _ => none
   else none
  | .value _ => (callee c ρ).bind fun p =>
   if (methOf C p.1).isSome && isPref0 p.2 then (methOf C p.1).bind fun j => methD C call base o.dst h p.1 p.2 j
   else if C.shared p.1 && sharesNow C p.1 p.2 h then call p.1 p.2 h
   else if adopts C p.1 then (p.2.mapM (reify h DEPTH)).bind fun ds => adoptD C call base o.dst (if p.2.all (D.isT 3) then h else freeze h (p.2.flatMap (reach h DEPTH))) p.1 ds
   else (p.2.mapM (reify h DEPTH)).bind fun ds => (icall C call p.1 ds).map fun r =>
    (r, if p.2.all (D.isT 3) || r.flat 3 then h else freeze h (p.2.flatMap (reach h DEPTH)))
  | _ => none
 | _ => none

structure St where
 tmps : List D
 heap : Heap
def St.ev (s : St) : Env
 | .tmp t => s.tmps.getD t (.tuple [])
 | .const v => ofV v
 | .global _ => .top
 | .func f => .fn f [] []
def putT (l : List D) (dst : Option Tmp) (d : D) : List D := match dst with | some t => l.set t d | none => l

def maskH (base : Nat) (m : List Nat) (h : Heap) : Heap := m.foldl (fun h t => kill1 h (base + t)) h
def okCell (base : Nat) (m : List Nat) : D → Bool
 | .sref b _ _ _ _ => m.any fun t => base + t == b
 | .mref _ _ | .pref _ _ _ _ | .agg _ | .tuple _ | .fn _ _ _ => false
 | _ => true
def okRefs (base : Nat) (m : List Nat) : D → Bool
 | .agg cs => cs.all (okCell base m)
 | d => okCell base m d
def effOk (C : Cx) (base : Nat) (m : List Nat) (o : Oper) (ρ : Env) : Bool :=
 m.isEmpty || match o.op with
 | .store _ a _ => match ρ a with | .pref b _ _ _ => m.any fun t => base + t == b | _ => true
 | .call c => match c.callee, c.args.toList with
  | .builtin .append, x :: _ => (match ρ x with | .sref b _ _ _ _ => m.any fun t => base + t == b | _ => true) && (match o.dst with | some t => m.any (· == t) | none => true)
  | .value _, _ => (match callee c ρ with
   | some (f, .pref b _ 0 0 :: rest) => (methOf C f == some none) && (m.any fun t => base + t == b) && rest.all (D.isT 3)
   | _ => false)
  | _, _ => false
 | .buildSlice _ _ parts => (parts.toList.map fun p => ρ p.2).all (okRefs base m)
 | _ => false
def opv (C : Cx) (call : Run) (draw : Bool) (base : Nat) (m : List Nat) (o : Oper) (ρ : Env) (h : Heap) : Option (D × Heap) :=
 match cls C draw o with
 | .P => (opP C o ρ).map fun d => (d, h)
 | .R => (opR C call o ρ (maskH base m h)).map fun d => (d, h)
 | .A => (opA C o ρ).bind (putA base o.dst h)
 | .W => if effOk C base m o ρ then opW C call draw base o ρ h else none
def wantD (ops : Array Oper) (o : Oper) (s : St) : Option Bool :=
 match o.guard with
 | none => some true
 | some (j, want) => match (ops[j]?).bind (·.dst) with
  | some t => match s.tmps.getD t .top with
   | .bool b => some (b == want)
   | .tuple _ => some false
   | _ => none
  | none => none
def opStep (C : Cx) (call : Run) (draw : Bool) (base : Nat) (ops : Array Oper) (m : List Nat) (o : Oper) (s : St) : Option St :=
 (wantD ops o s).bind fun w =>
  if w then (opv C call draw base m o s.ev s.heap).map fun r => ⟨putT s.tmps o.dst r.1, r.2⟩
  else some ⟨putT s.tmps o.dst (.tuple []), s.heap⟩
abbrev Plan := List (Nat × List Nat)
def Plan.at (p : Plan) (i : Nat) : List Nat := match p with | [] => [] | (j, m) :: p => if j = i then m else Plan.at p i
def opsRun (C : Cx) (call : Run) (draw : Bool) (base : Nat) (ops : Array Oper) (p : Plan) : Nat → List Oper → St → Option St
 | _, [], s => some s
 | i, o :: l, s => (opStep C call draw base ops (p.at i) o s).bind (opsRun C call draw base ops p (i + 1) l)
def killA (C : Cx) (base : Nat) (ops : List Oper) (s : St) : St :=
 ⟨s.tmps, ops.foldl (fun h o => if cls C true o = .A then match o.dst with | some t => kill1 h (base + t) | none => h else h) s.heap⟩

inductive X where
 | normal
 | exit (id : Nat)
 | ret

abbrev Forget := FuncId → Nat → List Nat × List Nat
def forget (base : Nat) (x : List Nat × List Nat) (s : St) : St :=
 ⟨x.1.foldl (fun l t => l.set t .top) s.tmps, x.2.foldl (fun h t => kill1 h (base + t)) s.heap⟩
def resultsD (P : Program) (fn : Func) (s : St) : Option D :=
 (fn.results.toList.mapM fun (r : ResultVar) => match r with | .tmp t => some (s.tmps.getD t (.tuple [])) | .cell a t => ld P s.heap t (s.tmps.getD a (.tuple []))).map fun l =>
  match l with | [d] => d | l => .tuple l
def tidy (h : Heap) (n : Nat) : Heap := if (h.drop n).all (fun B => B.ver == 0) then h.take n else h

structure NT where
 r0 : Code
 id : Nat
 ops : Array Oper
 o1 : Oper
 o2 : Oper
 ta : Tmp
 tc : Tmp
 T : TypeId
 x : Code
 z : Code
def nilOps (tc : Tmp) : List Oper → Option (Oper × Oper × Tmp × TypeId)
 | [o1, o2] => match o1.op, o1.dst, o1.guard, o2.op, o2.dst, o2.guard with
  | .move (.tmp 0), some ta, none, .binOp .eql T (.tmp ta') (.const (.slice none 0 0)) _, some tc', none => if ta = ta' ∧ tc = tc' then some (o1, o2, ta, T) else none
  | _, _, _, _, _, _ => none
 | _ => none
def nilTest : Code → Option NT
 | .seq r0 (.seq (.seq (.region id ops false) (.cond (.tmp tc) x .skip)) z) => (nilOps tc ops.toList).map fun q => ⟨r0, id, ops, q.1, q.2.1, q.2.2.1, tc, q.2.2.2, x, z⟩
 | _ => none
def isE : D → Bool
 | .ints _ [] | .list _ [] => true
 | _ => false
def NT.to (n : NT) (s : St) (b : Bool) : St := ⟨putT (putT s.tmps (some n.ta) (s.ev (.tmp 0))) (some n.tc) (.bool b), s.heap⟩
def emptyRet (P : Program) (fn : Func) : Option (X × St) → Bool
 | some (.ret, s) => match resultsD P fn s with | some .nilS | some (.sref _ _ _ _ 0) | some (.ints _ []) | some (.list _ []) => true | _ => false
 | _ => false

structure LexFns where
 all : FuncId
 kind : FuncId
 idx : FuncId
 len : FuncId
 pass : FuncId
 sub : FuncId
def tokD (k : Int) (t : ByteArray) (n : Int) : D := .agg [.int .i64 k, .str t, .int .i64 n]
def lexC (s : ByteArray) : Int := ((s.data.getD 0 0).toNat : Int)
def lexBlanks : ByteArray := ⟨#[32, 9, 10]⟩
abbrev Icall := FuncId → List D → Option D
def icallP (P : Program) (call : Run) (f : FuncId) (ds : List D) : Option D :=
 (P.funcs[f]?).bind fun fn => (call f (fn.params.toList.zipWith (norm P) ds ++ ds.drop fn.params.size) []).bind fun r => (reify r.2 DEPTH r.1).map (normR P fn.resultTypes.toList)
def lexBlank (L : LexFns) (ic : Icall) (s : ByteArray) : Option Bool :=
 if lexC s = 35 then some true else (ic L.idx [.str lexBlanks, .int .u8 (lexC s)]).bind fun r => match r with
  | .int .i64 i => some (decide (0 ≤ i))
  | _ => none
def lexStep (L : LexFns) (ic : Icall) (s : ByteArray) : Option (Int × Bool × Int) :=
 (ic L.kind [.int .u8 (lexC s)]).bind fun r => match r with
  | .tuple [.int .i64 k, .str more] => (lexBlank L ic s).bind fun b =>
   if b = false ∧ k = 0 then some (0, false, 0) else
   (ic L.len [.str s, .str more]).bind fun r => match r with
    | .int .i64 n => if b then (ic L.pass [.str s]).bind fun r => match r with
     | .int .i64 n => some (k, true, n)
     | _ => none
     else some (k, false, n)
    | _ => none
  | _ => none
def lexLoop (L : LexFns) (ic : Icall) : Nat → ByteArray → Int → List D → Option D
 | 0, _, _, _ => none
 | m + 1, s, line, acc =>
  if s.size = 0 then some (.tuple [if acc.isEmpty then .nilS else .list 3 acc, .int .i64 line, .int .i64 0])
  else (lexStep L ic s).bind fun r =>
   if r.2.1 = false ∧ r.1 = 0 then some (.tuple [.nilS, .int .i64 line, .int .i64 21])
   else if 1 ≤ r.2.2 ∧ r.2.2 ≤ (s.size : Int) ∧ acc.length < 1000000 ∧ 0 ≤ line ∧ line < 1000000000 then
    lexLoop L ic m (s.extract r.2.2.toNat s.size) (if lexC s = 10 then line + 1 else line) (if r.2.1 then acc else acc ++ [tokD r.1 (s.extract 0 r.2.2.toNat) line])
   else none
def idxB : List UInt8 → Int → Int
 | [], _ => -1
 | b :: l, c => if (b.toNat : Int) = c then 0 else if idxB l c = -1 then -1 else idxB l c + 1
def lexOrc (P : Program) (L : LexFns) (call : Run) (f : FuncId) (ds : List D) : Option D :=
 if f = L.all then match ds with
  | [.str s] => lexLoop L (icallP P call) (s.size + 1) s 1 []
  | _ => none
 else if f = L.sub then match ds with
  | [.str s, .int .u8 c] => if 0 ≤ c ∧ c < 256 then some (.int .i64 (idxB s.data.toList c)) else none
  | _ => none
 else none

mutual
def run (C : Cx) (F : Forget) : Nat → Run
 | 0, _, _, _ => none
 | k + 1, f, ds, h => (C.P.funcs[f]?).bind fun fn => fn.body.bind fun c => if C.ok f ∧ ds.length ≤ fn.ntmps then
   if ds.length == 1 && ds.all isE && !(C.plan f 999998).isEmpty && h.isEmpty then
    (nilTest c).bind fun n => if (elemOf? C.P n.T).isSome then (exec C F k f 0 n.r0 ⟨ds ++ List.replicate (fn.ntmps - ds.length) (.tuple []), List.replicate fn.ntmps noBlk⟩).bind fun r =>
     match r.1 with
     | .normal => if decide (n.ta < r.2.tmps.length ∧ n.tc < r.2.tmps.length) && isE (r.2.ev (.tmp 0)) && emptyRet C.P fn (exec C F k f 0 n.x (n.to r.2 true)) && emptyRet C.P fn (exec C F k f 0 n.z (n.to r.2 false)) then some (ds.headD .nilS, []) else none
     | _ => none
     else none
   else (exec C F k f h.length c ⟨ds ++ List.replicate (fn.ntmps - ds.length) (.tuple []), h ++ List.replicate fn.ntmps noBlk⟩).bind fun r =>
    match r.1 with
    | .exit _ => none
    | _ => (resultsD C.P fn r.2).map fun d => (d, tidy r.2.heap h.length)
  else if h.isEmpty ∧ (fn.name == "runtime.NumGoroutine") = false then (C.orc (run C F k) f ds).map fun d => (d, []) else none
def exec (C : Cx) (F : Forget) : Nat → FuncId → Nat → Code → St → Option (X × St)
 | 0, _, _, _, _ => none
 | k + 1, f, base, c, s => match c with
  | .skip => some (.normal, s)
  | .label _ => some (.normal, s)
  | .region id ops draw =>
   (opsRun C (run C F k) draw base ops (C.plan f id) 0 ops.toList (if draw then killA C base ops.toList (forget base (F f id) s) else forget base (F f id) s)).map fun s' => (.normal, s')
  | .seq x y => (exec C F k f base x s).bind fun r => match r.1 with
   | .normal => exec C F k f base y r.2
   | _ => some r
  | .cond c x y => match s.ev c with
   | .bool b => if b then exec C F k f base x s else exec C F k f base y s
   | _ => none
  | .block id x => (exec C F k f base x s).map fun r => match r.1 with
   | .exit id' => if id' = id then (.normal, r.2) else r
   | _ => r
  | .loop x => (exec C F k f base x s).bind fun r => match r.1 with
   | .normal => exec C F k f base (.loop x) r.2
   | _ => some r
  | .exit id => some (.exit id, s)
  | .ret => some (.ret, s)
  | _ => none
end
end Go.Proofs.YtlpbmajbalenjaaA
namespace Go.Proofs.YtlpbmajbalenjaaA
open Go

abbrev Phi := Nat → Nat → Option (Nat × Nat × Nat)
def noPhi : Phi := fun _ _ => none

inductive VRel (w : World) (S : Nat → Prop) : Phi → Value → D → Prop
 | top {φ v} : VRel w S φ v .top
 | bool {φ b} : VRel w S φ (.bool b) (.bool b)
 | int {φ k n} : VRel w S φ (.int k n) (.int k n)
 | str {φ s} : VRel w S φ (.string s) (.str s)
 | nilS {φ a} : VRel w S φ (.slice a 0 0) .nilS
 | ints {φ : Phi} {a : Option Addr} {cap : Nat} {k : IntKind} {xs : List Int} (hc : xs.length ≤ cap) (B o : Nat) (ha : xs ≠ [] → a = some ⟨B, o, none⟩ ∧ S B)
   (hx : ∀ i, i < xs.length → w.cell? ⟨B, o + i, none⟩ = some (.int k (xs.getD i 0))) : VRel w S φ (.slice a xs.length cap) (.ints k xs)
 | list {φ : Phi} {a : Option Addr} {cap sz : Nat} {xs : List D} (hc : xs.length ≤ cap) (B o : Nat) (vs : Nat → Nat → Value) (ha : xs ≠ [] → a = some ⟨B, o, none⟩ ∧ S B)
   (hsz : ∀ (i : Nat) (d : D), xs[i]? = some d → d.wide sz)
   (hx : ∀ (i : Nat) (d : D) (j : Nat) (c : D), xs[i]? = some d → d.cells[j]? = some c → w.cell? ⟨B, o + (i * sz + j), none⟩ = some (vs i j))
   (hv : ∀ (i : Nat) (d : D) (j : Nat) (c : D), xs[i]? = some d → d.cells[j]? = some c → VRel w S noPhi (vs i j) c) : VRel w S φ (.slice a xs.length cap) (.list sz xs)
 | nilP {φ} : VRel w S φ (.pointer none) .nilP
 | ptr {φ : Phi} {B o : Nat} {cs : List D} (vs : Nat → Value) (hS : S B) (hx : ∀ (j : Nat) (c : D), cs[j]? = some c → w.cell? ⟨B, o + j, none⟩ = some (vs j))
   (hv : ∀ (j : Nat) (c : D), cs[j]? = some c → VRel w S noPhi (vs j) c) : VRel w S φ (.pointer (some ⟨B, o, none⟩)) (.ptr cs)
 | agg {φ : Phi} {vs : Array Value} {ds : List D} (hl : vs.size = ds.length) (h : ∀ (i : Nat) (v : Value) (d : D), vs[i]? = some v → ds[i]? = some d → VRel w S φ v d) : VRel w S φ (.agg vs) (.agg ds)
 | tuple {φ : Phi} {vs : Array Value} {ds : List D} (hl : vs.size = ds.length) (h : ∀ (i : Nat) (v : Value) (d : D), vs[i]? = some v → ds[i]? = some d → VRel w S φ v d) : VRel w S φ (.tuple vs) (.tuple ds)
 | sref {φ : Phi} {A b v sz n off len cap : Nat} (h : φ b v = some (A, sz, n)) (hc : len ≤ cap) (hn : (off + cap) * sz ≤ n) :
   VRel w S φ (.slice (some ⟨A, off * sz, none⟩) len cap) (.sref b v sz off len)
 | sref0 {φ : Phi} {a : Option Addr} {b v sz off : Nat} : VRel w S φ (.slice a 0 0) (.sref b v sz off 0)
 | pref {φ : Phi} {A b v sz n i off : Nat} (h : φ b v = some (A, sz, n)) : VRel w S φ (.pointer (some ⟨A, i * sz + off, none⟩)) (.pref b v i off)
 | fn {φ : Phi} {f : FuncId} {as cs : Array Value} {ds es : List D} (h1 : as.size = ds.length) (h2 : cs.size = es.length) (ha : ∀ (i : Nat) (v : Value) (d : D), as[i]? = some v → ds[i]? = some d → VRel w S φ v d)
   (hc : ∀ (i : Nat) (v : Value) (d : D), cs[i]? = some v → es[i]? = some d → VRel w S φ v d) : VRel w S φ (.func (.func f) as cs) (.fn f ds es)
 | nilF {φ} : VRel w S φ .nilFunc .nilF
 | nilI {φ} : VRel w S φ .nilIface .nilI
 | nilM {φ} : VRel w S φ (.map none) .nilM
 | lit {φ : Phi} {a : Option Addr} {n : Nat} {d : D} (h : VRel w S noPhi (.slice a n n) d) (hd : d.bare = d) : VRel w S φ (.slice a n n) (.lit d)
 | mref {φ : Phi} {A b v sz n : Nat} (h : φ b v = some (A, sz, n)) : VRel w S φ (.map (some A)) (.mref b v)
 | mlit {φ : Phi} {A : Nat} {ms : Array MapEntry} {clock : Nat} {ks vs : List D} (hS : S A) (hA : w.heap[A]? = some (.map ms clock)) (hk : ms.size = ks.length) (hv : ms.size = vs.length)
   (hx : ∀ (i : Nat) (m : MapEntry) (d : D), ms[i]? = some m → ks[i]? = some d → VRel w S noPhi m.key d)
   (hy : ∀ (i : Nat) (m : MapEntry) (d : D), ms[i]? = some m → vs[i]? = some d → VRel w S noPhi m.val d) : VRel w S φ (.map (some A)) (.mlit ks vs)
 | mlit0 {φ : Phi} : VRel w S φ (.map none) (.mlit [] [])

theorem World.cell_heap {w w' : World} {b o : Nat} (h : w'.heap[b]? = w.heap[b]?) : w'.cell? ⟨b, o, none⟩ = w.cell? ⟨b, o, none⟩ := by
 simp only [World.cell?, h]

theorem VRel.mono {w w' : World} {S S' : Nat → Prop} (hS : ∀ b, S b → S' b) (hw : ∀ b, S b → w'.heap[b]? = w.heap[b]?) {φ : Phi} {v : Value} {d : D} (h : VRel w S φ v d) :
  ∀ {φ' : Phi}, (∀ b u x, φ b u = some x → φ' b u = some x) → VRel w' S' φ' v d := by
 induction h with
 | top => intros; exact .top
 | bool => intros; exact .bool
 | int => intros; exact .int
 | str => intros; exact .str
 | nilS => intros; exact .nilS
 | @ints _ _ _ _ xs hc B o ha hx =>
  intro φ' _
  refine .ints hc B o (fun h => ⟨(ha h).1, hS _ (ha h).2⟩) (fun i hi => ?_)
  have hne : xs ≠ [] := fun e => by rw [e] at hi; simp at hi
  rw [World.cell_heap (hw _ (ha hne).2)]; exact hx i hi
 | @list _ _ _ _ xs hc B o vs ha hsz hx hv ih =>
  intro φ' _
  refine .list hc B o vs (fun h => ⟨(ha h).1, hS _ (ha h).2⟩) hsz (fun i d j c h1 h2 => ?_) (fun i d j c h1 h2 => ih i d j c h1 h2 fun _ _ _ h => h)
  have hne : xs ≠ [] := fun e => by rw [e] at h1; simp at h1
  rw [World.cell_heap (hw _ (ha hne).2)]; exact hx i d j c h1 h2
 | nilP => intros; exact .nilP
 | ptr vs hB hx hv ih =>
  intro φ' _
  refine .ptr vs (hS _ hB) (fun j c h => ?_) (fun j c h => ih j c h fun _ _ _ h => h)
  rw [World.cell_heap (hw _ hB)]; exact hx j c h
 | agg hl h ih => intro φ' hφ; exact .agg hl fun i v d h1 h2 => ih i v d h1 h2 hφ
 | tuple hl h ih => intro φ' hφ; exact .tuple hl fun i v d h1 h2 => ih i v d h1 h2 hφ
 | sref h hc hn => intro φ' hφ; exact .sref (hφ _ _ _ h) hc hn
 | sref0 => intros; exact .sref0
 | pref h => intro φ' hφ; exact .pref (hφ _ _ _ h)
 | fn h1 h2 _ _ ih1 ih2 => intro φ' hφ; exact .fn h1 h2 (fun i v d g1 g2 => ih1 i v d g1 g2 hφ) fun i v d g1 g2 => ih2 i v d g1 g2 hφ
 | nilF => intros; exact .nilF
 | nilI => intros; exact .nilI
 | nilM => intros; exact .nilM
 | lit h hd ih => intro φ' _; exact .lit (ih fun _ _ _ h => h) hd
 | mref h => intro φ' hφ; exact .mref (hφ _ _ _ h)
 | mlit hA hm hk hv hx hy ih1 ih2 => intro φ' hφ; exact .mlit (hS _ hA) ((hw _ hA).trans hm) hk hv (fun i m d g1 g2 => ih1 i m d g1 g2 fun _ _ _ h => h) (fun i m d g1 g2 => ih2 i m d g1 g2 fun _ _ _ h => h)
 | mlit0 => intros; exact .mlit0

theorem VRel.cells {w : World} {S : Nat → Prop} {φ : Phi} {v : Value} {d : D} (h : VRel w S φ v d) (hd : d ≠ .top) : v.cells.size = d.cells.length ∧ ∀ (i : Nat) x e, v.cells[i]? = some x → d.cells[i]? = some e → VRel w S φ x e := by
 cases h with
 | top => exact absurd rfl hd
 | agg hl h => exact ⟨hl, h⟩
 | _ =>
  refine ⟨rfl, fun i x e h1 h2 => ?_⟩
  cases i with
  | zero =>
   simp [Value.cells, D.cells] at h1 h2
   subst h1; subst h2
   first
    | exact .bool
    | exact .int
    | exact .str
    | exact .nilS
    | (apply VRel.ints <;> assumption)
    | (apply VRel.list <;> assumption)
    | exact .nilP
    | (apply VRel.ptr <;> assumption)
    | (apply VRel.tuple <;> assumption)
    | (apply VRel.sref <;> assumption)
    | exact .sref0
    | (apply VRel.pref <;> assumption)
    | (apply VRel.fn <;> assumption)
    | exact .nilF
    | exact .nilI
    | exact .nilM
    | (apply VRel.lit <;> assumption)
    | (apply VRel.mref <;> assumption)
    | (apply VRel.mlit <;> assumption)
    | exact .mlit0
  | succ i => simp [Value.cells] at h1

inductive BRel (w : World) (S : Nat → Prop) (φ : Phi) (b : Nat) : Blk → Prop
 | dead {v fz} : BRel w S φ b ⟨v, fz, .dead⟩
 | ints {v : Nat} {fz : Bool} {k : IntKind} {xs : List Int} {A n : Nat} {c : Array Value} {T : TypeId} (hφ : φ b v = some (A, 1, n)) (hA : w.heap[A]? = some (.cells c T (0, 0))) (hn : c.size = n) (hl : xs.length ≤ n)
   (hx : ∀ i, i < xs.length → c[i]? = some (.int k (xs.getD i 0))) (hS : if fz then S A else ¬ S A) : BRel w S φ b ⟨v, fz, .ints k xs⟩
 | rows {v : Nat} {fz : Bool} {sz : Nat} {xs : List D} {A n : Nat} {c : Array Value} {T : TypeId} (hφ : φ b v = some (A, sz, n)) (hA : w.heap[A]? = some (.cells c T (0, 0))) (hn : c.size = n) (hl : xs.length * sz ≤ n)
   (hsz : ∀ (i : Nat) (d : D), xs[i]? = some d → d.wide sz)
   (hx : ∀ (i : Nat) (d : D) (j : Nat) (e : D), xs[i]? = some d → d.cells[j]? = some e → ∃ x, c[i * sz + j]? = some x ∧ VRel w S φ x e) (hS : if fz then S A else ¬ S A) : BRel w S φ b ⟨v, fz, .rows sz xs⟩
 | map {v : Nat} {fz : Bool} {es : List (D × D)} {A : Nat} {ms : Array MapEntry} {clock : Nat} (hφ : φ b v = some (A, 0, 0)) (hA : w.heap[A]? = some (.map ms clock)) (hn : ms.size = es.length)
   (hx : ∀ (i : Nat) (e : D × D), es[i]? = some e → ∃ m, ms[i]? = some m ∧ VRel w S φ m.key e.1 ∧ VRel w S φ m.val e.2) (hS : if fz then S A else ¬ S A) : BRel w S φ b ⟨v, fz, .map es⟩
 | iter {v : Nat} {fz : Bool} {s : ByteArray} {pos : Nat} {A : Nat} (hφ : φ b v = some (A, 0, 0)) (hA : w.heap[A]? = some (.stringIter s pos)) (hS : if fz then S A else ¬ S A) : BRel w S φ b ⟨v, fz, .iter s pos⟩
 | ints0 {v fz k} (hφ : φ b v = none) : BRel w S φ b ⟨v, fz, .ints k []⟩
 | rows0 {v fz sz} (hφ : φ b v = none) : BRel w S φ b ⟨v, fz, .rows sz []⟩

def Own (φ : Phi) (h : Heap) (A : Nat) : Prop := ∃ b B x, h[b]? = some B ∧ B.body ≠ .dead ∧ B.fz = false ∧ φ b B.ver = some (A, x)

structure HRel (w : World) (S : Nat → Prop) (φ : Phi) (h : Heap) : Prop where
 blk : ∀ (b : Nat) (B : Blk), h[b]? = some B → BRel w S φ b B
 inj : ∀ (b b' : Nat) (B B' : Blk) (A : Nat) (x x' : Nat × Nat), h[b]? = some B → h[b']? = some B' → B.body ≠ .dead → B'.body ≠ .dead → φ b B.ver = some (A, x) → φ b' B'.ver = some (A, x') → b = b'
 dom : ∀ b v x, φ b v = some x → ∃ B, h[b]? = some B ∧ 1 ≤ v ∧ v ≤ B.ver
 lt : ∀ b, S b → b < w.heap.size

structure Ext (w : World) (S : Nat → Prop) (φ : Phi) (h : Heap) (w' : World) (S' : Nat → Prop) (φ' : Phi) (h' : Heap) : Prop where
 os : w'.os = w.os
 tape : w'.tape = w.tape
 output : w'.output = w.output
 size : w.heap.size ≤ w'.heap.size
 sub : ∀ b, S b → S' b
 ph : ∀ b v x, φ b v = some x → φ' b v = some x
 same : ∀ b, b < w.heap.size → ¬ Own φ h b → w'.heap[b]? = w.heap[b]?
 new : ∀ b, S' b → S b ∨ Own φ h b ∨ w.heap.size ≤ b
 own : ∀ b, Own φ' h' b → Own φ h b ∨ w.heap.size ≤ b

theorem Ext.refl (w : World) (S : Nat → Prop) (φ : Phi) (h : Heap) : Ext w S φ h w S φ h :=
 ⟨rfl, rfl, rfl, Nat.le_refl _, fun _ h => h, fun _ _ _ h => h, fun _ _ _ => rfl, fun _ h => .inl h, fun _ h => .inl h⟩
theorem Ext.trans {w S φ h w' S' φ' h' w'' S'' φ'' h''} (a : Ext w S φ h w' S' φ' h') (c : Ext w' S' φ' h' w'' S'' φ'' h'') : Ext w S φ h w'' S'' φ'' h'' where
 os := c.os.trans a.os
 tape := c.tape.trans a.tape
 output := c.output.trans a.output
 size := Nat.le_trans a.size c.size
 sub b h := c.sub b (a.sub b h)
 ph b v x h := c.ph b v x (a.ph b v x h)
 same b hb ho := by
  have h1 : ¬ Own φ' h' b := fun h => by
   rcases a.own b h with h | h
   ·exact ho h
   ·omega
  exact (c.same b (Nat.lt_of_lt_of_le hb a.size) h1).trans (a.same b hb ho)
 new b h := by
  rcases c.new b h with h | h | h
  ·exact a.new b h
  ·rcases a.own b h with h | h
   ·exact .inr (.inl h)
   ·exact .inr (.inr h)
  ·exact .inr (.inr (Nat.le_trans a.size h))
 own b h := by
  rcases c.own b h with h | h
  ·exact a.own b h
  ·exact .inr (Nat.le_trans a.size h)

theorem Own.notS {w : World} {S : Nat → Prop} {φ : Phi} {h : Heap} {A : Nat} (H : HRel w S φ h) (o : Own φ h A) : ¬ S A := by
 obtain ⟨b, B, x, hb, hl, hf, hp⟩ := o
 have := H.blk b B hb
 cases this with
 | dead => exact absurd rfl hl
 | ints hφ _ _ _ _ hS => rw [hφ] at hp; cases hp; simp only at hf; simpa [hf] using hS
 | rows hφ _ _ _ _ _ hS => rw [hφ] at hp; cases hp; simp only at hf; simpa [hf] using hS
 | map hφ _ _ _ hS => rw [hφ] at hp; cases hp; simp only at hf; simpa [hf] using hS
 | iter hφ _ hS => rw [hφ] at hp; cases hp; simp only at hf; simpa [hf] using hS
 | ints0 hφ => rw [hφ] at hp; cases hp
 | rows0 hφ => rw [hφ] at hp; cases hp
theorem Ext.keepS {w S φ h w' S' φ' h'} (H : HRel w S φ h) (e : Ext w S φ h w' S' φ' h') (b : Nat) (hb : S b) : w'.heap[b]? = w.heap[b]? :=
 e.same b (H.lt b hb) fun o => o.notS H hb
theorem Ext.vrel {w S φ h w' S' φ' h'} (H : HRel w S φ h) (e : Ext w S φ h w' S' φ' h') {v d} (r : VRel w S φ v d) : VRel w' S' φ' v d :=
 r.mono e.sub (e.keepS H) e.ph

def VsRel (w : World) (S : Nat → Prop) (φ : Phi) (vs : List Value) (ds : List D) : Prop := vs.length = ds.length ∧ ∀ (i : Nat) (v : Value) (d : D), vs[i]? = some v → ds[i]? = some d → VRel w S φ v d
theorem VsRel.nil {w S φ} : VsRel w S φ [] [] := ⟨rfl, fun i v d h => by simp at h⟩
theorem VsRel.cons {w S φ v d vs ds} (h : VRel w S φ v d) (hs : VsRel w S φ vs ds) : VsRel w S φ (v :: vs) (d :: ds) := by
 refine ⟨by simp [hs.1], fun i x e h1 h2 => ?_⟩
 cases i with
 | zero => simp at h1 h2; subst h1; subst h2; exact h
 | succ i => simp at h1 h2; exact hs.2 i x e h1 h2
theorem VsRel.tail {w S φ v d vs ds} (h : VsRel w S φ (v :: vs) (d :: ds)) : VsRel w S φ vs ds :=
 ⟨by simpa using h.1, fun i x e h1 h2 => h.2 (i + 1) x e (by simpa using h1) (by simpa using h2)⟩
theorem VsRel.head {w S φ v d vs ds} (h : VsRel w S φ (v :: vs) (d :: ds)) : VRel w S φ v d := h.2 0 v d rfl rfl
theorem VsRel.append {w S φ vs ds us es} (h : VsRel w S φ vs ds) (g : VsRel w S φ us es) : VsRel w S φ (vs ++ us) (ds ++ es) := by
 refine ⟨by simp [h.1, g.1], fun i x e h1 h2 => ?_⟩
 by_cases hi : i < vs.length
 ·rw [List.getElem?_append_left hi] at h1
  rw [List.getElem?_append_left (by rw [← h.1]; exact hi)] at h2
  exact h.2 i x e h1 h2
 ·rw [List.getElem?_append_right (by omega)] at h1
  rw [List.getElem?_append_right (by rw [← h.1]; omega), ← h.1] at h2
  exact g.2 _ x e h1 h2
theorem VsRel.map {w S φ} {α : Type} (l : List α) (f : α → Value) (g : α → D) (h : ∀ x ∈ l, VRel w S φ (f x) (g x)) : VsRel w S φ (l.map f) (l.map g) := by
 refine ⟨by simp, fun i x e h1 h2 => ?_⟩
 rw [List.getElem?_map] at h1 h2
 cases hl : l[i]? with
 | none => simp [hl] at h1
 | some y =>
  simp [hl] at h1 h2
  subst h1; subst h2
  exact h y (List.mem_of_getElem? hl)
theorem VsRel.vrel {w S φ h w' S' φ' h'} (H : HRel w S φ h) (e : Ext w S φ h w' S' φ' h') {vs ds} (r : VsRel w S φ vs ds) : VsRel w' S' φ' vs ds :=
 ⟨r.1, fun i v d h1 h2 => e.vrel H (r.2 i v d h1 h2)⟩
theorem VsRel.replicate {w S φ} (n : Nat) {v d} (h : VRel w S φ v d) : VsRel w S φ (List.replicate n v) (List.replicate n d) := by
 refine ⟨by simp, fun i x e h1 h2 => ?_⟩
 simp [List.getElem?_replicate] at h1 h2
 rw [← h1.2, ← h2.2]; exact h

theorem VRel.ofV1 {w S φ} (v : Value) : VRel w S φ v (ofV1 v) := by
 cases v with
 | bool b => exact .bool
 | int k n => exact .int
 | string s => exact .str
 | pointer a => cases a with | none => exact .nilP | some a => exact .top
 | slice a l c => cases l with
  | zero => cases c with | zero => exact .nilS | succ c => exact .top
  | succ l => exact .top
 | nilFunc => exact .nilF
 | nilIface => exact .nilI
 | map m => cases m with | none => exact .nilM | some m => exact .top
 | func fn a c =>
  cases fn with
  | func f =>
   show VRel w S φ _ (if a.isEmpty && c.isEmpty then .fn f [] [] else .top)
   by_cases h : (a.isEmpty && c.isEmpty) = true
   ·rw [if_pos h]
    simp at h
    obtain ⟨rfl, rfl⟩ := h
    exact .fn rfl rfl (fun i v d h => by simp at h) (fun i v d h => by simp at h)
   ·rw [if_neg h]; exact .top
  | _ => exact .top
 | _ => exact .top
theorem ofV1_cells (v : Value) : (ofV1 v).cells = [ofV1 v] := by
 cases v with
 | pointer a => cases a <;> rfl
 | map m => cases m <;> rfl
 | slice a l c => cases l <;> cases c <;> rfl
 | func fn a c =>
  cases fn <;> try rfl
  rename_i f
  show D.cells (if a.isEmpty && c.isEmpty then .fn f [] [] else .top) = [if a.isEmpty && c.isEmpty then .fn f [] [] else .top]
  split <;> rfl
 | _ => rfl
theorem VRel.ofV {w S φ} (v : Value) : VRel w S φ v (ofV v) := by
 have key : ∀ cs : Array Value, ∀ (i : Nat) x e, cs[i]? = some x → (cs.toList.map Go.Proofs.YtlpbmajbalenjaaA.ofV1)[i]? = some e → VRel w S φ x e := fun cs i x e h1 h2 => by
  rw [List.getElem?_map, Array.getElem?_toList, h1] at h2
  simp at h2; subst h2; exact .ofV1 x
 cases v with
 | agg cs => exact .agg (by simp) (key cs)
 | tuple cs => exact .tuple (by simp) (key cs)
 | _ => exact .ofV1 _
theorem ofV_cells1 {w : World} {S : Nat → Prop} {φ : Phi} (v : Value) (hv : v.cells = #[v]) (ho : ofV v = ofV1 v) : v.cells.size = (ofV v).cells.length ∧ ∀ (i : Nat) x e, v.cells[i]? = some x → (ofV v).cells[i]? = some e → VRel w S φ x e := by
 rw [hv, ho, ofV1_cells]
 refine ⟨rfl, fun i x e h1 h2 => ?_⟩
 cases i with
 | zero => simp at h1 h2; subst h1; subst h2; exact .ofV1 _
 | succ i => simp at h1
theorem ofV_cells {w S φ} (v : Value) : v.cells.size = (ofV v).cells.length ∧ ∀ (i : Nat) x e, v.cells[i]? = some x → (ofV v).cells[i]? = some e → VRel w S φ x e := by
 cases v with
 | agg cs =>
  refine ⟨by simp [Value.cells, ofV, D.cells], fun i x e h1 h2 => ?_⟩
  simp only [Value.cells, Go.Proofs.YtlpbmajbalenjaaA.ofV, D.cells] at h1 h2
  rw [List.getElem?_map, Array.getElem?_toList, h1] at h2
  simp at h2; subst h2; exact .ofV1 x
 | tuple cs =>
  refine ⟨by simp [Value.cells, ofV, D.cells], fun i x e h1 h2 => ?_⟩
  cases i with
  | zero => simp [Value.cells, ofV, D.cells] at h1 h2; subst h1; subst h2; exact .ofV (.tuple cs)
  | succ i => simp [Value.cells] at h1
 | _ => exact ofV_cells1 _ rfl rfl
end Go.Proofs.YtlpbmajbalenjaaA
namespace Go.Proofs.YtlpbmajbalenjaaA
open Go
variable {P : Program} {w : World} {S : Nat → Prop} {φ : Phi} {h : Heap}

theorem VRel.ofNo {v : Value} {d : D} (r : VRel w S noPhi v d) : VRel w S φ v d := r.mono (fun _ h => h) (fun _ _ => rfl) (fun b u x h => by cases h)

theorem get_rel {b v : Nat} {body : Body} (e : h.get b v = body) (hb : body ≠ .dead) : ∃ B, h[b]? = some B ∧ B.ver = v ∧ B.body = body := by
 unfold Heap.get at e
 cases hB : h[b]? with
 | none => rw [hB] at e; exact absurd e.symm hb
 | some B =>
  rw [hB] at e
  simp only at e
  by_cases hv : B.ver = v
  ·rw [if_pos hv] at e; exact ⟨B, rfl, hv, e⟩
  ·rw [if_neg hv] at e; exact absurd e.symm hb

theorem get_ints (H : HRel w S φ h) {b v A sz n : Nat} {k : IntKind} {xs : List Int} (e : h.get b v = .ints k xs) (hp : φ b v = some (A, sz, n)) :
  ∃ c T, sz = 1 ∧ w.heap[A]? = some (.cells c T (0, 0)) ∧ c.size = n ∧ xs.length ≤ n ∧ ∀ i, i < xs.length → c[i]? = some (.int k (xs.getD i 0)) := by
 obtain ⟨⟨v', fz, body⟩, hB, hv, hb⟩ := get_rel e (by simp)
 simp only at hv hb
 subst hv; subst hb
 cases H.blk b _ hB with
 | ints hφ hA hn hl hx hS => rw [hφ] at hp; cases hp; exact ⟨_, _, rfl, hA, hn, hl, hx⟩
 | ints0 hφ => rw [hφ] at hp; cases hp
theorem get_rows (H : HRel w S φ h) {b v A sz n sz' : Nat} {xs : List D} (e : h.get b v = .rows sz' xs) (hp : φ b v = some (A, sz, n)) :
  ∃ c T, sz' = sz ∧ w.heap[A]? = some (.cells c T (0, 0)) ∧ c.size = n ∧ xs.length * sz ≤ n ∧ (∀ (i : Nat) (d : D), xs[i]? = some d → d.wide sz) ∧
   ∀ (i : Nat) (d : D) (j : Nat) (e : D), xs[i]? = some d → d.cells[j]? = some e → ∃ x, c[i * sz + j]? = some x ∧ VRel w S φ x e := by
 obtain ⟨⟨v', fz, body⟩, hB, hv, hb⟩ := get_rel e (by simp)
 simp only at hv hb
 subst hv; subst hb
 cases H.blk b _ hB with
 | rows hφ hA hn hl hsz hx hS => rw [hφ] at hp; cases hp; exact ⟨_, _, rfl, hA, hn, hl, hsz, hx⟩
 | rows0 hφ => rw [hφ] at hp; cases hp

theorem cell_of {A o : Nat} {c : Array Value} {T : TypeId} {fz : Nat × Nat} (hA : w.heap[A]? = some (.cells c T fz)) : w.cell? ⟨A, o, none⟩ = c[o]? := by
 simp [World.cell?, hA]

theorem cellsAt_sound (H : HRel w S φ h) {x : Value} {p : D} (r : VRel w S φ x p) {cs : List D} (e : cellsAt h p = some cs) :
  ∃ A o, x = .pointer (some ⟨A, o, none⟩) ∧ ∀ (j : Nat) (c : D), cs[j]? = some c → ∃ y, w.cell? ⟨A, o + j, none⟩ = some y ∧ VRel w S φ y c := by
 cases r with
 | @ptr _ B o cs' vs hS hx hv =>
  simp only [cellsAt, Option.some.injEq] at e
  subst e
  exact ⟨B, o, rfl, fun j c hc => ⟨vs j, hx j c hc, (hv j c hc).ofNo⟩⟩
 | @pref _ A b v sz n i off hp =>
  refine ⟨A, i * sz + off, rfl, ?_⟩
  simp only [cellsAt] at e
  cases hg : h.get b v with
  | dead => rw [hg] at e; simp at e
  | map _ => rw [hg] at e; simp at e
  | iter _ _ => rw [hg] at e; simp at e
  | ints k xs =>
   rw [hg] at e
   obtain ⟨c, T, rfl, hA, hn, hl, hx⟩ := get_ints H hg hp
   by_cases h0 : off = 0
   ·by_cases hi : i < xs.length
    ·simp only [h0, hi, if_true, Option.some.injEq] at e
     subst e; subst h0
     intro j c' hc
     cases j with
     | zero =>
      simp at hc; subst hc
      rw [cell_of hA]
      exact ⟨_, by simpa using hx i hi, .int⟩
     | succ j => simp at hc
    ·simp [h0, hi] at e
   ·simp [h0] at e
  | rows sz' xs =>
   rw [hg] at e
   obtain ⟨c, T, rfl, hA, hn, hl, hsz, hx⟩ := get_rows H hg hp
   simp only at e
   cases hd : xs[i]? with
   | none => rw [hd] at e; simp at e
   | some d =>
    rw [hd] at e
    simp only [Option.map_some, Option.some.injEq] at e
    subst e
    intro j c' hc
    rw [List.getElem?_drop] at hc
    obtain ⟨y, h1, h2⟩ := hx i d (off + j) c' hd hc
    exact ⟨y, by rw [cell_of hA, Nat.add_assoc]; exact h1, h2⟩
 | _ => simp [cellsAt] at e

theorem run_isAgg {t : TypeId} {a : Bool} (ha : aggB P t = some a) (w : World) : (isAgg t).run P w = .ok a w := by
 unfold aggB at ha
 cases hu : P.underlying t with
 | none => rw [hu] at ha; simp at ha
 | some d =>
  rw [hu] at ha
  simp only [Option.map_some, Option.some.injEq] at ha
  simp only [isAgg, Sem.run_bind, run_underlying hu, Result.andThen_ok]
  subst ha
  cases d <;> rfl
theorem run_szOf {t : TypeId} {s : Nat} (hs : szOf P t = some s) (w : World) : (sizeOf t).run P w = .ok s w := by
 unfold szOf at hs
 cases hi : P.info? t with
 | none => rw [hi] at hs; simp at hs
 | some i => rw [hi] at hs; simp at hs; simp [sizeOf, typeInfo, hi, hs]
theorem addr_add (A o n : Nat) : (⟨A, o, none⟩ : Addr).add n = ⟨A, o + n, none⟩ := by unfold Addr.add; split <;> simp_all

theorem loadVar_sound {t : TypeId} {a : Bool} {s : Nat} (ha : aggB P t = some a) (hs : szOf P t = some s) {A o : Nat} {cs : List D} {d : D}
  (hc : ∀ (j : Nat) (c : D), cs[j]? = some c → ∃ y, w.cell? ⟨A, o + j, none⟩ = some y ∧ VRel w S φ y c) (e : ldCells a s cs = some d) :
  ∃ x, (loadVar t ⟨A, o, none⟩).run P w = .ok x w ∧ VRel w S φ x d := by
 cases a with
 | false =>
  simp only [ldCells, Bool.false_eq_true, if_false] at e
  cases cs with
  | nil => simp at e
  | cons c cs =>
   simp at e; subst e
   obtain ⟨y, h1, h2⟩ := hc 0 c rfl
   rw [Nat.add_zero] at h1
   exact ⟨y, by simp [loadVar, run_isAgg ha, h1], h2⟩
 | true =>
  simp only [ldCells, if_true] at e
  by_cases hl : s ≤ cs.length
  ·simp only [hl, if_true, Option.some.injEq] at e
   subst e
   have hall : ∀ j, j < s → ∃ y, w.cell? ⟨A, o + j, none⟩ = some y := fun j hj => by
    obtain ⟨y, h1, _⟩ := hc j cs[j] (List.getElem?_eq_getElem (by omega))
    exact ⟨y, h1⟩
   have hf : ∀ j, j < s → w.cell? ((⟨A, o, none⟩ : Addr).add j) = some ((w.cell? ⟨A, o + j, none⟩).getD default) := fun j hj => by
    obtain ⟨y, h1⟩ := hall j hj
    rw [addr_add, h1]; rfl
   refine ⟨.agg ((List.range s).map fun j => (w.cell? ⟨A, o + j, none⟩).getD default).toArray, ?_, ?_⟩
   ·simp only [loadVar, Sem.run_bind, run_isAgg ha, Result.andThen_ok, Sem.run_ite, if_true, run_szOf hs, run_loadCells w _ s _ hf, Sem.run_pure]
   ·refine .agg (by simp; omega) fun i v d h1 h2 => ?_
    rw [List.getElem?_toArray, List.getElem?_map] at h1
    rw [List.getElem?_take] at h2
    by_cases hi : i < s
    ·rw [if_pos hi] at h2
     rw [List.getElem?_range hi] at h1
     simp at h1
     obtain ⟨y, g1, g2⟩ := hc i d h2
     rw [g1] at h1
     simp at h1; subst h1
     exact g2
    ·rw [if_neg hi] at h2; cases h2
  ·simp [hl] at e

theorem ld_sound (H : HRel w S φ h) {t : TypeId} {x : Value} {p d : D} (r : VRel w S φ x p) (e : ld P h t p = some d) :
  ∃ y, (Instr.loadAt t x).run P w = .ok y w ∧ VRel w S φ y d := by
 unfold ld at e
 obtain ⟨a, ha, e⟩ := Option.bind_eq_some_iff.1 e
 obtain ⟨s, hs, e⟩ := Option.bind_eq_some_iff.1 e
 obtain ⟨cs, hc, e⟩ := Option.bind_eq_some_iff.1 e
 obtain ⟨A, o, rfl, hcs⟩ := cellsAt_sound H r hc
 obtain ⟨y, h1, h2⟩ := loadVar_sound ha hs hcs e
 exact ⟨y, by simp [Instr.loadAt, Instr.sureAddr, h1], h2⟩

theorem isT_vrel : ∀ (n : Nat) {v : Value} {d : D}, VRel w S φ v d → d.isT n = true → VRel w S noPhi v d := by
 intro n
 induction n with
 | zero =>
  intro v d r hd
  cases r <;> first
   | (simp [D.isT] at hd; done)
   | exact .top | exact .bool | exact .int | exact .str | exact .nilS | exact .nilP | exact .nilF | exact .nilI | exact .nilM | exact .mlit0
   | (apply VRel.ints <;> assumption)
   | (apply VRel.list <;> assumption)
   | (apply VRel.ptr <;> assumption)
   | (apply VRel.lit <;> assumption)
   | (apply VRel.mlit <;> assumption)
 | succ n ih =>
  intro v d r hd
  cases r with
  | agg hl hx =>
   simp only [D.isT, List.all_eq_true] at hd
   exact .agg hl fun i v d h1 h2 => ih (hx i v d h1 h2) (hd d (List.mem_of_getElem? h2))
  | tuple hl hx =>
   simp only [D.isT, List.all_eq_true] at hd
   exact .tuple hl fun i v d h1 h2 => ih (hx i v d h1 h2) (hd d (List.mem_of_getElem? h2))
  | fn h1 h2 ha hc =>
   simp only [D.isT, Bool.and_eq_true, List.all_eq_true] at hd
   exact .fn h1 h2 (fun i v d g1 g2 => ih (ha i v d g1 g2) (hd.1 d (List.mem_of_getElem? g2))) (fun i v d g1 g2 => ih (hc i v d g1 g2) (hd.2 d (List.mem_of_getElem? g2)))
  | sref => simp [D.isT] at hd
  | sref0 => simp [D.isT] at hd
  | pref => simp [D.isT] at hd
  | mref => simp [D.isT] at hd
  | top => exact .top
  | bool => exact .bool
  | int => exact .int
  | str => exact .str
  | nilS => exact .nilS
  | nilP => exact .nilP
  | nilF => exact .nilF
  | nilI => exact .nilI
  | nilM => exact .nilM
  | mlit0 => exact .mlit0
  | mlit => apply VRel.mlit <;> assumption
  | ints => apply VRel.ints <;> assumption
  | list => apply VRel.list <;> assumption
  | ptr => apply VRel.ptr <;> assumption
  | lit => apply VRel.lit <;> assumption

theorem bare_vrel {v : Value} {d : D} (r : VRel w S φ v d) : VRel w S φ v d.bare := by
 cases r with
 | lit hd hb => exact hd.ofNo
 | _ => first
   | exact .top | exact .bool | exact .int | exact .str | exact .nilS | exact .nilP | exact .nilF | exact .nilI | exact .nilM | exact .sref0 | exact .mlit0
   | (apply VRel.mlit <;> assumption)
   | (apply VRel.ints <;> assumption)
   | (apply VRel.list <;> assumption)
   | (apply VRel.ptr <;> assumption)
   | (apply VRel.agg <;> assumption)
   | (apply VRel.tuple <;> assumption)
   | (apply VRel.sref <;> assumption)
   | (apply VRel.pref <;> assumption)
   | (apply VRel.mref <;> assumption)
   | (apply VRel.fn <;> assumption)

theorem mapM_some {α β : Type} {f : α → Option β} : ∀ {l : List α} {m : List β}, l.mapM f = some m → l.length = m.length ∧ ∀ (i : Nat) a b, l[i]? = some a → m[i]? = some b → f a = some b
 | [], m, e => by simp at e; subst e; exact ⟨rfl, fun i a b h => by simp at h⟩
 | x :: l, m, e => by
  rw [List.mapM_cons] at e
  obtain ⟨y, h1, e⟩ := Option.bind_eq_some_iff.1 e
  obtain ⟨ys, h2, e⟩ := Option.bind_eq_some_iff.1 e
  simp at e; subst e
  obtain ⟨g1, g2⟩ := mapM_some h2
  refine ⟨by simp [g1], fun i a b ha hb => ?_⟩
  cases i with
  | zero => simp at ha hb; subst ha; subst hb; exact h1
  | succ i => simp at ha hb; exact g2 i a b ha hb
end Go.Proofs.YtlpbmajbalenjaaA
namespace Go.Proofs.YtlpbmajbalenjaaA
open Go
variable {P : Program} {w : World} {S : Nat → Prop} {φ : Phi} {h : Heap}

theorem VRel.to {S0 : Nat → Prop} (hS : ∀ b, S b → S0 b) {v : Value} {d : D} (r : VRel w S φ v d) : VRel w S0 φ v d := r.mono hS (fun _ _ => rfl) (fun _ _ _ h => h)

theorem reify_sound (H : HRel w S φ h) {S0 : Nat → Prop} (hS : ∀ b, S b → S0 b) : ∀ (n : Nat) (v : Value) (d d' : D), VRel w S φ v d → reify h n d = some d' →
  (∀ b ∈ reach h n d, ∀ B A x, h[b]? = some B → B.body ≠ .dead → φ b B.ver = some (A, x) → S0 A) → VRel w S0 noPhi v d' := by
 intro n
 induction n with
 | zero =>
  intro v d d' r e hr
  simp only [reify] at e
  by_cases hd : d.isT 0 = true
  ·rw [if_pos hd] at e
   cases e
   exact (bare_vrel (isT_vrel 0 r hd)).to hS
  ·rw [if_neg hd] at e; cases e
 | succ n ih =>
  intro v d d' r e hr
  cases r with
  | @agg _ vs ds hl hx =>
   simp only [reify] at e
   obtain ⟨m, hm, e⟩ := Option.map_eq_some_iff.1 e
   subst e
   obtain ⟨g1, g2⟩ := mapM_some hm
   refine .agg (by omega) fun i v d h1 h2 => ?_
   have hi : i < ds.length := by have := (List.getElem?_eq_some_iff.1 h2).1; omega
   refine ih v ds[i] d (hx i v ds[i] h1 (List.getElem?_eq_getElem hi)) (g2 i _ _ (List.getElem?_eq_getElem hi) h2) fun b hb => hr b ?_
   simp only [reach, List.mem_flatMap]
   exact ⟨_, List.getElem_mem hi, hb⟩
  | @tuple _ vs ds hl hx =>
   simp only [reify] at e
   obtain ⟨m, hm, e⟩ := Option.map_eq_some_iff.1 e
   subst e
   obtain ⟨g1, g2⟩ := mapM_some hm
   refine .tuple (by omega) fun i v d h1 h2 => ?_
   have hi : i < ds.length := by have := (List.getElem?_eq_some_iff.1 h2).1; omega
   refine ih v ds[i] d (hx i v ds[i] h1 (List.getElem?_eq_getElem hi)) (g2 i _ _ (List.getElem?_eq_getElem hi) h2) fun b hb => hr b ?_
   simp only [reach, List.mem_flatMap]
   exact ⟨_, List.getElem_mem hi, hb⟩
  | @fn _ f as cs ds es h1 h2 ha hc =>
   simp only [reify] at e
   obtain ⟨m, hm, e⟩ := Option.bind_eq_some_iff.1 e
   obtain ⟨m', hm', e⟩ := Option.map_eq_some_iff.1 e
   subst e
   obtain ⟨g1, g2⟩ := mapM_some hm
   obtain ⟨g3, g4⟩ := mapM_some hm'
   refine .fn (by omega) (by omega) (fun i v d k1 k2 => ?_) (fun i v d k1 k2 => ?_)
   ·have hi : i < ds.length := by have := (List.getElem?_eq_some_iff.1 k2).1; omega
    refine ih v ds[i] d (ha i v ds[i] k1 (List.getElem?_eq_getElem hi)) (g2 i _ _ (List.getElem?_eq_getElem hi) k2) fun b hb => hr b ?_
    simp only [reach, List.mem_append, List.mem_flatMap]
    exact .inl ⟨_, List.getElem_mem hi, hb⟩
   ·have hi : i < es.length := by have := (List.getElem?_eq_some_iff.1 k2).1; omega
    refine ih v es[i] d (hc i v es[i] k1 (List.getElem?_eq_getElem hi)) (g4 i _ _ (List.getElem?_eq_getElem hi) k2) fun b hb => hr b ?_
    simp only [reach, List.mem_append, List.mem_flatMap]
    exact .inr ⟨_, List.getElem_mem hi, hb⟩
  | @sref _ A b u sz n' off len cap hp hc hn =>
   simp only [reify] at e
   have hSA : h.get b u ≠ .dead → S0 A := fun hd => by
    obtain ⟨B, hB, hv, hb⟩ := get_rel rfl hd
    exact hr b (by simp [reach]) B A (sz, n') hB (by rw [hb]; exact hd) (by rw [hv]; exact hp)
   cases hg : h.get b u with
   | dead => rw [hg] at e; cases e
   | map _ => rw [hg] at e; cases e
   | iter _ _ => rw [hg] at e; cases e
   | ints k xs =>
    rw [hg] at e
    obtain ⟨c, T, rfl, hA, hn', hl, hx⟩ := get_ints H hg hp
    by_cases hlen : off + len ≤ xs.length
    ·simp only [hlen, if_true, Option.some.injEq] at e
     subst e
     have hlen' : ((xs.drop off).take len).length = len := by simp; omega
     have key := VRel.ints (w := w) (S := S0) (φ := noPhi) (a := some ⟨A, off * 1, none⟩) (cap := cap) (k := k) (xs := (xs.drop off).take len) (by omega) A off
      (fun _ => ⟨by simp, hSA (by rw [hg]; simp)⟩) (fun i hi => by
       rw [hlen'] at hi
       rw [cell_of hA, hx (off + i) (by omega)]
       congr 2
       simp [List.getD_eq_getElem?_getD, List.getElem?_take, hi])
     rw [hlen'] at key
     exact key
    ·simp [hlen] at e
   | rows sz' xs =>
    rw [hg] at e
    obtain ⟨c, T, rfl, hA, hn', hl, hsz, hx⟩ := get_rows H hg hp
    by_cases hlen : off + len ≤ xs.length
    ·simp only [hlen, if_true] at e
     by_cases hall : ((xs.drop off).take len).all (fun d => d.cells.all (D.isT 2)) = true
     ·rw [if_pos hall] at e
      simp only [Option.some.injEq] at e
      subst e
      have hlen' : ((xs.drop off).take len).length = len := by simp; omega
      have hget : ∀ (i : Nat) (d : D), ((xs.drop off).take len)[i]? = some d → xs[off + i]? = some d := fun i d hd => by
       rw [List.getElem?_take] at hd
       by_cases hi : i < len
       ·rwa [if_pos hi, List.getElem?_drop] at hd
       ·rw [if_neg hi] at hd; cases hd
      have key := VRel.list (w := w) (S := S0) (φ := noPhi) (a := some ⟨A, off * sz', none⟩) (cap := cap) (sz := sz') (xs := (xs.drop off).take len) (by omega) A (off * sz')
       (fun i j => (c[(off + i) * sz' + j]?).getD default)
       (fun _ => ⟨rfl, hSA (by rw [hg]; simp)⟩) (fun i d hd => hsz _ d (hget i d hd))
       (fun i d j e hd he => by
        obtain ⟨y, h1, _⟩ := hx _ d j e (hget i d hd) he
        rw [cell_of hA, ← Nat.add_assoc, ← Nat.add_mul, h1]; rfl)
       (fun i d j e hd he => by
        obtain ⟨y, h1, h2⟩ := hx _ d j e (hget i d hd) he
        rw [h1]
        rw [List.all_eq_true] at hall
        have h3 := hall d (List.mem_of_getElem? hd)
        rw [List.all_eq_true] at h3
        exact (isT_vrel 2 h2 (h3 e (List.mem_of_getElem? he))).to hS)
      rw [hlen'] at key
      exact key
     ·rw [if_neg hall] at e; simp at e
    ·simp [hlen] at e
  | @mref _ A b u sz n' hp =>
   simp only [reify] at e
   split at e
   ·rename_i es hg
    by_cases hall : es.all (fun e => e.1.isT 2 && e.2.isT 2) = true
    ·rw [if_pos hall] at e
     cases e
     rw [List.all_eq_true] at hall
     obtain ⟨⟨v', fz, body⟩, hB, hv, hb⟩ := get_rel hg (by simp)
     simp only at hv hb
     subst hv; subst hb
     have hAS : S0 A := hr b (by simp [reach]) _ A (sz, n') hB (by simp) hp
     cases H.blk b _ hB with
     | @map _ _ _ A' ms clock hφ hA hn hx hS' =>
      rw [hφ] at hp; cases hp
      refine .mlit hAS hA (by simpa using hn) (by simpa using hn) (fun i m d g1 g2 => ?_) (fun i m d g1 g2 => ?_)
      ·rw [List.getElem?_map] at g2
       obtain ⟨e, h1, h2⟩ := Option.map_eq_some_iff.1 g2
       subst h2
       obtain ⟨m', k1, k2, k3⟩ := hx i e h1
       rw [g1] at k1; cases k1
       have := hall e (List.mem_of_getElem? h1)
       rw [Bool.and_eq_true] at this
       exact (isT_vrel 2 k2 this.1).to hS
      ·rw [List.getElem?_map] at g2
       obtain ⟨e, h1, h2⟩ := Option.map_eq_some_iff.1 g2
       subst h2
       obtain ⟨m', k1, k2, k3⟩ := hx i e h1
       rw [g1] at k1; cases k1
       have := hall e (List.mem_of_getElem? h1)
       rw [Bool.and_eq_true] at this
       exact (isT_vrel 2 k3 this.2).to hS
    ·rw [if_neg hall] at e; cases e; exact .top
   ·cases e
   ·cases e; exact .top
  | mlit hA hm hk hv hx hy => simp only [reify, Option.some.injEq] at e; subst e; exact (VRel.mlit hA hm hk hv hx hy).to hS
  | mlit0 => simp only [reify, Option.some.injEq] at e; subst e; exact .mlit0
  | @sref0 _ a b u sz off =>
   simp only [reify] at e
   cases hg : h.get b u with
   | dead => rw [hg] at e; cases e
   | map _ => rw [hg] at e; cases e
   | iter _ _ => rw [hg] at e; cases e
   | ints k xs =>
    rw [hg] at e
    by_cases h1 : sz = 1
    ·by_cases h2 : off + 0 ≤ xs.length
     ·simp only [h1, h2, if_true, Option.some.injEq] at e
      subst e
      exact .ints (xs := []) (Nat.le_refl _) 0 0 (fun h => absurd rfl h) (fun i hi => by simp at hi)
     ·simp only [h1, h2, if_true, if_false] at e; cases e
    ·simp only [h1, if_false] at e; cases e
   | rows sz' xs =>
    rw [hg] at e
    by_cases h1 : sz' = sz
    ·by_cases h2 : off + 0 ≤ xs.length
     ·simp only [h1, h2, if_true, List.take_zero, List.all_nil, Option.some.injEq] at e
      subst e
      exact .list (xs := []) (Nat.le_refl _) 0 0 (fun _ _ => default) (fun h => absurd rfl h) (fun i d h => by simp at h) (fun i d j c h => by simp at h) (fun i d j c h => by simp at h)
     ·simp only [h1, h2, if_true, if_false] at e; cases e
    ·simp only [h1, if_false] at e; cases e
  | @pref _ A b u sz n' i off hp =>
   have r : VRel w S φ (.pointer (some ⟨A, i * sz + off, none⟩)) (.pref b u i off) := .pref hp
   simp only [reify] at e
   obtain ⟨cs, hcs, e⟩ := Option.bind_eq_some_iff.1 e
   obtain ⟨m, hm, e⟩ := Option.map_eq_some_iff.1 e
   subst e
   obtain ⟨A', o', hA', hcell⟩ := cellsAt_sound H r hcs
   cases hA'
   obtain ⟨g1, g2⟩ := mapM_some hm
   have hlive : h.get b u ≠ .dead := fun hd => by simp [cellsAt, hd] at hcs
   obtain ⟨B, hB, hv, hb⟩ := get_rel rfl hlive
   have hAS : S0 A := hr b (by simp [reach]) B A (sz, n') hB (by rw [hb]; exact hlive) (by rw [hv]; exact hp)
   have hcs' : ∀ (j : Nat) (c : D), m[j]? = some c → ∃ y, w.cell? ⟨A, i * sz + off + j, none⟩ = some y ∧ VRel w S0 noPhi y c := fun j c hj => by
    have hjl : j < cs.length := by have := (List.getElem?_eq_some_iff.1 hj).1; omega
    obtain ⟨y, h1, h2⟩ := hcell j cs[j] (List.getElem?_eq_getElem hjl)
    refine ⟨y, h1, ih y _ c h2 (g2 j _ _ (List.getElem?_eq_getElem hjl) hj) fun b' hb' => hr b' ?_⟩
    simp only [reach, cellsB_of hcs, List.mem_cons, List.mem_flatMap]
    exact .inr ⟨_, List.getElem_mem hjl, hb'⟩
   exact .ptr (fun j => (w.cell? ⟨A, i * sz + off + j, none⟩).getD default) hAS (fun j c hj => by obtain ⟨y, h1, _⟩ := hcs' j c hj; rw [h1]; rfl)
    (fun j c hj => by obtain ⟨y, h1, h2⟩ := hcs' j c hj; rw [h1]; exact h2)
  | lit hd hb => simp only [reify, Option.some.injEq] at e; subst e; exact hd.to hS
  | top => simp only [reify, Option.some.injEq] at e; subst e; exact .top
  | bool => simp only [reify, Option.some.injEq] at e; subst e; exact .bool
  | int => simp only [reify, Option.some.injEq] at e; subst e; exact .int
  | str => simp only [reify, Option.some.injEq] at e; subst e; exact .str
  | nilS => simp only [reify, Option.some.injEq] at e; subst e; exact .nilS
  | nilP => simp only [reify, Option.some.injEq] at e; subst e; exact .nilP
  | nilF => simp only [reify, Option.some.injEq] at e; subst e; exact .nilF
  | nilI => simp only [reify, Option.some.injEq] at e; subst e; exact .nilI
  | nilM => simp only [reify, Option.some.injEq] at e; subst e; exact .nilM
  | ints hc B o ha hx => simp only [reify, Option.some.injEq] at e; subst e; exact (VRel.ints hc B o ha hx).to hS
  | list hc B o vs ha hsz hx hv => simp only [reify, Option.some.injEq] at e; subst e; exact (VRel.list hc B o vs ha hsz hx hv).to hS
  | ptr vs hB hx hv => simp only [reify, Option.some.injEq] at e; subst e; exact (VRel.ptr vs hB hx hv).to hS

theorem mark_get (h : Heap) (b i : Nat) : (mark h b)[i]? = if i = b then (h[i]?).map fun B => { B with fz := true } else h[i]? := by
 unfold mark
 rw [List.getElem?_modify]
 by_cases hb : b = i
 ·subst hb; simp
 ·simp [hb, Ne.symm hb]
theorem freeze_get (l : List Nat) : ∀ (h : Heap) (i : Nat), (freeze h l)[i]? = if i ∈ l then (h[i]?).map fun B => { B with fz := true } else h[i]? := by
 induction l with
 | nil => intro h i; simp [freeze]
 | cons b l ih =>
  intro h i
  have : freeze h (b :: l) = freeze (mark h b) l := rfl
  rw [this, ih, mark_get]
  by_cases h1 : i = b
  ·subst h1
   simp only [if_true, List.mem_cons, true_or]
   split
   ·cases h[i]? <;> rfl
   ·rfl
  ·simp [h1]
def FS (S : Nat → Prop) (φ : Phi) (h : Heap) (l : List Nat) (A : Nat) : Prop := S A ∨ ∃ b ∈ l, ∃ B x, h[b]? = some B ∧ B.body ≠ .dead ∧ φ b B.ver = some (A, x)
theorem live_some (H : HRel w S φ h) {b : Nat} {B : Blk} {A : Nat} {x : Nat × Nat} (hB : h[b]? = some B) (hl : B.body ≠ .dead) (hp : φ b B.ver = some (A, x)) :
  A < w.heap.size ∧ (B.fz = true → S A) ∧ (B.fz = false → ¬ S A) := by
 have lt : ∀ {o : Obj}, w.heap[A]? = some o → A < w.heap.size := fun {o} h => by
  rcases Nat.lt_or_ge A w.heap.size with h' | h'
  ·exact h'
  ·rw [Array.getElem?_eq_none h'] at h; cases h
 cases H.blk b B hB with
 | dead => exact absurd rfl hl
 | ints hφ hA _ _ _ hS => rw [hφ] at hp; cases hp; exact ⟨lt hA, fun e => by simp only at e; simpa [e] using hS, fun e => by simp only at e; simpa [e] using hS⟩
 | rows hφ hA _ _ _ _ hS => rw [hφ] at hp; cases hp; exact ⟨lt hA, fun e => by simp only at e; simpa [e] using hS, fun e => by simp only at e; simpa [e] using hS⟩
 | map hφ hA _ _ hS => rw [hφ] at hp; cases hp; exact ⟨lt hA, fun e => by simp only at e; simpa [e] using hS, fun e => by simp only at e; simpa [e] using hS⟩
 | iter hφ hA hS => rw [hφ] at hp; cases hp; exact ⟨lt hA, fun e => by simp only at e; simpa [e] using hS, fun e => by simp only at e; simpa [e] using hS⟩
 | ints0 hφ => rw [hφ] at hp; cases hp
 | rows0 hφ => rw [hφ] at hp; cases hp
theorem BRel.go {w' : World} {S' : Nat → Prop} {φ' : Phi} {b : Nat} {B : Blk} (r : BRel w S φ b B) (fz : Bool) (hφ : φ' b B.ver = φ b B.ver)
  (hv : ∀ v d, VRel w S φ v d → VRel w' S' φ' v d) (hh : ∀ A x, φ b B.ver = some (A, x) → B.body ≠ .dead → w'.heap[A]? = w.heap[A]?)
  (hS : ∀ A x, φ b B.ver = some (A, x) → B.body ≠ .dead → if fz then S' A else ¬ S' A) : BRel w' S' φ' b { B with fz := fz } := by
 cases r with
 | dead => exact .dead
 | ints hp hA hn hl hx _ => exact .ints (hφ.trans hp) ((hh _ _ hp (by simp)).trans hA) hn hl hx (hS _ _ hp (by simp))
 | rows hp hA hn hl hsz hx _ =>
  exact .rows (hφ.trans hp) ((hh _ _ hp (by simp)).trans hA) hn hl hsz (fun i d j e h1 h2 => let ⟨x, g1, g2⟩ := hx i d j e h1 h2; ⟨x, g1, hv _ _ g2⟩) (hS _ _ hp (by simp))
 | map hp hA hn hx _ => exact .map (hφ.trans hp) ((hh _ _ hp (by simp)).trans hA) hn (fun i e h1 => let ⟨m, g1, g2, g3⟩ := hx i e h1; ⟨m, g1, hv _ _ g2, hv _ _ g3⟩) (hS _ _ hp (by simp))
 | iter hp hA _ => exact .iter (hφ.trans hp) ((hh _ _ hp (by simp)).trans hA) (hS _ _ hp (by simp))
 | ints0 hp => exact .ints0 (hφ.trans hp)
 | rows0 hp => exact .rows0 (hφ.trans hp)

theorem freeze_sound (H : HRel w S φ h) (l : List Nat) : HRel w (FS S φ h l) φ (freeze h l) ∧ Ext w S φ h w (FS S φ h l) φ (freeze h l) := by
 have sub : ∀ b, S b → FS S φ h l b := fun b hb => .inl hb
 have inv : ∀ {b : Nat} {B : Blk}, (freeze h l)[b]? = some B → ∃ B0, h[b]? = some B0 ∧ B0.ver = B.ver ∧ B0.body = B.body ∧ (B.fz = if b ∈ l then true else B0.fz) := fun {b B} e => by
  rw [freeze_get] at e
  by_cases hb : b ∈ l
  ·rw [if_pos hb] at e
   obtain ⟨B0, h1, h2⟩ := Option.map_eq_some_iff.1 e
   subst h2
   exact ⟨B0, h1, rfl, rfl, by simp [hb]⟩
  ·rw [if_neg hb] at e
   exact ⟨B, e, rfl, rfl, by simp [hb]⟩
 have HF : HRel w (FS S φ h l) φ (freeze h l) := by
  refine ⟨fun b B e => ?_, fun b b' B B' A x x' e e' hl hl' hp hp' => ?_, fun b v x hp => ?_, fun b hb => ?_⟩
  ·obtain ⟨B0, h1, h2, h3, h4⟩ := inv e
   have hBeq : B = { B0 with fz := B.fz } := by cases B; cases B0; simp_all
   rw [hBeq]
   refine (H.blk b B0 h1).go B.fz rfl (fun v d r => r.to sub) (fun A x _ _ => rfl) fun A x hp hl => ?_
   rw [h4]
   by_cases hb : b ∈ l
   ·simp only [hb, if_true]
    exact .inr ⟨b, hb, B0, x, h1, hl, hp⟩
   ·simp only [hb, if_false]
    have hs := live_some H h1 hl hp
    cases hf : B0.fz with
    | true => rw [if_pos rfl]; exact .inl (hs.2.1 hf)
    | false =>
     have : ¬ FS S φ h l A := fun hfs => by
      rcases hfs with hfs | ⟨b', hb', B', x', g1, g2, g3⟩
      ·exact hs.2.2 hf hfs
      ·have := H.inj b b' B0 B' A x x' h1 g1 hl g2 hp g3
       subst this; exact hb hb'
     rw [if_neg (by simp)]; exact this
  ·obtain ⟨B0, h1, h2, h3, h4⟩ := inv e
   obtain ⟨B0', h1', h2', h3', h4'⟩ := inv e'
   exact H.inj b b' B0 B0' A x x' h1 h1' (by rw [h3]; exact hl) (by rw [h3']; exact hl') (by rw [h2]; exact hp) (by rw [h2']; exact hp')
  ·obtain ⟨B, h1, h2, h3⟩ := H.dom b v x hp
   have hg := freeze_get l h b
   rw [h1] at hg
   by_cases hb : b ∈ l
   ·rw [if_pos hb] at hg; exact ⟨_, hg, h2, h3⟩
   ·rw [if_neg hb] at hg; exact ⟨_, hg, h2, h3⟩
  ·rcases hb with hb | ⟨b', _, B', x', g1, g2, g3⟩
   ·exact H.lt b hb
   ·exact (live_some H g1 g2 g3).1
 refine ⟨HF, ⟨rfl, rfl, rfl, Nat.le_refl _, sub, fun _ _ _ h => h, fun _ _ _ => rfl, fun b hb => ?_, fun b hb => ?_⟩⟩
 ·rcases hb with hb | ⟨b', _, B', x', g1, g2, g3⟩
  ·exact .inl hb
  ·cases hf : B'.fz with
   | true => exact .inl ((live_some H g1 g2 g3).2.1 hf)
   | false => exact .inr (.inl ⟨b', B', x', g1, g2, hf, g3⟩)
 ·obtain ⟨b', B', x', g1, g2, g3, g4⟩ := hb
  obtain ⟨B0, h1, h2, h3, h4⟩ := inv g1
  refine .inl ⟨b', B0, x', h1, by rw [h3]; exact g2, ?_, by rw [h2]; exact g4⟩
  rw [g3] at h4
  by_cases hb : b' ∈ l
  ·simp [hb] at h4
  ·simpa [hb] using h4.symm
end Go.Proofs.YtlpbmajbalenjaaA
namespace Go.Proofs.YtlpbmajbalenjaaA
open Go
variable {P : Program} {w w' : World} {S : Nat → Prop} {φ φ' : Phi} {h h' : Heap}

def BodyOk (w : World) (S : Nat → Prop) (φ : Phi) (sz : Nat) (c : Array Value) : Body → Prop
 | .dead => False
 | .map _ | .iter _ _ => False
 | .ints k xs => sz = 1 ∧ xs.length ≤ c.size ∧ ∀ i, i < xs.length → c[i]? = some (.int k (xs.getD i 0))
 | .rows s xs => s = sz ∧ xs.length * sz ≤ c.size ∧ (∀ (i : Nat) (d : D), xs[i]? = some d → d.wide sz) ∧
   ∀ (i : Nat) (d : D) (j : Nat) (e : D), xs[i]? = some d → d.cells[j]? = some e → ∃ x, c[i * sz + j]? = some x ∧ VRel w S φ x e
theorem BRel.mk {b v A sz : Nat} {c : Array Value} {T : TypeId} {fz : Bool} {body : Body} (hφ : φ b v = some (A, sz, c.size)) (hA : w.heap[A]? = some (.cells c T (0, 0)))
  (ok : BodyOk w S φ sz c body) (hS : if fz then S A else ¬ S A) : BRel w S φ b ⟨v, fz, body⟩ := by
 cases body with
 | dead => exact ok.elim
 | map _ => exact ok.elim
 | iter _ _ => exact ok.elim
 | ints k xs => obtain ⟨rfl, h1, h2⟩ := ok; exact .ints hφ hA rfl h1 h2 hS
 | rows s xs => obtain ⟨rfl, h1, h2, h3⟩ := ok; exact .rows hφ hA rfl h1 h2 h3 hS

theorem placeH (H : HRel w S φ h) {A b v : Nat} {y : Nat × Nat} {body : Body} (hsize : w.heap.size ≤ w'.heap.size)
  (hne : ∀ i, i ≠ A → i < w.heap.size → w'.heap[i]? = w.heap[i]?) (hAS : ¬ S A)
  (hb : h'[b]? = some ⟨v, false, body⟩)
  (hold : ∀ (i : Nat) (B : Blk), i ≠ b → h'[i]? = some B → ∃ B0, h[i]? = some B0 ∧ B.ver = B0.ver ∧ (B.body = .dead ∨ (B = B0 ∧ ∀ x, φ i B0.ver ≠ some (A, x))))
  (hpb : φ' b v = some (A, y)) (hph : ∀ i u x, φ i u = some x → φ' i u = some x) (hpn : ∀ i u x, φ' i u = some x → φ i u = some x ∨ (i = b ∧ u = v))
  (hdom : ∀ i u x, φ' i u = some x → ∃ B, h'[i]? = some B ∧ 1 ≤ u ∧ u ≤ B.ver) (hbr : BRel w' S φ' b ⟨v, false, body⟩) : HRel w' S φ' h' := by
 have hSk : ∀ i, S i → w'.heap[i]? = w.heap[i]? := fun i hi => hne i (fun e => hAS (e ▸ hi)) (H.lt i hi)
 have hpeq : ∀ (i : Nat) (B : Blk), i ≠ b → φ' i B.ver = φ i B.ver := fun i B hi => by
  cases hp : φ i B.ver with
  | some x => exact hph _ _ _ hp
  | none =>
   cases hp' : φ' i B.ver with
   | none => rfl
   | some x =>
    rcases hpn _ _ _ hp' with g | g
    ·rw [hp] at g; cases g
    ·exact absurd g.1 hi
 have hmono : ∀ x d, VRel w S φ x d → VRel w' S φ' x d := fun x d r => r.mono (fun _ h => h) hSk hph
 refine ⟨fun i B e => ?_, fun i i' B B' A' x x' e e' hl hl' hp hp' => ?_, hdom, fun i hi => Nat.lt_of_lt_of_le (H.lt i hi) hsize⟩
 ·by_cases hi : i = b
  ·subst hi
   rw [hb] at e; cases e
   exact hbr
  ·obtain ⟨B0, h1, h2, h3⟩ := hold i B hi e
   rcases h3 with h3 | ⟨rfl, h3⟩
   ·have : B = ⟨B.ver, B.fz, .dead⟩ := by cases B; simp_all
    rw [this]; exact .dead
   ·have key := (H.blk i B h1).go (w' := w') (S' := S) (φ' := φ') B.fz (hpeq i B hi) hmono
     (fun A' x hp hl => hne A' (fun e => h3 x (e ▸ hp)) (live_some H h1 hl hp).1)
     (fun A' x hp hl => by
      have := live_some H h1 hl hp
      cases hf : B.fz with
      | true => rw [if_pos rfl]; exact this.2.1 hf
      | false => rw [if_neg (by simp)]; exact this.2.2 hf)
    exact key
 ·-- two live rows at one block are one
  have lookup : ∀ {i : Nat} {B : Blk} {y : Nat × Nat}, h'[i]? = some B → B.body ≠ .dead → φ' i B.ver = some (A', y) → i ≠ b → h[i]? = some B ∧ φ i B.ver = some (A', y) ∧ A' ≠ A := fun {i B y} e hl hp hi => by
   obtain ⟨B0, h1, h2, h3⟩ := hold i B hi e
   rcases h3 with h3 | ⟨rfl, h3⟩
   ·exact absurd h3 hl
   ·rw [hpeq i B hi] at hp
    exact ⟨h1, hp, fun e => h3 y (e ▸ hp)⟩
  have atb : ∀ {i : Nat} {B : Blk} {y : Nat × Nat}, h'[i]? = some B → φ' i B.ver = some (A', y) → i = b → A' = A := fun {i B y} e hp hi => by
   subst hi
   rw [hb] at e; cases e
   rw [hpb] at hp; cases hp; rfl
  by_cases h1 : i = b
  ·by_cases h2 : i' = b
   ·rw [h1, h2]
   ·exact absurd (atb e hp h1) (lookup e' hl' hp' h2).2.2
  ·by_cases h2 : i' = b
   ·exact absurd (atb e' hp' h2) (lookup e hl hp h1).2.2
   ·obtain ⟨g1, g2, _⟩ := lookup e hl hp h1
    obtain ⟨g3, g4, _⟩ := lookup e' hl' hp' h2
    exact H.inj i i' B B' A' x x' g1 g3 hl hl' g2 g4
theorem place2 (H : HRel w S φ h) {A b v : Nat} {y : Nat × Nat} {body : Body} (hos : w'.os = w.os) (htape : w'.tape = w.tape) (hout : w'.output = w.output) (hsize : w.heap.size ≤ w'.heap.size)
  (hne : ∀ i, i ≠ A → i < w.heap.size → w'.heap[i]? = w.heap[i]?) (hAS : ¬ S A) (hAo : A < w.heap.size → Own φ h A)
  (hb : h'[b]? = some ⟨v, false, body⟩)
  (hold : ∀ (i : Nat) (B : Blk), i ≠ b → h'[i]? = some B → ∃ B0, h[i]? = some B0 ∧ B.ver = B0.ver ∧ (B.body = .dead ∨ (B = B0 ∧ ∀ x, φ i B0.ver ≠ some (A, x))))
  (hpb : φ' b v = some (A, y)) (hph : ∀ i u x, φ i u = some x → φ' i u = some x) (hpn : ∀ i u x, φ' i u = some x → φ i u = some x ∨ (i = b ∧ u = v))
  (hdom : ∀ i u x, φ' i u = some x → ∃ B, h'[i]? = some B ∧ 1 ≤ u ∧ u ≤ B.ver) (hbr : BRel w' S φ' b ⟨v, false, body⟩) : HRel w' S φ' h' ∧ Ext w S φ h w' S φ' h' := by
 have hSk : ∀ i, S i → w'.heap[i]? = w.heap[i]? := fun i hi => hne i (fun e => hAS (e ▸ hi)) (H.lt i hi)
 have hpeq : ∀ (i : Nat) (B : Blk), i ≠ b → φ' i B.ver = φ i B.ver := fun i B hi => by
  cases hp : φ i B.ver with
  | some x => exact hph _ _ _ hp
  | none =>
   cases hp' : φ' i B.ver with
   | none => rfl
   | some x =>
    rcases hpn _ _ _ hp' with g | g
    ·rw [hp] at g; cases g
    ·exact absurd g.1 hi
 have hmono : ∀ x d, VRel w S φ x d → VRel w' S φ' x d := fun x d r => r.mono (fun _ h => h) hSk hph
 have hH : HRel w' S φ' h' := placeH H hsize hne hAS hb hold hpb hph hpn hdom hbr
 refine ⟨hH, ⟨hos, htape, hout, hsize, fun _ h => h, hph, fun i hi ho => ?_, fun i hi => .inl hi, fun i ho => ?_⟩⟩
 ·by_cases hiA : i = A
  ·subst hiA; exact absurd (hAo hi) ho
  ·exact hne i hiA hi
 ·obtain ⟨b', B, x, h1, h2, h3, h4⟩ := ho
  by_cases hi : b' = b
  ·subst hi
   rw [hb] at h1; cases h1
   rw [hpb] at h4; cases h4
   rcases Nat.lt_or_ge A w.heap.size with g | g
   ·exact .inl (hAo g)
   ·exact .inr g
  ·obtain ⟨B0, g1, g2, g3⟩ := hold b' B hi h1
   rcases g3 with g3 | ⟨rfl, g3⟩
   ·exact absurd g3 h2
   ·rw [hpeq b' B hi] at h4
    exact .inl ⟨b', B, x, g1, h2, h3, h4⟩

theorem place (H : HRel w S φ h) {A sz b v : Nat} {c : Array Value} {T : TypeId} {body : Body} (hos : w'.os = w.os) (htape : w'.tape = w.tape) (hout : w'.output = w.output) (hsize : w.heap.size ≤ w'.heap.size)
  (hA : w'.heap[A]? = some (.cells c T (0, 0))) (hne : ∀ i, i ≠ A → i < w.heap.size → w'.heap[i]? = w.heap[i]?) (hAS : ¬ S A) (hAo : A < w.heap.size → Own φ h A)
  (hb : h'[b]? = some ⟨v, false, body⟩)
  (hold : ∀ (i : Nat) (B : Blk), i ≠ b → h'[i]? = some B → ∃ B0, h[i]? = some B0 ∧ B.ver = B0.ver ∧ (B.body = .dead ∨ (B = B0 ∧ ∀ x, φ i B0.ver ≠ some (A, x))))
  (hpb : φ' b v = some (A, sz, c.size)) (hph : ∀ i u x, φ i u = some x → φ' i u = some x) (hpn : ∀ i u x, φ' i u = some x → φ i u = some x ∨ (i = b ∧ u = v))
  (hdom : ∀ i u x, φ' i u = some x → ∃ B, h'[i]? = some B ∧ 1 ≤ u ∧ u ≤ B.ver) (ok : BodyOk w' S φ' sz c body) : HRel w' S φ' h' ∧ Ext w S φ h w' S φ' h' :=
 place2 H hos htape hout hsize hne hAS hAo hb hold hpb hph hpn hdom (.mk hpb hA ok hAS)

theorem hollow (H : HRel w S φ h) (hos : w'.os = w.os) (htape : w'.tape = w.tape) (hout : w'.output = w.output) (hheap : w'.heap = w.heap)
  (hold : ∀ (i : Nat) (B : Blk), h'[i]? = some B → ∃ B0, h[i]? = some B0 ∧ B0.ver ≤ B.ver ∧ (B.body = .dead ∨ B = B0 ∨ (B0.ver < B.ver ∧ ((∃ k, B.body = .ints k []) ∨ ∃ s, B.body = .rows s []))))
  (hlen : h.length ≤ h'.length) : HRel w' S φ h' ∧ Ext w S φ h w' S φ h' := by
 have hmono : ∀ x d, VRel w S φ x d → VRel w' S φ x d := fun x d r => r.mono (fun _ h => h) (fun _ _ => by rw [hheap]) (fun _ _ _ h => h)
 have fresh : ∀ {i : Nat} {B0 B : Blk}, h[i]? = some B0 → B0.ver < B.ver → φ i B.ver = none := fun {i B0 B} h1 hlt => by
  cases hp : φ i B.ver with
  | none => rfl
  | some x =>
   obtain ⟨B1, g1, _, g2⟩ := H.dom _ _ _ hp
   rw [h1] at g1; cases g1
   omega
 have live : ∀ {i : Nat} {B : Blk} {y : Nat × Nat × Nat}, h'[i]? = some B → B.body ≠ .dead → φ i B.ver = some y → h[i]? = some B := fun {i B y} e hl hp => by
  obtain ⟨B0, h1, h2, h3⟩ := hold i B e
  rcases h3 with h3 | rfl | ⟨h3, _⟩
  ·exact absurd h3 hl
  ·exact h1
  ·rw [fresh h1 h3] at hp; cases hp
 have hH : HRel w' S φ h' := by
  refine ⟨fun i B e => ?_, fun i i' B B' A' x x' e e' hl hl' hp hp' => H.inj i i' B B' A' x x' (live e hl hp) (live e' hl' hp') hl hl' hp hp', fun i u x hp => ?_, fun i hi => by rw [hheap]; exact H.lt i hi⟩
  ·obtain ⟨B0, h1, h2, h3⟩ := hold i B e
   rcases h3 with h3 | rfl | ⟨h3, h4⟩
   ·have : B = ⟨B.ver, B.fz, .dead⟩ := by cases B; simp_all
    rw [this]; exact .dead
   ·have key := (H.blk i B h1).go (w' := w') (S' := S) (φ' := φ) B.fz rfl hmono (fun A' x _ _ => by rw [hheap])
     (fun A' x hp hl => by
      have := live_some H h1 hl hp
      cases hf : B.fz with
      | true => rw [if_pos rfl]; exact this.2.1 hf
      | false => rw [if_neg (by simp)]; exact this.2.2 hf)
    exact key
   ·have hp := fresh h1 h3
    obtain ⟨v, fz, body⟩ := B
    simp only at hp h4
    rcases h4 with ⟨k, rfl⟩ | ⟨s, rfl⟩
    ·exact .ints0 hp
    ·exact .rows0 hp
  ·obtain ⟨B, g1, g2, g3⟩ := H.dom _ _ _ hp
   have hi : i < h'.length := Nat.lt_of_lt_of_le (List.getElem?_eq_some_iff.1 g1).1 hlen
   obtain ⟨B0, h1, h2, _⟩ := hold i h'[i] (List.getElem?_eq_getElem hi)
   rw [g1] at h1; cases h1
   exact ⟨_, List.getElem?_eq_getElem hi, g2, Nat.le_trans g3 h2⟩
 refine ⟨hH, ⟨hos, htape, hout, by rw [hheap]; exact Nat.le_refl _, fun _ h => h, fun _ _ _ h => h, fun i _ _ => by rw [hheap], fun i hi => .inl hi, fun i ho => ?_⟩⟩
 obtain ⟨b', B, x, h1, h2, h3, h4⟩ := ho
 exact .inl ⟨b', B, x, live h1 h2 h4, h2, h3, h4⟩
theorem kill_get (h : Heap) (b i : Nat) : (kill1 h b)[i]? = if i = b then (h[i]?).map fun B => { B with body := .dead } else h[i]? := by
 unfold kill1
 cases hb : h[b]? with
 | none =>
  simp only
  by_cases hi : i = b
  ·subst hi; rw [hb]; simp
  ·rw [if_neg hi]
 | some B =>
  simp only
  rw [List.getElem?_set]
  have hlt : b < h.length := (List.getElem?_eq_some_iff.1 hb).1
  by_cases hi : b = i
  ·subst hi; rw [if_pos rfl, if_pos hlt, if_pos rfl, hb]; rfl
  ·rw [if_neg hi, if_neg (Ne.symm hi)]
theorem kill_len (h : Heap) (b : Nat) : (kill1 h b).length = h.length := by
 unfold kill1; split <;> simp
theorem kill_sound (H : HRel w S φ h) (b : Nat) : HRel w S φ (kill1 h b) ∧ Ext w S φ h w S φ (kill1 h b) := by
 refine hollow H rfl rfl rfl rfl (fun i B e => ?_) (by rw [kill_len]; exact Nat.le_refl _)
 rw [kill_get] at e
 by_cases hi : i = b
 ·rw [if_pos hi] at e
  obtain ⟨B0, h1, h2⟩ := Option.map_eq_some_iff.1 e
  subst h2
  exact ⟨B0, h1, Nat.le_refl _, .inl rfl⟩
 ·rw [if_neg hi] at e
  exact ⟨B, e, Nat.le_refl _, .inr (.inl rfl)⟩
def newPhi (φ : Phi) (b v : Nat) (x : Nat × Nat × Nat) : Phi := fun i u => if i = b ∧ u = v then some x else φ i u
theorem newPhi_at (φ : Phi) (b v : Nat) (x : Nat × Nat × Nat) : newPhi φ b v x b v = some x := by simp [newPhi]
theorem newPhi_up (H : HRel w S φ h) {b : Nat} {B : Blk} (hB : h[b]? = some B) {v : Nat} (hv : B.ver < v) (x : Nat × Nat × Nat) : ∀ i u y, φ i u = some y → newPhi φ b v x i u = some y := by
 intro i u y hp
 unfold newPhi
 by_cases hc : i = b ∧ u = v
 ·obtain ⟨rfl, rfl⟩ := hc
  obtain ⟨B1, g1, _, g2⟩ := H.dom _ _ _ hp
  rw [hB] at g1; cases g1
  omega
 ·rw [if_neg hc]; exact hp
theorem newPhi_inv {φ : Phi} {b v : Nat} {x : Nat × Nat × Nat} : ∀ i u y, newPhi φ b v x i u = some y → φ i u = some y ∨ (i = b ∧ u = v) := by
 intro i u y hp
 unfold newPhi at hp
 by_cases hc : i = b ∧ u = v
 ·exact .inr hc
 ·rw [if_neg hc] at hp; exact .inl hp
theorem fresh_sound (H : HRel w S φ h) {b : Nat} {B : Blk} (hB : h[b]? = some B) {body : Body} {sz : Nat} {c : Array Value} {T : TypeId} (hos : w'.os = w.os) (htape : w'.tape = w.tape) (hout : w'.output = w.output)
  (hheap : w'.heap = w.heap.push (.cells c T (0, 0))) (ok : BodyOk w S φ sz c body) :
  HRel w' S (newPhi φ b (B.ver + 1) (w.heap.size, sz, c.size)) (h.set b ⟨B.ver + 1, false, body⟩) ∧
  Ext w S φ h w' S (newPhi φ b (B.ver + 1) (w.heap.size, sz, c.size)) (h.set b ⟨B.ver + 1, false, body⟩) := by
 have hlt : b < h.length := (List.getElem?_eq_some_iff.1 hB).1
 have hmono : ∀ x d, VRel w S φ x d → VRel w' S (newPhi φ b (B.ver + 1) (w.heap.size, sz, c.size)) x d := fun x d r =>
  r.mono (fun _ h => h) (fun i hi => by rw [hheap, Array.getElem?_push, if_neg (by have := H.lt i hi; omega)]) (newPhi_up H hB (Nat.lt_succ_self _) _)
 refine place H (A := w.heap.size) (c := c) (T := T) (sz := sz) (b := b) (v := B.ver + 1) (body := body) hos htape hout (by rw [hheap]; simp) (by rw [hheap]; simp) (fun i hi hl => by rw [hheap, Array.getElem?_push, if_neg hi])
  (fun hs => absurd (H.lt _ hs) (by omega)) (fun hl => absurd hl (by omega)) (by rw [List.getElem?_set_self hlt]) (fun i B' hi e => ?_) (newPhi_at _ _ _ _) (newPhi_up H hB (Nat.lt_succ_self _) _) newPhi_inv (fun i u x hp => ?_) ?_
 ·rw [List.getElem?_set_ne (Ne.symm hi)] at e
  by_cases hd : B'.body = .dead
  ·exact ⟨B', e, rfl, .inl hd⟩
  ·exact ⟨B', e, rfl, .inr ⟨rfl, fun x hp => by have := (live_some H e hd hp).1; omega⟩⟩
 ·rcases newPhi_inv _ _ _ hp with g | ⟨rfl, rfl⟩
  ·obtain ⟨B1, g1, g2, g3⟩ := H.dom _ _ _ g
   by_cases hi : i = b
   ·subst hi
    rw [hB] at g1; cases g1
    exact ⟨_, List.getElem?_set_self hlt, g2, by simp; omega⟩
   ·exact ⟨B1, by rw [List.getElem?_set_ne (Ne.symm hi)]; exact g1, g2, g3⟩
  ·exact ⟨_, List.getElem?_set_self hlt, by omega, by simp⟩
 ·cases body with
  | dead => exact ok.elim
  | map _ => exact ok.elim
  | iter _ _ => exact ok.elim
  | ints k xs => exact ok
  | rows s xs => obtain ⟨h1, h2, h3, h4⟩ := ok; exact ⟨h1, h2, h3, fun i d j e g1 g2 => let ⟨x, k1, k2⟩ := h4 i d j e g1 g2; ⟨x, k1, hmono _ _ k2⟩⟩
theorem written_sound (H : HRel w S φ h) {b : Nat} {B : Blk} (hB : h[b]? = some B) (hl : B.body ≠ .dead) (hf : B.fz = false) {A sz n : Nat} (hp : φ b B.ver = some (A, sz, n)) {body : Body} {c c' : Array Value} {T : TypeId}
  (hA : w.heap[A]? = some (.cells c T (0, 0))) (hn : c'.size = n) (hos : w'.os = w.os) (htape : w'.tape = w.tape) (hout : w'.output = w.output)
  (hheap : w'.heap = w.heap.setIfInBounds A (.cells c' T (0, 0))) (ok : BodyOk w S φ sz c' body) :
  HRel w' S φ (h.set b { B with body := body }) ∧ Ext w S φ h w' S φ (h.set b { B with body := body }) := by
 have hlt : b < h.length := (List.getElem?_eq_some_iff.1 hB).1
 have hls := live_some H hB hl hp
 have hnS : ¬ S A := hls.2.2 hf
 have hne : ∀ i, i ≠ A → w'.heap[i]? = w.heap[i]? := fun i hi => by rw [hheap, Array.getElem?_setIfInBounds_ne (Ne.symm hi)]
 have hmono : ∀ x d, VRel w S φ x d → VRel w' S φ x d := fun x d r =>
  r.mono (fun _ h => h) (fun i hi => hne i fun e => hnS (e ▸ hi)) (fun _ _ _ h => h)
 subst hn
 refine place H (A := A) (c := c') (T := T) (sz := sz) (b := b) (v := B.ver) (body := body) hos htape hout (by rw [hheap]; simp) (by rw [hheap]; simp [hls.1]) (fun i hi _ => hne i hi)
  hnS (fun _ => ⟨b, B, _, hB, hl, hf, hp⟩) (by rw [List.getElem?_set_self hlt, ← hf]) (fun i B' hi e => ?_) hp (fun _ _ _ h => h) (fun _ _ _ h => .inl h) (fun i u x hp => ?_) ?_
 ·rw [List.getElem?_set_ne (Ne.symm hi)] at e
  by_cases hd : B'.body = .dead
  ·exact ⟨B', e, rfl, .inl hd⟩
  ·exact ⟨B', e, rfl, .inr ⟨rfl, fun x hp' => hi (H.inj i b B' B A x _ e hB hd hl hp' hp)⟩⟩
 ·obtain ⟨B1, g1, g2, g3⟩ := H.dom _ _ _ hp
  by_cases hi : i = b
  ·subst hi
   rw [hB] at g1; cases g1
   exact ⟨_, List.getElem?_set_self hlt, g2, g3⟩
  ·exact ⟨B1, by rw [List.getElem?_set_ne (Ne.symm hi)]; exact g1, g2, g3⟩
 ·cases body with
  | dead => exact ok.elim
  | map _ => exact ok.elim
  | iter _ _ => exact ok.elim
  | ints k xs => exact ok
  | rows s xs => obtain ⟨h1, h2, h3, h4⟩ := ok; exact ⟨h1, h2, h3, fun i d j e g1 g2 => let ⟨x, k1, k2⟩ := h4 i d j e g1 g2; ⟨x, k1, hmono _ _ k2⟩⟩
theorem moved_sound (H : HRel w S φ h) {b : Nat} {B : Blk} (hB : h[b]? = some B) (hl : B.body ≠ .dead) (hf : B.fz = false) {A sz n : Nat} (hp : φ b B.ver = some (A, sz, n)) {b' : Nat} {B' : Blk} (hB' : (kill1 h b)[b']? = some B') {body : Body} {c c' : Array Value} {T : TypeId}
  (hA : w.heap[A]? = some (.cells c T (0, 0))) (hn : c'.size = n) (hos : w'.os = w.os) (htape : w'.tape = w.tape) (hout : w'.output = w.output)
  (hheap : w'.heap = w.heap.setIfInBounds A (.cells c' T (0, 0))) (ok : BodyOk w S φ sz c' body) :
  HRel w' S (newPhi φ b' (B'.ver + 1) (A, sz, n)) ((kill1 h b).set b' ⟨B'.ver + 1, false, body⟩) ∧
  Ext w S φ h w' S (newPhi φ b' (B'.ver + 1) (A, sz, n)) ((kill1 h b).set b' ⟨B'.ver + 1, false, body⟩) := by
 have hlt : b' < (kill1 h b).length := (List.getElem?_eq_some_iff.1 hB').1
 have hls := live_some H hB hl hp
 have hnS : ¬ S A := hls.2.2 hf
 have hne : ∀ i, i ≠ A → w'.heap[i]? = w.heap[i]? := fun i hi => by rw [hheap, Array.getElem?_setIfInBounds_ne (Ne.symm hi)]
 obtain ⟨B0, hB0, hv0⟩ : ∃ B0, h[b']? = some B0 ∧ B0.ver = B'.ver := by
  rw [kill_get] at hB'
  by_cases hi : b' = b
  ·rw [if_pos hi] at hB'
   obtain ⟨B0, h1, h2⟩ := Option.map_eq_some_iff.1 hB'
   subst h2
   exact ⟨B0, h1, rfl⟩
  ·rw [if_neg hi] at hB'; exact ⟨B', hB', rfl⟩
 have up := newPhi_up H hB0 (v := B'.ver + 1) (by omega) (A, sz, n)
 have hmono : ∀ x d, VRel w S φ x d → VRel w' S (newPhi φ b' (B'.ver + 1) (A, sz, n)) x d := fun x d r =>
  r.mono (fun _ h => h) (fun i hi => hne i fun e => hnS (e ▸ hi)) up
 subst hn
 refine place H (A := A) (c := c') (T := T) (sz := sz) (b := b') (v := B'.ver + 1) (body := body) hos htape hout (by rw [hheap]; simp) (by rw [hheap]; simp [hls.1]) (fun i hi _ => hne i hi)
  hnS (fun _ => ⟨b, B, _, hB, hl, hf, hp⟩) (by rw [List.getElem?_set_self hlt]) (fun i B1 hi e => ?_) (newPhi_at _ _ _ _) up newPhi_inv (fun i u x hp => ?_) ?_
 ·rw [List.getElem?_set_ne (Ne.symm hi), kill_get] at e
  by_cases hib : i = b
  ·rw [if_pos hib] at e
   obtain ⟨B2, h1, h2⟩ := Option.map_eq_some_iff.1 e
   subst h2
   exact ⟨B2, h1, rfl, .inl rfl⟩
  ·rw [if_neg hib] at e
   by_cases hd : B1.body = .dead
   ·exact ⟨B1, e, rfl, .inl hd⟩
   ·exact ⟨B1, e, rfl, .inr ⟨rfl, fun x hp' => hib (H.inj i b B1 B A x _ e hB hd hl hp' hp)⟩⟩
 ·rcases newPhi_inv _ _ _ hp with g | ⟨rfl, rfl⟩
  ·obtain ⟨B1, g1, g2, g3⟩ := H.dom _ _ _ g
   by_cases hi : i = b'
   ·subst hi
    rw [hB0] at g1; cases g1
    exact ⟨_, List.getElem?_set_self hlt, g2, by simp; omega⟩
   ·have hk := kill_get h b i
    rw [g1] at hk
    refine ⟨if i = b then { B1 with body := .dead } else B1, ?_, g2, ?_⟩
    ·rw [List.getElem?_set_ne (Ne.symm hi), hk]; split <;> rfl
    ·split <;> exact g3
  ·exact ⟨_, List.getElem?_set_self hlt, by omega, by simp⟩
 ·cases body with
  | dead => exact ok.elim
  | map _ => exact ok.elim
  | iter _ _ => exact ok.elim
  | ints k xs => exact ok
  | rows s xs => obtain ⟨h1, h2, h3, h4⟩ := ok; exact ⟨h1, h2, h3, fun i d j e g1 g2 => let ⟨x, k1, k2⟩ := h4 i d j e g1 g2; ⟨x, k1, hmono _ _ k2⟩⟩
def MapOk (w : World) (S : Nat → Prop) (φ : Phi) (ms : Array MapEntry) (es : List (D × D)) : Prop := ms.size = es.length ∧ ∀ (i : Nat) (e : D × D), es[i]? = some e → ∃ m, ms[i]? = some m ∧ VRel w S φ m.key e.1 ∧ VRel w S φ m.val e.2
theorem MapOk.mono (hv : ∀ v d, VRel w S φ v d → VRel w' S φ' v d) {ms : Array MapEntry} {es : List (D × D)} (h : MapOk w S φ ms es) : MapOk w' S φ' ms es :=
 ⟨h.1, fun i e g => let ⟨m, k1, k2, k3⟩ := h.2 i e g; ⟨m, k1, hv _ _ k2, hv _ _ k3⟩⟩
theorem freshMap_sound (H : HRel w S φ h) {b : Nat} {B : Blk} (hB : h[b]? = some B) (hos : w'.os = w.os) (htape : w'.tape = w.tape) (hout : w'.output = w.output)
  (hheap : w'.heap = w.heap.push (.map #[] 0)) :
  HRel w' S (newPhi φ b (B.ver + 1) (w.heap.size, 0, 0)) (h.set b ⟨B.ver + 1, false, .map []⟩) ∧
  Ext w S φ h w' S (newPhi φ b (B.ver + 1) (w.heap.size, 0, 0)) (h.set b ⟨B.ver + 1, false, .map []⟩) := by
 have hlt : b < h.length := (List.getElem?_eq_some_iff.1 hB).1
 have hAS : ¬ S w.heap.size := fun hs => absurd (H.lt _ hs) (by omega)
 refine place2 H (A := w.heap.size) (y := (0, 0)) (b := b) (v := B.ver + 1) (body := .map []) hos htape hout (by rw [hheap]; simp) (fun i hi hl => by rw [hheap, Array.getElem?_push, if_neg hi])
  hAS (fun hl => absurd hl (by omega)) (by rw [List.getElem?_set_self hlt]) (fun i B' hi e => ?_) (newPhi_at _ _ _ _) (newPhi_up H hB (Nat.lt_succ_self _) _) newPhi_inv (fun i u x hp => ?_) ?_
 ·rw [List.getElem?_set_ne (Ne.symm hi)] at e
  by_cases hd : B'.body = .dead
  ·exact ⟨B', e, rfl, .inl hd⟩
  ·exact ⟨B', e, rfl, .inr ⟨rfl, fun x hp => by have := (live_some H e hd hp).1; omega⟩⟩
 ·rcases newPhi_inv _ _ _ hp with g | ⟨rfl, rfl⟩
  ·obtain ⟨B1, g1, g2, g3⟩ := H.dom _ _ _ g
   by_cases hi : i = b
   ·subst hi
    rw [hB] at g1; cases g1
    exact ⟨_, List.getElem?_set_self hlt, g2, by simp; omega⟩
   ·exact ⟨B1, by rw [List.getElem?_set_ne (Ne.symm hi)]; exact g1, g2, g3⟩
  ·exact ⟨_, List.getElem?_set_self hlt, by omega, by simp⟩
 ·exact .map (ms := #[]) (clock := 0) (newPhi_at _ _ _ _) (by rw [hheap]; simp) rfl (fun i e g => by simp at g) (by rw [if_neg (by simp)]; exact hAS)
theorem writtenMap_sound (H : HRel w S φ h) {b : Nat} {B : Blk} (hB : h[b]? = some B) (hl : B.body ≠ .dead) (hf : B.fz = false) {A : Nat} (hp : φ b B.ver = some (A, 0, 0)) {es : List (D × D)} {ms : Array MapEntry} {clock : Nat}
  (hos : w'.os = w.os) (htape : w'.tape = w.tape) (hout : w'.output = w.output)
  (hheap : w'.heap = w.heap.setIfInBounds A (.map ms clock)) (ok : MapOk w S φ ms es) :
  HRel w' S φ (h.set b { B with body := .map es }) ∧ Ext w S φ h w' S φ (h.set b { B with body := .map es }) := by
 have hlt : b < h.length := (List.getElem?_eq_some_iff.1 hB).1
 have hls := live_some H hB hl hp
 have hnS : ¬ S A := hls.2.2 hf
 have hne : ∀ i, i ≠ A → w'.heap[i]? = w.heap[i]? := fun i hi => by rw [hheap, Array.getElem?_setIfInBounds_ne (Ne.symm hi)]
 have hmono : ∀ x d, VRel w S φ x d → VRel w' S φ x d := fun x d r =>
  r.mono (fun _ h => h) (fun i hi => hne i fun e => hnS (e ▸ hi)) (fun _ _ _ h => h)
 have ok' := ok.mono hmono
 refine place2 H (A := A) (y := (0, 0)) (b := b) (v := B.ver) (body := .map es) hos htape hout (by rw [hheap]; simp) (fun i hi _ => hne i hi)
  hnS (fun _ => ⟨b, B, _, hB, hl, hf, hp⟩) (by rw [List.getElem?_set_self hlt, ← hf]) (fun i B' hi e => ?_) hp (fun _ _ _ h => h) (fun _ _ _ h => .inl h) (fun i u x hp => ?_) ?_
 ·rw [List.getElem?_set_ne (Ne.symm hi)] at e
  by_cases hd : B'.body = .dead
  ·exact ⟨B', e, rfl, .inl hd⟩
  ·exact ⟨B', e, rfl, .inr ⟨rfl, fun x hp' => hi (H.inj i b B' B A x _ e hB hd hl hp' hp)⟩⟩
 ·obtain ⟨B1, g1, g2, g3⟩ := H.dom _ _ _ hp
  by_cases hi : i = b
  ·subst hi
   rw [hB] at g1; cases g1
   exact ⟨_, List.getElem?_set_self hlt, g2, g3⟩
  ·exact ⟨B1, by rw [List.getElem?_set_ne (Ne.symm hi)]; exact g1, g2, g3⟩
 ·exact .map (ms := ms) (clock := clock) hp (by rw [hheap]; simp [hls.1]) ok'.1 ok'.2 (by rw [if_neg (by simp)]; exact hnS)
theorem freshIter_sound (H : HRel w S φ h) {s : ByteArray} {b : Nat} {B : Blk} (hB : h[b]? = some B) (hos : w'.os = w.os) (htape : w'.tape = w.tape) (hout : w'.output = w.output)
  (hheap : w'.heap = w.heap.push (.stringIter s 0)) :
  HRel w' S (newPhi φ b (B.ver + 1) (w.heap.size, 0, 0)) (h.set b ⟨B.ver + 1, false, .iter s 0⟩) ∧
  Ext w S φ h w' S (newPhi φ b (B.ver + 1) (w.heap.size, 0, 0)) (h.set b ⟨B.ver + 1, false, .iter s 0⟩) := by
 have hlt : b < h.length := (List.getElem?_eq_some_iff.1 hB).1
 have hAS : ¬ S w.heap.size := fun hs => absurd (H.lt _ hs) (by omega)
 refine place2 H (A := w.heap.size) (y := (0, 0)) (b := b) (v := B.ver + 1) (body := .iter s 0) hos htape hout (by rw [hheap]; simp) (fun i hi hl => by rw [hheap, Array.getElem?_push, if_neg hi])
  hAS (fun hl => absurd hl (by omega)) (by rw [List.getElem?_set_self hlt]) (fun i B' hi e => ?_) (newPhi_at _ _ _ _) (newPhi_up H hB (Nat.lt_succ_self _) _) newPhi_inv (fun i u x hp => ?_) ?_
 ·rw [List.getElem?_set_ne (Ne.symm hi)] at e
  by_cases hd : B'.body = .dead
  ·exact ⟨B', e, rfl, .inl hd⟩
  ·exact ⟨B', e, rfl, .inr ⟨rfl, fun x hp => by have := (live_some H e hd hp).1; omega⟩⟩
 ·rcases newPhi_inv _ _ _ hp with g | ⟨rfl, rfl⟩
  ·obtain ⟨B1, g1, g2, g3⟩ := H.dom _ _ _ g
   by_cases hi : i = b
   ·subst hi
    rw [hB] at g1; cases g1
    exact ⟨_, List.getElem?_set_self hlt, g2, by simp; omega⟩
   ·exact ⟨B1, by rw [List.getElem?_set_ne (Ne.symm hi)]; exact g1, g2, g3⟩
  ·exact ⟨_, List.getElem?_set_self hlt, by omega, by simp⟩
 ·exact .iter (newPhi_at _ _ _ _) (by rw [hheap]; simp) (by rw [if_neg (by simp)]; exact hAS)
theorem writtenIter_sound (H : HRel w S φ h) {b : Nat} {B : Blk} (hB : h[b]? = some B) (hl : B.body ≠ .dead) (hf : B.fz = false) {A : Nat} (hp : φ b B.ver = some (A, 0, 0)) {s : ByteArray} {pos : Nat}
  (hos : w'.os = w.os) (htape : w'.tape = w.tape) (hout : w'.output = w.output)
  (hheap : w'.heap = w.heap.setIfInBounds A (.stringIter s pos)) :
  HRel w' S φ (h.set b { B with body := .iter s pos }) ∧ Ext w S φ h w' S φ (h.set b { B with body := .iter s pos }) := by
 have hlt : b < h.length := (List.getElem?_eq_some_iff.1 hB).1
 have hls := live_some H hB hl hp
 have hnS : ¬ S A := hls.2.2 hf
 have hne : ∀ i, i ≠ A → w'.heap[i]? = w.heap[i]? := fun i hi => by rw [hheap, Array.getElem?_setIfInBounds_ne (Ne.symm hi)]
 have hmono : ∀ x d, VRel w S φ x d → VRel w' S φ x d := fun x d r =>
  r.mono (fun _ h => h) (fun i hi => hne i fun e => hnS (e ▸ hi)) (fun _ _ _ h => h)
 refine place2 H (A := A) (y := (0, 0)) (b := b) (v := B.ver) (body := .iter s pos) hos htape hout (by rw [hheap]; simp) (fun i hi _ => hne i hi)
  hnS (fun _ => ⟨b, B, _, hB, hl, hf, hp⟩) (by rw [List.getElem?_set_self hlt, ← hf]) (fun i B' hi e => ?_) hp (fun _ _ _ h => h) (fun _ _ _ h => .inl h) (fun i u x hp => ?_) ?_
 ·rw [List.getElem?_set_ne (Ne.symm hi)] at e
  by_cases hd : B'.body = .dead
  ·exact ⟨B', e, rfl, .inl hd⟩
  ·exact ⟨B', e, rfl, .inr ⟨rfl, fun x hp' => hi (H.inj i b B' B A x _ e hB hd hl hp' hp)⟩⟩
 ·obtain ⟨B1, g1, g2, g3⟩ := H.dom _ _ _ hp
  by_cases hi : i = b
  ·subst hi
   rw [hB] at g1; cases g1
   exact ⟨_, List.getElem?_set_self hlt, g2, g3⟩
  ·exact ⟨B1, by rw [List.getElem?_set_ne (Ne.symm hi)]; exact g1, g2, g3⟩
 ·exact .iter hp (by rw [hheap]; simp [hls.1]) (by rw [if_neg (by simp)]; exact hnS)
end Go.Proofs.YtlpbmajbalenjaaA
namespace Go.Proofs.YtlpbmajbalenjaaA
open Go
variable {P : Program} {w w' : World} {S : Nat → Prop} {φ φ' : Phi} {h h' : Heap}

theorem VRel.int_inv {v : Value} {k : IntKind} {n : Int} (r : VRel w S φ v (.int k n)) : v = .int k n := by cases r; rfl
theorem VRel.str_inv {v : Value} {s : ByteArray} (r : VRel w S φ v (.str s)) : v = .string s := by cases r; rfl
theorem VRel.bool_inv {v : Value} {b : Bool} (r : VRel w S φ v (.bool b)) : v = .bool b := by cases r; rfl
theorem VRel.nilP_inv {v : Value} (r : VRel w S φ v .nilP) : v = .pointer none := by cases r; rfl
theorem VRel.ptr_inv {v : Value} {cs : List D} (r : VRel w S φ v (.ptr cs)) : ∃ a, v = .pointer (some a) := by cases r; exact ⟨_, rfl⟩
theorem VRel.pref_inv {v : Value} {b u i o : Nat} (r : VRel w S φ v (.pref b u i o)) : ∃ a, v = .pointer (some a) := by cases r; exact ⟨_, rfl⟩
theorem VRel.nilS_inv {v : Value} (r : VRel w S φ v .nilS) : ∃ a, v = .slice a 0 0 := by cases r; exact ⟨_, rfl⟩

theorem str_ext {x y : ByteArray} (e : x.toList = y.toList) : x = y := by
 rw [ByteArray.toList_eq, ByteArray.toList_eq] at e
 cases x; cases y; congr; exact Array.toList_inj.1 e
theorem str_eq (x y : ByteArray) : (x.toList == y.toList) = decide (x = y) := by
 rw [Bool.eq_iff_iff]
 simp only [beq_iff_eq, decide_eq_true_eq]
 exact ⟨str_ext, fun e => by rw [e]⟩

theorem arith_sound {op : BinOp} {k : IntKind} {x y : Int} {d : D} (e : arithD op k x y = some d) (t : TypeId) :
  ∃ v, (binOp op t (.int k x) (.int k y)).run P w = .ok v w ∧ VRel w S φ v d := by
 cases op <;> simp only [arithD, cmpD] at e
 case add => cases e; exact ⟨_, by rw [binOp_add]; rfl, .int⟩
 case sub => cases e; exact ⟨_, by rw [binOp_sub]; rfl, .int⟩
 case mul => cases e; exact ⟨_, by rw [binOp_mul]; rfl, .int⟩
 case quo =>
  by_cases h0 : y = 0
  ·simp [h0] at e
  ·rw [if_neg h0] at e; cases e
   exact ⟨_, by rw [binOp_quo]; simp [Op.intDiv, h0], .int⟩
 case rem =>
  by_cases h0 : y = 0
  ·simp [h0] at e
  ·rw [if_neg h0] at e; cases e
   exact ⟨_, by rw [binOp_rem]; simp [Op.intDiv, h0], .int⟩
 case and => cases e; exact ⟨_, by rw [binOp_and, intBits_and]; rfl, .int⟩
 case or => cases e; exact ⟨_, by rw [binOp_or, intBits_or]; rfl, .int⟩
 case xor => cases e; exact ⟨_, by rw [binOp_xor, intBits_xor]; rfl, .int⟩
 case andNot => cases e; exact ⟨_, by rw [binOp_andNot, intBits_andNot]; rfl, .int⟩
 case shl => cases e
 case shr => cases e
 case eql => cases e; exact ⟨_, by rw [binOp_eql]; rfl, .bool⟩
 case neq => cases e; exact ⟨_, by rw [binOp_neq]; rfl, by rw [show (x != y) = !decide (x = y) from rfl]; exact .bool⟩
 case lss => cases e; exact ⟨_, by rw [binOp_lss]; rfl, .bool⟩
 case leq => cases e; exact ⟨_, by rw [binOp_leq]; rfl, .bool⟩
 case gtr => cases e; exact ⟨_, by rw [binOp_gtr]; rfl, .bool⟩
 case geq => cases e; exact ⟨_, by rw [binOp_geq]; rfl, .bool⟩
theorem shift_sound {op : BinOp} {k k' : IntKind} {x y : Int} {d : D} (e : shiftD op k x y = some d) (t : TypeId) :
  ∃ v, (binOp op t (.int k x) (.int k' y)).run P w = .ok v w ∧ VRel w S φ v d := by
 cases op <;> simp only [shiftD] at e
 case shl =>
  by_cases h0 : y < 0
  ·simp [h0] at e
  ·rw [if_neg h0] at e; cases e
   exact ⟨_, by rw [binOp_shl, shift_shl_any _ _ _ _ (by omega)]; rfl, .int⟩
 case shr =>
  by_cases h0 : y < 0
  ·simp [h0] at e
  ·rw [if_neg h0] at e; cases e
   exact ⟨_, by rw [binOp_shr, shift_shr_any _ _ _ _ (by omega)]; rfl, .int⟩
 all_goals cases e
theorem strD_sound {op : BinOp} {x y : ByteArray} {d : D} (e : strD op x y = some d) (t : TypeId) :
  ∃ v, (binOp op t (.string x) (.string y)).run P w = .ok v w ∧ VRel w S φ v d := by
 have hb : ∀ op, (binOp op t (.string x) (.string y)) = Op.stringOp op x y := fun op => by cases op <;> rfl
 rw [hb]
 cases op <;> simp only [strD] at e
 case add =>
  by_cases h0 : x.size + y.size ≤ 9223372036854775807
  ·rw [if_pos h0] at e; cases e
   refine ⟨_, ?_, .str⟩
   have : ¬ (((x.size + y.size : Nat) : Int) > IntKind.i64.max) := by
    have : IntKind.i64.max = 9223372036854775807 := by decide
    rw [this]; omega
   simp only [Op.stringOp, this, if_false]; rfl
  ·rw [if_neg h0] at e; cases e
 case eql => cases e; exact ⟨_, rfl, by rw [str_eq]; exact .bool⟩
 case neq => cases e; exact ⟨_, rfl, by rw [str_eq]; exact .bool⟩
 case lss => cases e; exact ⟨_, rfl, .bool⟩
 case leq => cases e; exact ⟨_, rfl, by rw [str_eq]; exact .bool⟩
 case gtr => cases e; exact ⟨_, rfl, by rw [str_eq]; exact .bool⟩
 case geq => cases e; exact ⟨_, rfl, .bool⟩
 all_goals cases e
theorem binD_sound {op : BinOp} {x y : Value} {a b d : D} (e : binD op a b = some d) (ra : VRel w S φ x a) (rb : VRel w S φ y b) (t : TypeId) (X Y : Operand) :
    ∃ v, (do eqGuard op t X Y x y; binOp op t x y : Sem Value).run P w = .ok v w ∧ VRel w S φ v d := by
  cases a with
  | int k n =>
    cases b with
    | int k' m =>
      obtain rfl := ra.int_inv
      obtain rfl := rb.int_inv
      rw [eqGuard_at_int]
      simp only [binD] at e
      have key : ∃ v, (binOp op t (.int k n) (.int k' m)).run P w = .ok v w ∧ VRel w S φ v d := by
        cases op <;> first
          | exact shift_sound e t
          | (by_cases hk : k = k'
             · subst hk; simp only [if_true] at e; exact arith_sound e t
             · simp only [hk, if_false] at e; cases e)
      obtain ⟨v, h1, h2⟩ := key
      exact ⟨v, by simpa using h1, h2⟩
    | _ => simp [binD] at e
  | str s =>
    cases b with
    | str s' =>
      obtain rfl := ra.str_inv
      obtain rfl := rb.str_inv
      rw [eqGuard_at_string]
      obtain ⟨v, h1, h2⟩ := strD_sound (P := P) (w := w) (S := S) (φ := φ) e t
      exact ⟨v, by simpa using h1, h2⟩
    | _ => simp [binD] at e
  | _ => simp [binD] at e
theorem equal_at {t : TypeId} {x y : Value} {b : Bool} (hk : ∀ n, (Op.equalIn (n + 1) t x y).run P w = .ok b w) : (Op.equal t x y).run P w = .ok b w := by
 unfold Op.equal
 have : Op.maxDepth = 9999 + 1 := rfl
 rw [this]
 exact hk 9999
theorem equal_bool {t : TypeId} (hu : P.underlying t = some .bool) (a b : Bool) : (Op.equal t (.bool a) (.bool b)).run P w = .ok (a == b) w :=
 equal_at fun n => by simp [Op.equalIn, run_underlying hu]
theorem equal_ptr0 {t e : TypeId} (hu : P.underlying t = some (.pointer e)) (q : Option Addr) : (Op.equal t (.pointer none) (.pointer q)).run P w = .ok q.isNone w :=
 equal_at fun n => by simp [Op.equalIn, run_underlying hu]
theorem equal_ptr1 {t e : TypeId} (hu : P.underlying t = some (.pointer e)) (q : Addr) : (Op.equal t (.pointer (some q)) (.pointer none)).run P w = .ok false w :=
 equal_at fun n => by simp [Op.equalIn, run_underlying hu]
theorem eqB_sound {op : BinOp} {b : Bool} {d : D} {t : TypeId} {x y : Value} (e : eqB op b = some d) (hq : (Op.equal t x y).run P w = .ok b w)
  (h1 : binOp .eql t x y = do pure (.bool (← Op.equal t x y))) (h2 : binOp .neq t x y = do pure (.bool (!(← Op.equal t x y)))) :
  ∃ v, (binOp op t x y).run P w = .ok v w ∧ VRel w S φ v d := by
 cases op <;> simp only [eqB] at e <;> first
  | (cases e; rw [h1]; exact ⟨.bool b, by simp [hq], .bool⟩)
  | (cases e; rw [h2]; exact ⟨.bool !b, by simp [hq], .bool⟩)
  | cases e
theorem eqD_sound {op : BinOp} {u : TypeDesc} {x y : Value} {a b d : D} {t : TypeId} (hu : P.underlying t = some u) (e : eqD op u a b = some d) (ra : VRel w S φ x a) (rb : VRel w S φ y b) (X Y : Operand) :
  ∃ v, (do eqGuard op t X Y x y; binOp op t x y : Sem Value).run P w = .ok v w ∧ VRel w S φ v d := by
 have run : ∀ {c : Bool}, eqGuard op t X Y x y = pure () → (∃ v, (binOp op t x y).run P w = .ok v w ∧ VRel w S φ v d) → ∃ v, (do eqGuard op t X Y x y; binOp op t x y : Sem Value).run P w = .ok v w ∧ VRel w S φ v d := fun {c} hg k => by
  obtain ⟨v, h1, h2⟩ := k
  exact ⟨v, by rw [hg]; simpa using h1, h2⟩
 cases u <;> try (simp [eqD] at e; done)
 case bool =>
  cases a <;> try (simp [eqD] at e; done)
  cases b <;> try (simp [eqD] at e; done)
  obtain rfl := ra.bool_inv
  obtain rfl := rb.bool_inv
  simp only [eqD] at e
  exact run (c := true) (eqGuard_at_bool ..) (eqB_sound e (equal_bool hu _ _) rfl rfl)
 case pointer el =>
  cases a <;> try (simp [eqD] at e; done)
  ·obtain rfl := ra.nilP_inv
   cases b <;> try (simp [eqD] at e; done)
   ·obtain rfl := rb.nilP_inv
    exact run (c := true) (eqGuard_at_pointer ..) (eqB_sound e (equal_ptr0 hu none) rfl rfl)
   ·obtain ⟨q, rfl⟩ := rb.ptr_inv
    exact run (c := true) (eqGuard_at_pointer ..) (eqB_sound e (equal_ptr0 hu (some q)) rfl rfl)
   ·obtain ⟨q, rfl⟩ := rb.pref_inv
    exact run (c := true) (eqGuard_at_pointer ..) (eqB_sound e (equal_ptr0 hu (some q)) rfl rfl)
  ·obtain ⟨q, rfl⟩ := ra.ptr_inv
   cases b <;> try (simp [eqD] at e; done)
   obtain rfl := rb.nilP_inv
   exact run (c := true) (eqGuard_at_pointer ..) (eqB_sound e (equal_ptr1 hu q) rfl rfl)
  ·obtain ⟨q, rfl⟩ := ra.pref_inv
   cases b <;> try (simp [eqD] at e; done)
   obtain rfl := rb.nilP_inv
   exact run (c := true) (eqGuard_at_pointer ..) (eqB_sound e (equal_ptr1 hu q) rfl rfl)
theorem unD_sound {op : UnOp} {x : Value} {a d : D} (e : unD op a = some d) (ra : VRel w S φ x a) : ∃ v, (Op.unary op x).run P w = .ok v w ∧ VRel w S φ v d := by
 cases a with
 | int k n =>
  obtain rfl := ra.int_inv
  cases op <;> simp only [unD] at e <;> first | cases e | skip
  ·exact ⟨_, rfl, .int⟩
  ·exact ⟨_, by simp only [Op.unary, intBits_xor]; rfl, .int⟩
 | bool b =>
  obtain rfl := ra.bool_inv
  cases op <;> simp only [unD] at e <;> first | cases e | skip
  exact ⟨_, rfl, .bool⟩
 | _ => simp [unD] at e
end Go.Proofs.YtlpbmajbalenjaaA
