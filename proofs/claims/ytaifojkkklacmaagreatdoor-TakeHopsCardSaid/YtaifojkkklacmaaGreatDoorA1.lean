/- An abstract evaluator of the model's code: values, heaps, operations, each right of the concrete run. -/
import Derived.Orders
import Derived.Laws.CopyRow
import Derived.Laws.Entries
import Derived.Below
import Derived.Laws.AppendOwn
import Derived.Laws.Cells
import Derived.Laws.MakeOwn
import Derived.Laws.Tables
import Derived.Laws.NewFold
import Derived.Laws.Small
import Derived.Laws.StructEq
set_option linter.unusedVariables false
set_option linter.unusedSimpArgs false
set_option linter.unusedSectionVars false
set_option linter.unnecessarySimpa false
namespace Go.Ab
open Go

/-- Abstract values. -/
inductive A where
  | int (k : IntKind) (n : Int)
  | bool (b : Bool)
  | imm (rows : List (List A))
  | nils
  | own (id off len : Nat)
  | ptr (id ver row off : Nat)
  | ipt (cells : List A)
  | fn (f : FuncId) (caps : List A)
  | agg (cs : List A)
  | tup (vs : List A)
  | dead
  | nilI                          -- a nil of an interface's type
  | ifc                           -- another one
  | sym (k : IntKind) (i : Nat)   -- a number that is not looked at but by a table of facts
  deriving Inhabited

structure Obj where
  sz : Nat
  fz : Bool
  rows : List (List A)
  deriving Inhabited
abbrev H := List Obj
abbrev S := Nat → A

/-- What is known of a type. -/
inductive TD where
  | int (k : IntKind) | bool | one | slice (e : Nat) | arr (n e : Nat) | struct (fs : List (Nat × Nat)) | iface | other
structure TI where
  d : TD := .other
  size : Nat := 0
  bytes : Nat := 0
  zero : List A := []
def TD.isO : TD → Bool | .other => true | _ => false
def TD.agg : TD → Bool | .struct _ => true | .arr _ _ => true | _ => false

def I (n : Int) : A := .int .i64 n
def put (s : S) (d : Option Nat) (v : A) : S := match d with | none => s | some d => fun i => bif Nat.beq i d then v else s i
def mk : List (Nat × A) → S
  | [], _ => .dead
  | (j, v) :: l, i => bif Nat.beq i j then v else mk l i
def constA : Value → A
  | .int k n => .int k n
  | .bool b => .bool b
  | .slice none 0 0 => .nils
  | .nilIface => .nilI
  | _ => .dead
def evA (s : S) : Operand → A
  | .tmp t => s t
  | .const v => constA v
  | .func f => .fn f []
  | .global _ => .dead
def cellsA : A → Option (List A)
  | .agg cs => some cs
  | .tup _ => none
  | .dead => none
  | a => some [a]

/-! leaf operations -/
def asInt : A → Option Int | .int _ n => some n | _ => none
def pickA (c x y : A) : Option A := match c with | .bool b => some (bif b then x else y) | _ => none
def arith (op : BinOp) (k : IntKind) (a b : Int) : Option A :=
  match op with
  | .add => some (.int k (k.wrap (a + b)))
  | .sub => some (.int k (k.wrap (a - b)))
  | .mul => some (.int k (k.wrap (a * b)))
  | .quo => if b = 0 then none else some (.int k (k.wrap (a.tdiv b)))
  | .rem => if b = 0 then none else some (.int k (a.tmod b))
  | .and => some (.int k (k.wrap (BitVec.ofInt k.bits a &&& BitVec.ofInt k.bits b).toNat))
  | .or => some (.int k (k.wrap (BitVec.ofInt k.bits a ||| BitVec.ofInt k.bits b).toNat))
  | .xor => some (.int k (k.wrap (BitVec.ofInt k.bits a ^^^ BitVec.ofInt k.bits b).toNat))
  | .shl => if b < 0 then none else some (.int k (k.wrap (a * 2 ^ (min b.toNat k.bits))))
  | .shr => if b < 0 then none else some (.int k (a.fdiv (2 ^ (min b.toNat k.bits))))
  | .eql => some (.bool (a == b))
  | .neq => some (.bool (a != b))
  | .lss => some (.bool (decide (a < b)))
  | .leq => some (.bool (decide (a ≤ b)))
  | .gtr => some (.bool (decide (a > b)))
  | .geq => some (.bool (decide (a ≥ b)))
  | _ => none
def binA (op : BinOp) (x y : A) : Option A :=
  match x, y with
  | .int k a, .int k' b => if op = .shl ∨ op = .shr ∨ k = k' then arith op k a b else none
  | _, _ => none
/-- '==' of bools. -/
def beqA (op : BinOp) (x y : A) : Option A :=
  match x, y with
  | .bool a, .bool b => match op with
    | .eql => some (.bool (a == b))
    | .neq => some (.bool (!(a == b)))
    | _ => none
  | _, _ => none
/-- '==' of structs of numbers. -/
def eqC : List A → List A → Option Bool
  | [], [] => some true
  | .int k a :: xs, .int k' b :: ys => if k = k' then (eqC xs ys).map fun c => (a == b) && c else none
  | _, _ => none
def seqA (n : Nat) (op : BinOp) (x y : A) : Option A :=
  match x, y with
  | .agg xs, .agg ys => bif Nat.beq xs.length n then (eqC xs ys).bind fun b => match op with
    | .eql => some (.bool b)
    | .neq => some (.bool (!b))
    | _ => none
    else none
  | _, _ => none
def unA (op : UnOp) (x : A) : Option A :=
  match op, x with
  | .not, .bool b => some (.bool !b)
  | .neg, .int k n => some (.int k (k.wrap (0 - n)))
  | .xor, .int k n => arith .xor k (if k.signed then -1 else k.max) n
  | _, _ => none
def convA (k : IntKind) (x : A) : Option A := match x with | .int _ n => some (.int k (k.wrap n)) | _ => none
def extrA (x : A) (i : Nat) : Option A := match x with | .tup vs => vs[i]? | _ => none
def fadA (off : Nat) (x : A) : Option A := match x with
  | .ipt cs => some (.ipt (cs.drop off))
  | .ptr id ver row o => some (.ptr id ver row (o + off))
  | _ => none
def iadA (sz : Nat) (x i : A) (h : H) : Option A :=
  match x, i with
  | .imm rows, .int _ n => if 0 ≤ n then (rows[n.toNat]?).bind fun r => if r.length = sz then some (.ipt r) else none else none
  | .own id off len, .int _ n =>
    match h[id]? with
    | some o => if o.sz = sz ∧ off + len = o.rows.length ∧ 0 ≤ n ∧ n < len then some (.ptr id o.rows.length (off + n.toNat) 0) else none
    | none => none
  | _, _ => none
def aidA (n sz : Nat) (x i : A) : Option A :=
  match x, i with
  | .ptr id ver row o, .int _ j => if 0 ≤ j ∧ j < n then some (.ptr id ver row (o + j.toNat * sz)) else none
  | .ipt cs, .int _ j => if 0 ≤ j ∧ j < n then some (.ipt (cs.drop (j.toNat * sz))) else none
  | _, _ => none
def cut (agg : Bool) (n : Nat) (cs : List A) : Option A :=
  if n ≤ cs.length then (if agg then some (.agg (cs.take n)) else cs[0]?) else none
def idxA (n : Nat) (agg : Bool) (sz : Nat) (x i : A) : Option A := match x, i with
  | .agg cs, .int _ j => if 0 ≤ j ∧ j < n then cut agg sz (cs.drop (j.toNat * sz)) else none
  | _, _ => none
def ldA (agg : Bool) (n : Nat) (p : A) (h : H) : Option A :=
  match p with
  | .ipt cs => cut agg n cs
  | .ptr id ver row off =>
    match h[id]? with
    | some o => if ver = o.rows.length then (o.rows[row]?).bind fun r => cut agg n (r.drop off) else none
    | none => none
  | _ => none
def splice (r : List A) (off : Nat) (cs : List A) : List A := r.take off ++ (cs ++ r.drop (off + cs.length))
def stA (n : Nat) (p v : A) (h : H) : Option H :=
  match p, cellsA v with
  | .ptr id ver row off, some cs =>
    match h[id]? with
    | some o => if ver = o.rows.length ∧ o.fz = false ∧ cs.length = n then
        (o.rows[row]?).bind fun r => if off + n ≤ r.length then some (h.set id { o with rows := o.rows.set row (splice r off cs) }) else none
      else none
    | none => none
  | _, _ => none
def lenA (x : A) : Option A := match x with
  | .imm rows => some (I rows.length)
  | .own _ _ len => some (I len)
  | .nils => some (I 0)
  | _ => none
def capA (x : A) : Option A := match x with | .nils => some (I 0) | _ => none
def optI : Option A → Option (Option Int)
  | none => some none
  | some (.int _ n) => some (some n)
  | _ => none
def sliA (sz : Nat) (x : A) (lo hi : Option A) (h : H) : Option A :=
  (optI lo).bind fun lo => (optI hi).bind fun hi =>
  match x with
  | .imm rows =>
    if rows.all (fun r => r.length == sz) = true ∧ 0 ≤ lo.getD 0 ∧ lo.getD 0 ≤ hi.getD rows.length ∧ hi.getD rows.length ≤ rows.length then
      some (.imm ((rows.take (hi.getD rows.length).toNat).drop (lo.getD 0).toNat)) else none
  | .own id off len =>
    match h[id]? with
    | some o =>
      if o.sz = sz ∧ off + len = o.rows.length ∧ 0 ≤ lo.getD 0 ∧ lo.getD 0 ≤ len ∧ hi.getD len = len then some (.own id (off + (lo.getD 0).toNat) (len - (lo.getD 0).toNat)) else none
    | none => none
  | .nils => if (lo.getD 0) = 0 ∧ (hi.getD 0) = 0 then some .nils else none
  | _ => none
/-- Rows that a slice reads as. -/
def rowsA (x : A) (h : H) : Option (List (List A)) :=
  match x with
  | .imm rows => some rows
  | .nils => some []
  | .own id off len =>
    match h[id]? with
    | some o => if off + len = o.rows.length then some (o.rows.drop off) else none
    | none => none
  | _ => none
def appA (sz bytes : Nat) (x y : A) (h : H) : Option (A × H) :=
  (rowsA y h).bind fun ys =>
  if ys.all (fun r => r.length == sz) = true ∧ 0 < sz ∧ 0 < bytes then
    match x with
    | .nils => if ys.length * bytes ≤ 2 ^ 46 then some (.own h.length 0 ys.length, h ++ [⟨sz, false, ys⟩]) else none
    | .own id off len =>
      match h[id]? with
      | some o => if o.sz = sz ∧ o.fz = false ∧ off = 0 ∧ len = o.rows.length ∧ (len + ys.length) * bytes ≤ 2 ^ 46 then
          some (.own id off (len + ys.length), h.set id { o with rows := o.rows ++ ys }) else none
      | none => none
    | _ => none
  else none
def fillA : List A → List (Nat × Nat × A) → Option (List A)
  | cs, [] => some cs
  | cs, (off, sz, v) :: l => (cellsA v).bind fun vs => if vs.length = sz ∧ off + sz ≤ cs.length then fillA (splice cs off vs) l else none
def maxA (x y : A) : Option A := match x, y with
  | .int k a, .int k' b => if k = k' then some (.int k (if a < b then b else a)) else none
  | _, _ => none
def minA (x y : A) : Option A := match x, y with
  | .int k a, .int k' b => if k = k' then some (.int k (if b < a then b else a)) else none
  | _, _ => none

/-- Frozen: what a value reads as, deep. -/
def frz (h : H) (strict : Bool) : Nat → A → Option A
  | _, .int k n => some (.int k n)
  | _, .bool b => some (.bool b)
  | _, .sym k i => some (.sym k i)
  | _, .nilI => some .nilI
  | _, .ifc => some .ifc
  | _, .imm rows => some (.imm rows)
  | _, .nils => some (.imm [])
  | n + 1, .own id off len =>
    match h[id]? with
    | some o => if off + len = o.rows.length ∧ (strict = true → o.fz = true) then
        ((o.rows.drop off).mapM fun (r : List A) => r.mapM (frz h strict n)).map .imm else none
    | none => none
  | n + 1, .agg cs => (cs.mapM (frz h strict n)).map .agg
  | n + 1, .tup vs => (vs.mapM (frz h strict n)).map .tup
  | _, _ => none

/-! the evaluator: C: a call's run upon a heap; L: a loop's run -/
inductive X where
  | nrm | ext (id : Nat) | ret
abbrev CO := FuncId → List A → H → Option (A × H)
abbrev LO := FuncId → Code → S → H → Option (X × S × H)

/-- Ways of calling: how a function's call is carried out. -/
inductive Way where
  | pure (sl : Bool)   -- arguments frozen, an empty heap; the result frozen; sl: it may hold slices
  | keep               -- arguments frozen, an empty heap; the result's objects come along
  | st                 -- upon the heap as it is
  | rd                 -- upon the heap as it is, which it only reads (E.rd)
  | psh                -- upon the heap as it is, which it only reads; one new object (E.psh)
/-- Steps of the proof alone, ahead of a region. -/
inductive Gh where
  | fz (t : Nat)              -- the objects that slot t's value names (a pointer's: that its object's cells name), deep, are written no more
  | onil (t sz : Nat)         -- slot t, nil: an empty object of one's own
  | onilAt (t off sz : Nat)   -- the cell at slot t's pointer and off, nil: likewise
  | fzAt (t off n : Nat)      -- the objects that the n cells at slot t's pointer and off name, deep, are written no more
  | imAt (t off n : Nat)      -- the same n cells: read deep, besides
  | im (t : Nat)              -- slot t's value: read deep, its objects written no more
structure Env where
  fn : FuncId → Option Func
  eqT : Nat → Bool
  prim : FuncId → Option (List A → H → Option (A × H))
  gh : FuncId → Nat → List Gh
  T : Nat → TI
  way : FuncId → Way
  live : FuncId → Nat → List Nat      -- what lives at a loop's head (by its first region's id)
  liveX : FuncId → Nat → List Nat     -- what lives behind it
  ord : FuncId → Nat → Option (List Nat) := fun _ _ => none   -- a drawn region's own order (its pushes at fixed places)
  rd : FuncId → List A → H → Option A := fun _ _ _ => none
  psh : FuncId → List A → H → Option (List (List A)) := fun _ _ _ => none
  pshSz : FuncId → Nat := fun _ => 0
  sym : BinOp → A → A → Option A := fun _ _ _ => none       -- what is known of numbers that are not looked at
  symC : IntKind → A → Option A := fun _ _ => none

/-- No reference at or above n (to a depth). -/
def refsD (n : Nat) : Nat → A → Bool
  | 0, a => match a with
    | .own id _ _ => Nat.blt id n
    | .ptr id _ _ _ => Nat.blt id n
    | .fn _ _ => false
    | .agg _ => false
    | .tup _ => false
    | _ => true
  | d + 1, a => match a with
    | .own id _ _ => Nat.blt id n
    | .ptr id _ _ _ => Nat.blt id n
    | .fn _ caps => caps.all (refsD n d)
    | .agg cs => cs.all (refsD n d)
    | .tup cs => cs.all (refsD n d)
    | _ => true
def refs (n : Nat) (a : A) : Bool := refsD n 8 a
def okH (n : Nat) (h : H) : Bool := h.all fun o => o.rows.all fun r => r.all (refs n)
def truncK (n : Nat) (vs : List A) (h : H) : Option H := if vs.all (refs n) && okH n (h.take n) then some (h.take n) else none
def truncT (n : Nat) (vs : List A) (h : H) : H := if vs.all (refs n) && okH n (h.take n) then h.take n else h
def ownIds : A → List Nat
  | .own id _ _ => [id]
  | .agg cs => cs.flatMap fun | .own id _ _ => [id] | _ => []
  | _ => []
/-- All objects that a value names, deep. -/
def ownD (h : H) : Nat → A → List Nat
  | n + 1, .own id _ _ => id :: (match h[id]? with | some o => o.rows.flatMap fun (r : List A) => r.flatMap (ownD h n) | none => [])
  | n + 1, .agg cs => cs.flatMap (ownD h n)
  | n + 1, .tup cs => cs.flatMap (ownD h n)
  | _, _ => []
def gIds (h : H) : A → List Nat
  | .ptr id _ _ _ => match h[id]? with | some o => o.rows.flatMap fun (r : List A) => r.flatMap (ownD h 6) | none => []
  | v => ownD h 6 v
def cIds (h : H) (off n : Nat) : A → List Nat
  | .ptr id _ row o => match h[id]? with
    | some ob => match ob.rows[row]? with
      | some r => ((r.drop (o + off)).take n).flatMap (ownD h 6)
      | none => []
    | none => []
  | _ => []
def fzH (ids : List Nat) (h : H) : H := ids.foldr (fun i h => h.modify i fun o => { o with fz := true }) h
/-- No slices, no references. -/
def scA : A → Bool
  | .int _ _ => true
  | .imm rows => rows.isEmpty
  | .sym _ _ => true
  | .bool _ => true
  | _ => false
def sc2A : A → Bool
  | .agg cs => cs.all scA
  | a => scA a
def noSl : A → Bool
  | .tup vs => vs.all sc2A
  | a => sc2A a
def renA1 (ids : List Nat) (base : Nat) : A → Option A
  | .own id off len => (ids.idxOf? id).map fun i => .own (base + i) off len
  | .int k n => some (.int k n)
  | .sym k n => some (.sym k n)
  | .bool b => some (.bool b)
  | .imm rows => some (.imm rows)
  | .nils => some .nils
  | _ => none
def renA (ids : List Nat) (base : Nat) : A → Option A
  | .agg cs => (cs.mapM (renA1 ids base)).map .agg
  | a => renA1 ids base a
def dA : A → Bool
  | .int _ _ => true
  | .sym _ _ => true
  | .bool _ => true
  | .imm _ => true
  | .nils => true
  | _ => false
def flatH (h : H) : Bool := h.all fun o => !o.fz && o.rows.all fun r => r.all dA
/-- A result with its own objects alone, in order, behind so many others. -/
def gcR (base : Nat) (r : A × H) : Option (A × H) :=
  ((ownIds r.1).mapM fun i => r.2[i]?).bind fun os =>
    if flatH os = true ∧ (ownIds r.1).Nodup then (renA (ownIds r.1) base r.1).map fun a => (a, os) else none
section
variable {β : Type}
def onK (v : A) (sz : Nat) (h : H) (k : A → H → Option β) : Option β := match v with
  | .nils => k (.own h.length 0 0) (h ++ [⟨sz, false, []⟩])
  | v => k v h
def onP (p : A) (off sz : Nat) (h : H) : Option H := match p with
  | .ptr id ver row o =>
    match h[id]? with
    | some ob => if ver = ob.rows.length ∧ ob.fz = false then (ob.rows[row]?).bind fun r =>
        match r[o + off]? with
        | some .nils => some (h.set id { ob with rows := ob.rows.set row (r.set (o + off) (.own h.length 0 0)) } ++ [⟨sz, false, []⟩])
        | some _ => some h
        | none => none
      else none
    | none => none
  | _ => none
def imP (p : A) (off n : Nat) (h : H) : Option H := match p with
  | .ptr id ver row o =>
    match h[id]? with
    | some ob => if ver = ob.rows.length ∧ ob.fz = false then (ob.rows[row]?).bind fun r =>
        if o + off + n ≤ r.length then (((r.drop (o + off)).take n).mapM (frz h true 6)).map fun cs => h.set id { ob with rows := ob.rows.set row (splice r (o + off) cs) } else none
      else none
    | none => none
  | _ => none
def runP (C : CO) (f : FuncId) (as : List A) : Option A := (C f as []).bind fun r => frz r.2 false 6 r.1
def callP (C : CO) (sl : Bool) (f : FuncId) (args : List A) (h : H) : Option A := (args.mapM (frz h sl 6)).bind fun as => (runP C f as).bind fun v => bif sl || noSl v then some v else none
def callK (C : CO) (f : FuncId) (args : List A) (h : H) : Option (A × H) :=
  (args.mapM (frz h true 6)).bind fun as => (C f as []).bind fun r => (gcR h.length r).map fun r => (r.1, h ++ r.2)
def callS (C : CO) (f : FuncId) (args : List A) (h : H) : Option (A × H) :=
  (C f args h).map fun r => (r.1, truncT h.length [r.1] r.2)
def callOp (E : Env) (C : CO) (f : FuncId) (args : List A) (h : H) (k : A → H → Option β) : Option β :=
  match E.way f with
  | .pure sl => (callP C sl f args h).bind fun v => k v h
  | .keep => (callK C f args h).bind fun r => k r.1 r.2
  | .st => (callS C f args h).bind fun r => k r.1 r.2
  | .rd => (E.rd f args h).bind fun v => k v h
  | .psh => (E.psh f args h).bind fun rows => k (.own h.length 0 rows.length) (h ++ [⟨E.pshSz f, false, rows⟩])
def callV (C : CO) (W : FuncId → Way) (x : A) (args : List A) (h : H) : Option (A × H) := match x with
  | .fn f caps => match W f with
    | .pure sl => (callP C sl f (args ++ caps) h).map fun v => (v, h)
    | .keep => callK C f (args ++ caps) h
    | .st => callS C f (args ++ caps) h
    | .rd => none
    | .psh => none
  | _ => none
def eqB (op : BinOp) (b : Bool) : Option A := match op with | .eql => some (.bool b) | .neq => some (.bool (!b)) | _ => none
/-- '==' of two of an interface's type, one of them nil. -/
def ifcA (op : BinOp) (c : Bool) (x y : A) : Option A := match x, y with
  | .nilI, .nilI => bif c then eqB op true else none
  | .nilI, .ifc => eqB op false
  | .ifc, .nilI => eqB op false
  | _, _ => none
def isC : Operand → Bool | .const _ => true | _ => false
def binE (E : Env) (op : BinOp) (x y : A) : Option A := match binA op x y with | some v => some v | none => E.sym op x y
def convE (E : Env) (k : IntKind) (x : A) : Option A := match convA k x with | some v => some v | none => E.symC k x
def alK (row : List A) (h : H) (k : A → H → Option β) : Option β := k (.ptr h.length 1 0 0) (h ++ [⟨row.length, false, [row]⟩])
def bsK (sz : Nat) (vs : List A) (h : H) (k : A → H → Option β) : Option β :=
  (vs.mapM cellsA).bind fun rows => if (rows.all fun r => r.length == sz) = true ∧ 0 < sz ∧ vs.length * sz ≤ 16777216 then k (.own h.length 0 vs.length) (h ++ [⟨sz, false, rows⟩]) else none
def mkK (sz bytes : Nat) (zero : List A) (l c : A) (h : H) (k : A → H → Option β) : Option β :=
  match l, c with
  | .int _ n, .int _ m => if n = m ∧ 0 ≤ n ∧ n * bytes ≤ 2 ^ 46 ∧ n ≤ 2 ^ 46 then k (.own h.length 0 n.toNat) (h ++ [⟨sz, false, List.replicate n.toNat zero⟩]) else none
  | _, _ => none
def nck (p : A) (k : A → Option β) : Option β := match p with
  | .ptr id ver row off => k (.ptr id ver row off)
  | .ipt cs => k (.ipt cs)
  | _ => none
def opA (ρ : Operand → A) : Option Operand → Option A | none => none | some x => some (ρ x)
def lowA (T : Nat → TI) (t : Nat) (x i : A) (h : H) : Option A := match (T t).d with
  | .slice e => bif (T e).d.isO then none else iadA (T e).size x i h
  | .arr n e => bif (T e).d.isO then none else aidA n (T e).size x i
  | _ => none
def opK (E : Env) (C : CO) (o : Op) (ρ : Operand → A) (h : H) (k : A → H → Option β) : Option β :=
  match o with
  | .move x => k (ρ x) h
  | .assign x => k (ρ x) h
  | .pick c a b => (pickA (ρ c) (ρ a) (ρ b)).bind fun v => k v h
  | .alloc t => bif (E.T t).d.isO then none else alK (E.T t).zero h k
  | .box t x => (cellsA (ρ x)).bind fun cs => alK cs h k
  | .build t parts => match (E.T t).d with
    | .struct fs => bif !(parts.toList.all fun p => Nat.blt p.1 fs.length) then none else (fillA (E.T t).zero (parts.toList.map fun p => ((fs.getD p.1 (0, 0)).1, (fs.getD p.1 (0, 0)).2, ρ p.2))).bind fun cs => k (.agg cs) h
    | .arr n e => bif (E.T e).d.isO then none else (fillA (E.T t).zero (parts.toList.map fun p => (p.1 * (E.T e).size, (E.T e).size, ρ p.2))).bind fun cs => k (.agg cs) h
    | _ => none
  | .buildSlice t len parts => match (E.T t).d with
    | .slice e => bif (E.T e).d.isO then none else bif parts.toList.map (·.1) == List.range len then bsK (E.T e).size (parts.toList.map fun p => ρ p.2) h k else none
    | _ => none
  | .load t a => bif (E.T t).d.isO then none else (ldA (E.T t).d.agg (E.T t).size (ρ a) h).bind fun v => k v h
  | .store t a x => bif (E.T t).d.isO then none else (stA (E.T t).size (ρ a) (ρ x) h).bind fun h => k .dead h
  | .nilCheck x => nck (ρ x) fun v => k v h
  | .binOp op t x y _ => match (E.T t).d with
    | .int _ => (binE E op (ρ x) (ρ y)).bind fun v => k v h
    | .bool => (beqA op (ρ x) (ρ y)).bind fun v => k v h
    | .struct fs => bif E.eqT t then (seqA fs.length op (ρ x) (ρ y)).bind fun v => k v h else none
    | .iface => (ifcA op (isC x || isC y) (ρ x) (ρ y)).bind fun v => k v h
    | _ => none
  | .unOp op _ x => (unA op (ρ x)).bind fun v => k v h
  | .makeInterface t x => match (E.T t).d with
    | .other => none
    | .iface => none
    | _ => k .ifc h
  | .convert s d x => match (E.T s).d, (E.T d).d with
    | .int _, .int ik => (convE E ik (ρ x)).bind fun v => k v h
    | _, _ => none
  | .makeFunc (.func f) first caps => bif first.size == 0 then k (.fn f (caps.toList.map ρ)) h else none
  | .makeSlice t l c => match (E.T t).d with
    | .slice e => bif (E.T e).d.isO then none else mkK (E.T e).size (E.T e).bytes (E.T e).zero (ρ l) (ρ c) h k
    | _ => none
  | .slice t x lo hi none => match (E.T t).d with
    | .slice e => bif (E.T e).d.isO then none else (sliA (E.T e).size (ρ x) (opA ρ lo) (opA ρ hi) h).bind fun v => k v h
    | _ => none
  | .fieldAddr t x f => match (E.T t).d with
    | .struct fs => bif !(Nat.blt f fs.length) then none else (fadA (fs.getD f (0, 0)).1 (ρ x)).bind fun v => k v h
    | _ => none
  | .indexAddr t x i => (lowA E.T t (ρ x) (ρ i) h).bind fun v => k v h
  | .index t x i => match (E.T t).d with
    | .arr n e => bif (E.T e).d.isO then none else (idxA n (E.T e).d.agg (E.T e).size (ρ x) (ρ i)).bind fun v => k v h
    | _ => none
  | .extract x i => (extrA (ρ x) i).bind fun v => k v h
  | .call c => match c.callee with
    | .value (.func f) => callOp E C f (c.args.toList.map ρ) h k
    | .value x => (callV C E.way (ρ x) (c.args.toList.map ρ) h).bind fun r => k r.1 r.2
    | .builtin .len => match c.args.toList with
      | [x] => match c.argTypes.toList with
        | [t] => match (E.T t).d with
          | .slice _ => (lenA (ρ x)).bind fun v => k v h
          | _ => none
        | _ => none
      | _ => none
    | .builtin .cap => match c.args.toList with
      | [x] => match c.argTypes.toList with
        | [t] => match (E.T t).d with
          | .slice _ => (capA (ρ x)).bind fun v => k v h
          | _ => none
        | _ => none
      | _ => none
    | .builtin .append => match c.args.toList, c.argTypes.toList with
      | [x, y], [t, t'] => match (E.T t).d with
        | .slice e => bif !(Nat.beq t t') || (E.T e).d.isO then none else (appA (E.T e).size (E.T e).bytes (ρ x) (ρ y) h).bind fun r => k r.1 r.2
        | _ => none
      | _, _ => none
    | .builtin .max => match c.args.toList with
      | [x, y] => (maxA (ρ x) (ρ y)).bind fun v => k v h
      | [x, y, z] => (maxA (ρ x) (ρ y)).bind fun v => (maxA v (ρ z)).bind fun v => k v h
      | _ => none
    | .builtin .min => match c.args.toList with
      | [x, y] => (minA (ρ x) (ρ y)).bind fun v => k v h
      | _ => none
    | _ => none
  | _ => none
def gdK (v : A) (want : Bool) (x y z : Option β) : Option β := match v with | .bool b => bif b == want then x else y | .tup [] => z | _ => none
/-- Is an operation guarded itself? Its slot, passed over, holds the empty tuple. -/
def gdd (ops : Array Oper) (j : Nat) : Bool := ((ops[j]?).bind (·.guard)).isSome
def gv (gd : Bool) : A → Option (Option Bool)
  | .bool b => some (some b)
  | .tup [] => bif gd then some none else none
  | _ => none
def bK (v : A) (x y : Option β) : Option β := match v with | .bool b => bif b then x else y | _ => none
def opsK (E : Env) (C : CO) (ops : Array Oper) : List Oper → S → H → (S → H → Option β) → Option β
  | [], s, h, k => k s h
  | o :: rest, s, h, k => match o.guard with
    | none => opK E C o.op (evA s) h fun v h => opsK E C ops rest (put s o.dst v) h k
    | some (j, want) => match (ops[j]?).bind (·.dst) with
      | none => none
      | some g => gdK (s g) want
          (opK E C o.op (evA (put s (some g) (.bool want))) h fun v h => opsK E C ops rest (put (put s (some g) (.bool want)) o.dst v) h k)
          (opsK E C ops rest (put (put s (some g) (.bool (!want))) o.dst (.tup [])) h k)
          (bif gdd ops j then opsK E C ops rest (put (put s (some g) (.tup [])) o.dst (.tup [])) h k else none)
/-! A drawn region in an order of its own: what pushes does so at a place of its own. -/
def pushSz (E : Env) : Op → Option Nat
  | .alloc t => some (E.T t).zero.length
  | .box t _ => some (E.T t).size
  | .buildSlice t _ _ => match (E.T t).d with | .slice e => some (E.T e).size | _ => none
  | .makeSlice t _ _ => match (E.T t).d with | .slice e => some (E.T e).size | _ => none
  | .call c => match c.callee with
    | .value (.func f) => match E.way f with | .psh => some (E.pshSz f) | _ => none
    | _ => none
  | _ => none
/-- A push that looks at nothing else. -/
def pushP (E : Env) : Op → Bool
  | .call _ => false
  | o => (pushSz E o).isSome
def dumm (E : Env) (ops : Array Oper) : H := ops.toList.filterMap fun o => (pushSz E o.op).map fun n => ⟨n, false, []⟩
def rankP (E : Env) (ops : Array Oper) (i : Nat) : Nat := ((ops.toList.take i).filter fun o => (pushSz E o.op).isSome).length
def setD (b sz : Nat) (rows : List (List A)) (h : H) (k : H → Option β) : Option β :=
  match h[b]? with
  | some o => bif Nat.beq o.sz sz && (!o.fz && o.rows.isEmpty) then k (h.set b ⟨sz, false, rows⟩) else none
  | none => none
def alD (b : Nat) (row : List A) (h : H) (k : A → H → Option β) : Option β := setD b row.length [row] h fun h => k (.ptr b 1 0 0) h
def bsD (b sz : Nat) (vs : List A) (h : H) (k : A → H → Option β) : Option β :=
  (vs.mapM cellsA).bind fun rows => if (rows.all fun r => r.length == sz) = true ∧ 0 < sz ∧ vs.length * sz ≤ 16777216 then setD b sz rows h fun h => k (.own b 0 vs.length) h else none
def mkD (b sz bytes : Nat) (zero : List A) (l c : A) (h : H) (k : A → H → Option β) : Option β :=
  match l, c with
  | .int _ n, .int _ m => if n = m ∧ 0 ≤ n ∧ n * bytes ≤ 2 ^ 46 ∧ n ≤ 2 ^ 46 then setD b sz (List.replicate n.toNat zero) h fun h => k (.own b 0 n.toNat) h else none
  | _, _ => none
/-- An argument that holds no references but its own rows', which hold none. -/
def shalA (h : H) : A → Bool
  | .own id _ _ => match h[id]? with | some o => o.rows.all fun r => r.all (refs 0) | none => false
  | a => refs 0 a
def isNils : A → Bool | .nils => true | _ => false
def opD (E : Env) (C : CO) (b : Nat) (o : Op) (ρ : Operand → A) (h : H) (k : A → H → Option β) : Option β :=
  match o with
  | .alloc t => bif (E.T t).d.isO then none else alD b (E.T t).zero h k
  | .box t x => (cellsA (ρ x)).bind fun cs => bif Nat.beq cs.length (E.T t).size then alD b cs h k else none
  | .buildSlice t len parts => match (E.T t).d with
    | .slice e => bif (E.T e).d.isO then none else bif parts.toList.map (·.1) == List.range len then bsD b (E.T e).size (parts.toList.map fun p => ρ p.2) h k else none
    | _ => none
  | .makeSlice t l c => match (E.T t).d with
    | .slice e => bif (E.T e).d.isO then none else mkD b (E.T e).size (E.T e).bytes (E.T e).zero (ρ l) (ρ c) h k
    | _ => none
  | .call c => match c.callee with
    | .value (.func f) => match E.way f with
      | .pure sl => bif (c.args.toList.map ρ).all (shalA h) then (callP C sl f (c.args.toList.map ρ) h).bind fun v => k v h else none
      | .rd => (E.rd f (c.args.toList.map ρ) h).bind fun v => k v h
      | .keep => (callK C f (c.args.toList.map ρ) h).bind fun r => k r.1 r.2
      | .psh => (E.psh f (c.args.toList.map ρ) h).bind fun rows => setD b (E.pshSz f) rows h fun h => k (.own b 0 rows.length) h
      | _ => none
    | .builtin .append => match c.args.toList with
      | x :: _ => bif isNils (ρ x) then none else opK E C o ρ h k
      | [] => none
    | .builtin _ => opK E C o ρ h k
    | _ => none
  | _ => opK E C o ρ h k
def opsD (E : Env) (C : CO) (ops : Array Oper) (b : Nat) : List Nat → S → H → (S → H → Option β) → Option β
  | [], s, h, k => k s h
  | i :: l, s, h, k => match ops[i]? with
    | none => none
    | some o => match o.guard with
      | none => opD E C (b + rankP E ops i) o.op (evA s) h fun v h => opsD E C ops b l (put s o.dst v) h k
      | some (j, want) => match (ops[j]?).bind (·.dst) with
        | none => none
        | some g => gdK (s g) want
            (opD E C (b + rankP E ops i) o.op (evA (put s (some g) (.bool want))) h fun v h => opsD E C ops b l (put (put s (some g) (.bool want)) o.dst v) h k)
            (opsD E C ops b l (put (put s (some g) (.bool (!want))) o.dst (.tup [])) h k)
            (bif gdd ops j then opsD E C ops b l (put (put s (some g) (.tup [])) o.dst (.tup [])) h k else none)
/-- What an operation writes, and what it looks at: values that name objects. -/
def footW (E : Env) (b : Nat) (s : S) (o : Oper) : List A := match o.op with
  | .store _ a _ => [evA s a]
  | .call c => match c.callee with
    | .builtin .append => match c.args.toList with | x :: _ => [evA s x] | [] => []
    | .value (.func f) => match E.way f with | .psh => [.own b 0 0] | _ => []
    | _ => []
  | p => bif (pushSz E p).isSome then [.own b 0 0] else []
def footR (E : Env) (b : Nat) (s : S) (o : Oper) : List A := match o.op with
  | .store _ a _ => [evA s a]
  | .load _ a => [evA s a]
  | .indexAddr _ x _ => [evA s x]
  | .slice _ x _ _ _ => [evA s x]
  | .call c => match c.callee with
    | .builtin .append => c.args.toList.map (evA s)
    | .value (.func f) => match E.way f with
      | .pure _ => c.args.toList.map (evA s)
      | .rd => (match o.dst with | some d => [s d] | none => []) ++ c.args.toList.map (evA s)
      | .psh => .own b 0 0 :: c.args.toList.map (evA s)
      | _ => []
    | _ => []
  | p => bif (pushSz E p).isSome then [.own b 0 0] else []
def idA : A → Option Nat | .own id _ _ => some id | .ptr id _ _ _ => some id | _ => none
def apA (x y : A) : Bool := match idA x, idA y with | some i, some j => !(Nat.beq i j) | _, _ => true
def ckD (l : List (A × A)) (k : Option β) : Option β := bif l.all fun p => apA p.1 p.2 then k else none
def pairD (E : Env) (ops : Array Oper) (b : Nat) (s : S) (p : Nat × Nat) : List (A × A) := match ops[p.1]?, ops[p.2]? with
  | some x, some y => ((footW E (b + rankP E ops p.1) s x).flatMap fun v => (footR E (b + rankP E ops p.2) s y).map fun u => (v, u)) ++
      ((footW E (b + rankP E ops p.2) s y).flatMap fun v => (footR E (b + rankP E ops p.1) s x).map fun u => (v, u))
  | _, _ => []
def cls (E : Env) : Op → Nat
  | .move _ | .assign _ | .pick .. | .build .. | .binOp .. | .unOp .. | .convert .. | .makeFunc .. | .makeInterface .. | .extract .. | .nilCheck _ | .fieldAddr .. | .index .. => 0
  | .load .. | .indexAddr .. | .slice .. => 1
  | .call c => match c.callee with
    | .value (.func f) => match E.way f with
      | .pure _ => 1
      | .rd => 1
      | _ => 2
    | .builtin .len | .builtin .cap | .builtin .max | .builtin .min => 0
    | _ => 2
  | _ => 2

def maskOf (acc : List Nat) (o : Oper) : Nat := o.after.toList.foldl (fun s e => bif Region.binds .any e then s ||| 2 ^ e.on ||| acc.getD e.on 0 else s) 0
def masks : List Oper → List Nat → List Nat
  | [], acc => acc
  | o :: os, acc => masks os (acc ++ [maskOf acc o])
def pairsL : List Nat → List (Nat × Nat)
  | [] => []
  | x :: l => l.map (fun y => (x, y)) ++ pairsL l
def statD (E : Env) (ops : Array Oper) (p : Nat × Nat) : Bool := match ops[p.1]?, ops[p.2]? with
  | some x, some y => Nat.beq (cls E x.op) 0 || Nat.beq (cls E y.op) 0 || (Nat.ble (cls E x.op) 1 && Nat.ble (cls E y.op) 1) || (pushP E x.op && pushP E y.op)
  | _, _ => false
/-- The pairs of a drawn region that its end's check is asked about. -/
def needP (E : Env) (ops : Array Oper) (l : List Nat) : List (Nat × Nat) :=
  (pairsL l).filter fun p => !(((masks ops.toList []).getD p.2 0).testBit p.1) && !(statD E ops p)
def ghK : List Gh → S → H → (S → H → Option β) → Option β
  | [], s, h, k => k s h
  | .fz t :: g, s, h, k => ghK g s (fzH (gIds h (s t)) h) k
  | .onil t sz :: g, s, h, k => onK (s t) sz h fun v h => ghK g (put s (some t) v) h k
  | .onilAt t off sz :: g, s, h, k => (onP (s t) off sz h).bind fun h => ghK g s h k
  | .fzAt t off n :: g, s, h, k => ghK g s (fzH (cIds h off n (s t)) h) k
  | .imAt t off n :: g, s, h, k => (imP (s t) off n (fzH (cIds h off n (s t)) h)).bind fun h => ghK g s h k
  | .im t :: g, s, h, k => (frz (fzH (ownD h 6 (s t)) h) true 6 (s t)).bind fun v => ghK g (put s (some t) v) (fzH (ownD h 6 (s t)) h) k
def firstR : Code → Nat
  | .region id _ _ => id
  | .seq a _ => firstR a
  | .cond _ a _ => firstR a
  | .block _ b => firstR b
  | .loop b => firstR b
  | _ => 0
def exitsOf : Code → List Nat
  | .exit id => [id]
  | .seq a b => exitsOf a ++ exitsOf b
  | .cond _ a b => exitsOf a ++ exitsOf b
  | .block id b => (exitsOf b).filter (· != id)
  | .loop b => exitsOf b
  | _ => []
/-- The loop whose first region is r. -/
def loopsIn : Code → List Code
  | .seq a b => loopsIn a ++ loopsIn b
  | .cond _ a b => loopsIn a ++ loopsIn b
  | .block _ b => loopsIn b
  | .loop b => b :: loopsIn b
  | _ => []
def loopAt (c : Code) (r : Nat) : Code := ((loopsIn c).find? fun b => Nat.beq (firstR b) r).getD .skip
/-- What a loop's run came to, handed on. -/
def lpK (r : Option (X × S × H)) (ids : List Nat) (k : X → S → H → Option β) : Option β :=
  match r with
  | none => none
  | some (.nrm, _, _) => none
  | some (.ret, s, h) => k .ret s h
  | some (.ext j, s, h) => ids.foldr (fun id r => bif Nat.beq j id then k (.ext id) s h else r) none
def pickS (l : List Nat) (s : S) : S := mk (l.map fun i => (i, s i))
def execK (E : Env) (C : CO) (L : LO) (f : FuncId) : Code → S → H → (X → S → H → Option β) → Option β
  | .skip, s, h, k => k .nrm s h
  | .region id ops _, s, h, k => ghK (E.gh f id) s h fun s h => match E.ord f id with
    | none => opsK E C ops ops.toList s h (k .nrm)
    | some l => opsD E C ops h.length l s (h ++ dumm E ops) fun s' h' => ckD ((needP E ops l).flatMap (pairD E ops h.length s')) (k .nrm s' h')
  | .seq a b, s, h, k => execK E C L f a s h fun e s h => match e with | .nrm => execK E C L f b s h k | .ret => k .ret s h | .ext j => k (.ext j) s h
  | .cond c a b, s, h, k => bK (evA s c) (execK E C L f a s h k) (execK E C L f b s h k)
  | .block id b, s, h, k => execK E C L f b s h fun e s h => match e with | .nrm => k .nrm s h | .ret => k .ret s h | .ext j => bif Nat.beq j id then k .nrm s h else k (.ext j) s h
  | .loop b, s, h, k => lpK (L f b (pickS (E.live f (firstR b)) s) h) (exitsOf b).eraseDups k
  | .exit id, s, h, k => k (.ext id) s h
  | .ret, s, h, k => k .ret s h
  | _, _, _, _ => none
def loopStep (E : Env) (C : CO) (L : LO) (F : S → H → Option (X × S × H)) (f : FuncId) (b : Code) (s : S) (h : H) : Option (X × S × H) :=
  execK E C L f b s h fun e s' h' => match e with
    | .nrm => (truncK h.length ((E.live f (firstR b)).map s') h').bind fun h' => F (pickS (E.live f (firstR b)) s') h'
    | .ret => some (.ret, pickS (E.liveX f (firstR b)) s', truncT h.length ((E.liveX f (firstR b)).map s') h')
    | .ext j => some (.ext j, pickS (E.liveX f (firstR b)) s', truncT h.length ((E.liveX f (firstR b)).map s') h')
def finL (T : Nat → TI) (s : S) (h : H) : List ResultVar → List A → Option (A × H)
  | .tmp t :: rs, acc => finL T s h rs (s t :: acc)
  | .cell a t :: rs, acc => bif (T t).d.isO then none else (ldA (T t).d.agg (T t).size (s a) h).bind fun v => finL T s h rs (v :: acc)
  | [], [v] => some (v, h)
  | [], acc => some (.tup acc.reverse, h)
def finK (E : Env) (rs : Array ResultVar) (s : S) (h : H) : Option (A × H) := finL E.T s h rs.toList []
def argS : List A → S := fun args i => args.getD i .dead
def bodyK (E : Env) (C : CO) (L : LO) (f : FuncId) (args : List A) (h : H) : Option (A × H) :=
  match E.fn f with
  | some fn => match fn.body with
    | some c => bif Nat.ble args.length fn.ntmps then execK E C L f c (argS args) h fun e s h => match e with
      | .nrm => finK E fn.results s h
      | .ret => finK E fn.results s h
      | .ext _ => none
      else none
    | none => none
  | none => none
end
end Go.Ab
namespace Go.Ab
section
variable {β : Type}
def lp0 (r : Option (X × S × H)) (kn kr : S → H → Option β) : Option β :=
  match r with
  | some (.ret, s, h) => kr s h
  | _ => none
def lp1 (r : Option (X × S × H)) (i : Nat) (k1 kr : S → H → Option β) : Option β :=
  match r with
  | none => none
  | some (.nrm, _, _) => none
  | some (.ret, s, h) => kr s h
  | some (.ext j, s, h) => bif Nat.beq j i then k1 s h else none
def lp2 (r : Option (X × S × H)) (i1 i2 : Nat) (k1 k2 kr : S → H → Option β) : Option β :=
  match r with
  | none => none
  | some (.nrm, _, _) => none
  | some (.ret, s, h) => kr s h
  | some (.ext j, s, h) => bif Nat.beq j i1 then k1 s h else bif Nat.beq j i2 then k2 s h else none
end
/-- The evaluator with so much fuel. -/
def evN (E : Env) : Nat → CO × LO
  | 0 => (fun _ _ _ => none, fun _ _ _ _ => none)
  | n + 1 => (fun f args h => match E.prim f with
      | some g => g args h
      | none => bodyK E (evN E n).1 (evN E n).2 f args h,
    fun f b s h => loopStep E (evN E n).1 (evN E n).2 ((evN E n).2 f b) f b s h)
theorem bodyK_of {E : Env} {C : CO} {L : LO} {f : FuncId} {fn : Func} {args : List A} {h : H} (hf : E.fn f = some fn) :
    bodyK E C L f args h = match fn.body with
    | some c => bif Nat.ble args.length fn.ntmps then execK E C L f c (argS args) h fun e s h => match e with
      | .nrm => finK E fn.results s h
      | .ret => finK E fn.results s h
      | .ext _ => none
      else none
    | none => none := by simp [bodyK, hf]
end Go.Ab

namespace Go.Ab
open Go

/-! The relation between abstract and concrete. -/
/-- What the numbers are that are not looked at. -/
class Val where
  ρ : Nat → Int
inductive RepD [Val] (w : World) (im : Nat → Prop) : Value → A → Prop
  | int (k : IntKind) (n : Int) : RepD w im (.int k n) (.int k n)
  | bool (b : Bool) : RepD w im (.bool b) (.bool b)
  | sym (k : IntKind) (i : Nat) : RepD w im (.int k (Val.ρ i)) (.sym k i)
  | nilI : RepD w im .nilIface .nilI
  | ifc (t : TypeId) (u : Value) : RepD w im (.iface t u) .ifc
  | imm0 (ad : Option Addr) (cap : Nat) : RepD w im (.slice ad 0 cap) (.imm [])
  | imm (b off n cap sz : Nat) (rows : List (List A)) (vals : Nat → Nat → Value) (hn : rows.length = n) (hc : n ≤ cap) (hi : im b)
      (hsz : ∀ r ∈ rows, r.length = sz)
      (hv : ∀ (i j : Nat) r c, rows[i]? = some r → r[j]? = some c → w.cell? ⟨b, off + (i * sz + j), none⟩ = some (vals i j))
      (ho : ∀ (i j : Nat) r c, rows[i]? = some r → r[j]? = some c → (vals i j).oneCell' = true)
      (hd : ∀ (i j : Nat) r c, rows[i]? = some r → r[j]? = some c → RepD w im (vals i j) c) : RepD w im (.slice (some ⟨b, off, none⟩) n cap) (.imm rows)

variable [Val]
inductive RepA (w : World) (im : Nat → Prop) (ι : Nat → Option Nat) (h : H) : Value → A → Prop
  | d {v a} (hd : RepD w im v a) : RepA w im ι h v a
  | nils (ad : Option Addr) : RepA w im ι h (.slice ad 0 0) .nils
  | own {id off len : Nat} {o : Obj} {ad : Option Addr} {cap : Nat} (ho : h[id]? = some o) (hl : off + len ≤ o.rows.length) (hc : len ≤ cap)
      (hcur : off + len = o.rows.length → cap = 0 ∨ ∃ b, ι id = some b ∧ ad = some ⟨b, off * o.sz, none⟩ ∧ ∀ c e f, w.heap[b]? = some (.cells c e f) → (off + cap) * o.sz ≤ c.size) :
      RepA w im ι h (.slice ad len cap) (.own id off len)
  | ptr {id ver row off : Nat} {o : Obj} {ad : Addr} (ho : h[id]? = some o) (hv : ver ≤ o.rows.length)
      (hcur : ver = o.rows.length → ∃ b, ι id = some b ∧ ad = ⟨b, row * o.sz + off, none⟩) :
      RepA w im ι h (.pointer (some ad)) (.ptr id ver row off)
  | ipt {b off : Nat} {cells : List A} (vals : Nat → Value) (hi : im b)
      (hv : ∀ (j : Nat) c, cells[j]? = some c → w.cell? ⟨b, off + j, none⟩ = some (vals j) ∧ (vals j).oneCell' = true)
      (hd : ∀ (j : Nat) c, cells[j]? = some c → RepD w im (vals j) c) : RepA w im ι h (.pointer (some ⟨b, off, none⟩)) (.ipt cells)
  | fn {f : FuncId} {cs : Array Value} {as : List A} (hl : cs.size = as.length) (hr : ∀ (i : Nat) v a, cs[i]? = some v → as[i]? = some a → RepA w im ι h v a) :
      RepA w im ι h (.func (.func f) #[] cs) (.fn f as)
  | agg {cs : Array Value} {as : List A} (hl : cs.size = as.length) (h1 : ∀ (i : Nat) v, cs[i]? = some v → v.oneCell' = true)
      (hr : ∀ (i : Nat) v a, cs[i]? = some v → as[i]? = some a → RepA w im ι h v a) : RepA w im ι h (.agg cs) (.agg as)
  | tup {cs : Array Value} {as : List A} (hl : cs.size = as.length) (hr : ∀ (i : Nat) v a, cs[i]? = some v → as[i]? = some a → RepA w im ι h v a) :
      RepA w im ι h (.tuple cs) (.tup as)
  | dead (v : Value) : RepA w im ι h v .dead

def Wr (ι : Nat → Option Nat) (h : H) (b : Nat) : Prop := ∃ (id : Nat) (o : Obj), h[id]? = some o ∧ o.fz = false ∧ ι id = some b

def ObjRep (w : World) (im : Nat → Prop) (ι : Nat → Option Nat) (h : H) (id : Nat) (o : Obj) : Prop :=
  (ι id = none ∧ (o.rows = [] ∨ o.fz = true)) ∨ ∃ b c e, ι id = some b ∧ w.heap[b]? = some (.cells c e (0, 0)) ∧ o.rows.length * o.sz ≤ c.size ∧
    (∀ r ∈ o.rows, r.length = o.sz) ∧
    ∀ (i j : Nat) r a, o.rows[i]? = some r → r[j]? = some a → ∃ v, c[i * o.sz + j]? = some v ∧ v.oneCell' = true ∧ RepA w im ι h v a

structure HRep (w : World) (im : Nat → Prop) (ι : Nat → Option Nat) (h : H) : Prop where
  obj : ∀ (id : Nat) o, h[id]? = some o → ObjRep w im ι h id o
  inj : ∀ i j b, i < h.length → j < h.length → ι i = some b → ι j = some b → i = j
  imLt : ∀ b, im b → b < w.heap.size
  fzIm : ∀ (id : Nat) o b, h[id]? = some o → ι id = some b → (o.fz = true → im b) ∧ (o.fz = false → ¬ im b)

structure Stp (w : World) (im : Nat → Prop) (ι : Nat → Option Nat) (h : H) (w' : World) (im' : Nat → Prop) (ι' : Nat → Option Nat) (h' : H) : Prop where
  os : w'.os = w.os
  tape : w'.tape = w.tape
  output : w'.output = w.output
  size : w.heap.size ≤ w'.heap.size
  blk : ∀ b, b < w.heap.size → ¬ Wr ι h b → w'.heap[b]? = w.heap[b]?
  cells : ∀ (b : Nat) c e f, w.heap[b]? = some (.cells c e f) → ∃ c', w'.heap[b]? = some (.cells c' e f) ∧ c'.size = c.size
  imS : ∀ b, im b → im' b
  imN : ∀ b, im' b → im b ∨ Wr ι h b ∨ w.heap.size ≤ b
  wr : ∀ b, Wr ι' h' b → Wr ι h b ∨ w.heap.size ≤ b
  len : h.length ≤ h'.length
  objs : ∀ (id : Nat) o o', h[id]? = some o → h'[id]? = some o' → o'.sz = o.sz ∧ o.rows.length ≤ o'.rows.length ∧ (o'.rows.length = o.rows.length → ι' id = ι id)

theorem Stp.refl (w : World) (im : Nat → Prop) (ι : Nat → Option Nat) (h : H) : Stp w im ι h w im ι h where
  os := rfl
  tape := rfl
  output := rfl
  size := Nat.le_refl _
  blk := fun _ _ _ => rfl
  cells := fun _ c _ _ hc => ⟨c, hc, rfl⟩
  imS := fun _ h => h
  imN := fun _ h => .inl h
  wr := fun _ h => .inl h
  len := Nat.le_refl _
  objs := fun id o o' h1 h2 => by rw [h1] at h2; cases h2; exact ⟨rfl, Nat.le_refl _, fun _ => rfl⟩

section
variable {w w1 w2 : World} {im im1 im2 : Nat → Prop} {ι ι1 ι2 : Nat → Option Nat} {h h1 h2 : H}

theorem Stp.trans (s : Stp w im ι h w1 im1 ι1 h1) (t : Stp w1 im1 ι1 h1 w2 im2 ι2 h2) : Stp w im ι h w2 im2 ι2 h2 where
  os := t.os.trans s.os
  tape := t.tape.trans s.tape
  output := t.output.trans s.output
  size := Nat.le_trans s.size t.size
  blk := fun b hb hw => by
    rw [t.blk b (Nat.lt_of_lt_of_le hb s.size) (fun hw1 => (s.wr b hw1).elim hw (by omega)), s.blk b hb hw]
  cells := fun b c e f hc => by
    obtain ⟨c1, h1, e1⟩ := s.cells b c e f hc
    obtain ⟨c2, h2, e2⟩ := t.cells b c1 e f h1
    exact ⟨c2, h2, e2.trans e1⟩
  imS := fun b hb => t.imS b (s.imS b hb)
  imN := fun b hb => by
    rcases t.imN b hb with h | h | h
    · exact s.imN b h
    · rcases s.wr b h with h | h
      · exact .inr (.inl h)
      · exact .inr (.inr h)
    · exact .inr (.inr (Nat.le_trans s.size h))
  wr := fun b hb => by
    rcases t.wr b hb with h | h
    · exact s.wr b h
    · exact .inr (Nat.le_trans s.size h)
  len := Nat.le_trans s.len t.len
  objs := fun id o o' ho ho' => by
    have hlt : id < h.length := (List.getElem?_eq_some_iff.1 ho).1
    have hlt1 : id < h1.length := Nat.lt_of_lt_of_le hlt s.len
    have ho1 : h1[id]? = some h1[id] := List.getElem?_eq_getElem hlt1
    obtain ⟨a1, b1, c1⟩ := s.objs id o _ ho ho1
    obtain ⟨a2, b2, c2⟩ := t.objs id _ o' ho1 ho'
    refine ⟨a2.trans a1, Nat.le_trans b1 b2, fun he => ?_⟩
    rw [c2 (by omega), c1 (by omega)]

/-- What lies in blocks that may not be written stays. -/
theorem Stp.imBlk (s : Stp w im ι h w1 im1 ι1 h1) (H : HRep w im ι h) {b : Nat} (hb : im b) : w1.heap[b]? = w.heap[b]? :=
  s.blk b (H.imLt b hb) fun ⟨id, o, ho, hf, hi⟩ => (H.fzIm id o b ho hi).2 hf hb
theorem cell_of_blk {b off : Nat} (e : w1.heap[b]? = w.heap[b]?) : w1.cell? ⟨b, off, none⟩ = w.cell? ⟨b, off, none⟩ := by
  simp only [World.cell?, e]

theorem RepD.mono {v : Value} {a : A} (hr : RepD w im v a) (hb : ∀ b, im b → w1.heap[b]? = w.heap[b]?) (hi : ∀ b, im b → im1 b) : RepD w1 im1 v a := by
  induction hr with
  | int k n => exact .int k n
  | bool b => exact .bool b
  | sym k i => exact .sym k i
  | nilI => exact .nilI
  | ifc t u => exact .ifc t u
  | imm0 ad cap => exact .imm0 ad cap
  | imm b off n cap sz rows vals hn hc him hsz hv ho hd ih =>
    exact .imm b off n cap sz rows vals hn hc (hi b him) hsz (fun i j r c h1 h2 => (cell_of_blk (hb b him)).trans (hv i j r c h1 h2)) ho ih

theorem RepA.mono {v : Value} {a : A} (hr : RepA w im ι h v a) (H : HRep w im ι h) (s : Stp w im ι h w1 im1 ι1 h1) : RepA w1 im1 ι1 h1 v a := by
  induction hr with
  | d hd => exact .d (hd.mono (fun b hb => s.imBlk H hb) s.imS)
  | nils ad => exact .nils ad
  | @own id off len o ad cap ho hl hc hcur =>
    have hlt : id < h1.length := Nat.lt_of_lt_of_le (List.getElem?_eq_some_iff.1 ho).1 s.len
    have ho1 : h1[id]? = some h1[id] := List.getElem?_eq_getElem hlt
    obtain ⟨a1, b1, c1⟩ := s.objs id o _ ho ho1
    refine .own ho1 (by omega) hc fun he => ?_
    rcases hcur (by omega) with h0 | ⟨b, hb, had, hsz⟩
    · exact .inl h0
    · refine .inr ⟨b, (c1 (by omega)).trans hb, by rw [a1]; exact had, fun c e f hcell => ?_⟩
      rcases H.obj id o ho with ⟨h0, _⟩ | ⟨b', c', e', hb', hc', _⟩
      · rw [h0] at hb; cases hb
      · rw [hb'] at hb; cases hb
        obtain ⟨c2, hc2, e2⟩ := s.cells b c' e' _ hc'
        rw [hc2] at hcell; cases hcell
        rw [a1, e2]; exact hsz c' _ _ hc'
  | @ptr id ver row off o ad ho hv hcur =>
    have hlt : id < h1.length := Nat.lt_of_lt_of_le (List.getElem?_eq_some_iff.1 ho).1 s.len
    have ho1 : h1[id]? = some h1[id] := List.getElem?_eq_getElem hlt
    obtain ⟨a1, b1, c1⟩ := s.objs id o _ ho ho1
    refine .ptr ho1 (by omega) fun he => ?_
    obtain ⟨b, hb, had⟩ := hcur (by omega)
    exact ⟨b, (c1 (by omega)).trans hb, by rw [a1]; exact had⟩
  | ipt vals hi hv hd =>
    exact .ipt vals (s.imS _ hi) (fun j c hj => ⟨(cell_of_blk (s.imBlk H hi)).trans (hv j c hj).1, (hv j c hj).2⟩) fun j c hj => (hd j c hj).mono (fun b hb => s.imBlk H hb) s.imS
  | fn hl hr ih => exact .fn hl ih
  | agg hl h1 hr ih => exact .agg hl h1 ih
  | tup hl hr ih => exact .tup hl ih
  | dead v => exact .dead v
end
end Go.Ab

namespace Go.Ab
open Go
variable [Val]
section
variable {w w' : World} {im im' : Nat → Prop} {ι ι' : Nat → Option Nat} {h h' : H}

theorem HRep.step (G : HRep w im ι h) (s : Stp w im ι h w' im' ι' h')
    (hold : ∀ (id : Nat) o', h'[id]? = some o' → (h[id]? = some o' ∧ ι' id = ι id ∧ ∀ b, ι id = some b → w'.heap[b]? = w.heap[b]?) ∨ ObjRep w' im' ι' h' id o')
    (inj : ∀ i j b, i < h'.length → j < h'.length → ι' i = some b → ι' j = some b → i = j) (imLt : ∀ b, im' b → b < w'.heap.size)
    (fzIm : ∀ (id : Nat) o b, h'[id]? = some o → ι' id = some b → (o.fz = true → im' b) ∧ (o.fz = false → ¬ im' b)) : HRep w' im' ι' h' where
  obj := fun id o' ho' => by
    rcases hold id o' ho' with ⟨ho, hi, hb⟩ | hr
    · rcases G.obj id o' ho with ⟨h0, hr0⟩ | ⟨b, c, e, hib, hc, hl, hsz, hcell⟩
      · exact .inl ⟨hi.trans h0, hr0⟩
      · refine .inr ⟨b, c, e, hi.trans hib, (hb b hib).trans hc, hl, hsz, fun i j r a h1 h2 => ?_⟩
        obtain ⟨v, hv, h1c, hra⟩ := hcell i j r a h1 h2
        exact ⟨v, hv, h1c, hra.mono G s⟩
    · exact hr
  inj := inj
  imLt := imLt
  fzIm := fzIm

/-- The new id's block. -/
def upd (ι : Nat → Option Nat) (i : Nat) (b : Option Nat) : Nat → Option Nat := fun j => if j = i then b else ι j
theorem upd_self (ι : Nat → Option Nat) (i : Nat) (b : Option Nat) : upd ι i b i = b := by simp [upd]
theorem upd_ne (ι : Nat → Option Nat) {i j : Nat} (b : Option Nat) (hne : j ≠ i) : upd ι i b j = ι j := by simp [upd, hne]

theorem get_push (h : H) (o : Obj) (id : Nat) (o' : Obj) (hid : (h ++ [o])[id]? = some o') : (id < h.length ∧ h[id]? = some o') ∨ (id = h.length ∧ o' = o) := by
  rcases Nat.lt_or_ge id h.length with hlt | hge
  · rw [List.getElem?_append_left hlt] at hid; exact .inl ⟨hlt, hid⟩
  · rw [List.getElem?_append_right hge] at hid
    have : id - h.length < 1 := by
      have := (List.getElem?_eq_some_iff.1 hid).1; simpa using this
    have e : id = h.length := by omega
    subst e
    simp at hid
    exact .inr ⟨rfl, hid.symm⟩

theorem heap_alloc_old (w : World) (o : Go.Obj) {b : Nat} (hb : b < w.heap.size) : (w.alloc o).heap[b]? = w.heap[b]? := by
  simp only [World.alloc, Array.getElem?_push]
  rw [if_neg (by omega)]
theorem heap_alloc_new' (w : World) (o : Go.Obj) : (w.alloc o).heap[w.heap.size]? = some o := by
  simp only [World.alloc, Array.getElem?_push, if_true]
theorem lt_of_heap {w : World} {b : Nat} {x : Go.Obj} (hb : w.heap[b]? = some x) : b < w.heap.size := (Array.getElem?_eq_some_iff.1 hb).1

/-- A new object; it may have no block yet. -/
theorem Stp.push (G : HRep w im ι h) (o : Obj) (x : Go.Obj) (hfz : o.fz = false) :
    Stp w im ι h (w.alloc x) im (upd ι h.length (some w.heap.size)) (h ++ [o]) where
  os := rfl
  tape := rfl
  output := rfl
  size := by simp
  blk := fun b hb _ => heap_alloc_old w x hb
  cells := fun b c e f hc => ⟨c, (heap_alloc_old w x (lt_of_heap hc)).trans hc, rfl⟩
  imS := fun _ h => h
  imN := fun _ h => .inl h
  wr := fun b ⟨id, o', ho', hf, hi⟩ => by
    rcases get_push h o id o' ho' with ⟨hlt, ho⟩ | ⟨rfl, rfl⟩
    · rw [upd_ne _ _ (by omega)] at hi; exact .inl ⟨id, o', ho, hf, hi⟩
    · rw [upd_self] at hi; cases hi; exact .inr (Nat.le_refl _)
  len := by simp
  objs := fun id a b h1 h2 => by
    have hlt := (List.getElem?_eq_some_iff.1 h1).1
    rw [List.getElem?_append_left hlt, h1] at h2; cases h2
    exact ⟨rfl, Nat.le_refl _, fun _ => upd_ne _ _ (by omega)⟩

theorem HRep.push (G : HRep w im ι h) (o : Obj) (c : Array Value) (e : TypeId) (hfz : o.fz = false) (hl : o.rows.length * o.sz ≤ c.size)
    (hsz : ∀ r ∈ o.rows, r.length = o.sz)
    (hc : ∀ (i j : Nat) r a, o.rows[i]? = some r → r[j]? = some a → ∃ v, c[i * o.sz + j]? = some v ∧ v.oneCell' = true ∧ RepA w im ι h v a) :
    HRep (w.alloc (.cells c e)) im (upd ι h.length (some w.heap.size)) (h ++ [o]) := by
  have s := Stp.push G o (.cells c e) hfz
  refine G.step s (fun id o' ho' => ?_) (fun i j b hi hj h1 h2 => ?_) (fun b hb => by have := G.imLt b hb; simp; omega) (fun id o' b ho' hi => ?_)
  · rcases get_push h o id o' ho' with ⟨hlt, ho⟩ | ⟨rfl, rfl⟩
    · refine .inl ⟨ho, upd_ne _ _ (by omega), fun b hb => ?_⟩
      rcases G.obj id o' ho with ⟨h0, _⟩ | ⟨b', c', e', hb', hc', _⟩
      · rw [h0] at hb; cases hb
      · rw [hb'] at hb; cases hb; exact heap_alloc_old w _ (lt_of_heap hc')
    · refine .inr (.inr ⟨w.heap.size, c, e, upd_self _ _ _, heap_alloc_new' w _, hl, hsz, fun i j r a h1 h2 => ?_⟩)
      obtain ⟨v, h3, h4, h5⟩ := hc i j r a h1 h2
      exact ⟨v, h3, h4, h5.mono G s⟩
  · simp only [List.length_append, List.length_singleton] at hi hj
    have old : ∀ k b, k < h.length → ι k = some b → b < w.heap.size := fun k b hk hb => by
      rcases G.obj k _ (List.getElem?_eq_getElem hk) with ⟨h0, _⟩ | ⟨b', c', e', hb', hc', _⟩
      · rw [h0] at hb; cases hb
      · rw [hb'] at hb; cases hb; exact lt_of_heap hc'
    by_cases ei : i = h.length <;> by_cases ej : j = h.length
    · omega
    · subst ei; rw [upd_self] at h1; rw [upd_ne _ _ ej] at h2; cases h1; have := old j _ (by omega) h2; omega
    · subst ej; rw [upd_self] at h2; rw [upd_ne _ _ ei] at h1; cases h2; have := old i _ (by omega) h1; omega
    · rw [upd_ne _ _ ei] at h1; rw [upd_ne _ _ ej] at h2; exact G.inj i j b (by omega) (by omega) h1 h2
  · rcases get_push h o id o' ho' with ⟨hlt, ho⟩ | ⟨rfl, rfl⟩
    · rw [upd_ne _ _ (by omega)] at hi; exact G.fzIm id o' b ho hi
    · rw [upd_self] at hi; cases hi
      exact ⟨fun hf => by rw [hfz] at hf; (cases hf), fun _ hb => by have := G.imLt _ hb; omega⟩

/-- A new object without a block. -/
theorem HRep.pushNone (G : HRep w im ι h) (sz : Nat) :
    HRep w im (upd ι h.length none) (h ++ [⟨sz, false, []⟩]) ∧ Stp w im ι h w im (upd ι h.length none) (h ++ [⟨sz, false, []⟩]) := by
  have s : Stp w im ι h w im (upd ι h.length none) (h ++ [⟨sz, false, []⟩]) :=
    { Stp.refl w im ι h with
      wr := fun b ⟨id, o', ho', hf, hi⟩ => by
        rcases get_push h _ id o' ho' with ⟨hlt, ho⟩ | ⟨rfl, rfl⟩
        · rw [upd_ne _ _ (by omega)] at hi; exact .inl ⟨id, o', ho, hf, hi⟩
        · rw [upd_self] at hi; cases hi
      len := by simp
      objs := fun id a b h1 h2 => by
        have hlt := (List.getElem?_eq_some_iff.1 h1).1
        rw [List.getElem?_append_left hlt, h1] at h2; cases h2
        exact ⟨rfl, Nat.le_refl _, fun _ => upd_ne _ _ (by omega)⟩ }
  refine ⟨G.step s (fun id o' ho' => ?_) (fun i j b hi hj h1 h2 => ?_) G.imLt (fun id o' b ho' hi => ?_), s⟩
  · rcases get_push h _ id o' ho' with ⟨hlt, ho⟩ | ⟨rfl, rfl⟩
    · exact .inl ⟨ho, upd_ne _ _ (by omega), fun _ _ => rfl⟩
    · exact .inr (.inl ⟨upd_self _ _ _, .inl rfl⟩)
  · simp only [List.length_append, List.length_singleton] at hi hj
    by_cases ei : i = h.length
    · subst ei; rw [upd_self] at h1; cases h1
    · by_cases ej : j = h.length
      · subst ej; rw [upd_self] at h2; cases h2
      · rw [upd_ne _ _ ei] at h1; rw [upd_ne _ _ ej] at h2; exact G.inj i j b (by omega) (by omega) h1 h2
  · rcases get_push h _ id o' ho' with ⟨hlt, ho⟩ | ⟨rfl, rfl⟩
    · rw [upd_ne _ _ (by omega)] at hi; exact G.fzIm id o' b ho hi
    · rw [upd_self] at hi; cases hi

theorem setRow_other (w : World) (b b' : Nat) (c : Array Value) (hne : b' ≠ b) : (w.setRow b c).heap[b']? = w.heap[b']? := by
  simp only [World.setRow, Array.getElem?_modify]
  rw [if_neg (fun e => hne e.symm)]
theorem get_set (h : H) (id : Nat) (o : Obj) (i : Nat) (o' : Obj) (hi : (h.set id o)[i]? = some o') : (i = id ∧ o' = o) ∨ (i ≠ id ∧ h[i]? = some o') := by
  rw [List.getElem?_set] at hi
  split at hi
  · rename_i e
    subst e
    split at hi
    · exact .inl ⟨rfl, (Option.some.inj hi).symm⟩
    · cases hi
  · rename_i hne
    exact .inr ⟨fun e => hne e.symm, hi⟩

/-- An object's rows written in place (no fewer rows). -/
theorem HRep.write (G : HRep w im ι h) {id b : Nat} {o : Obj} {c c' : Array Value} {e : TypeId} (ho : h[id]? = some o) (hf : o.fz = false) (hb : ι id = some b)
    (hc : w.heap[b]? = some (.cells c e (0, 0))) (hcs : c'.size = c.size) (rows : List (List A)) (hlen : o.rows.length ≤ rows.length)
    (hl : rows.length * o.sz ≤ c'.size) (hsz : ∀ r ∈ rows, r.length = o.sz)
    (hcell : ∀ (i j : Nat) r a, rows[i]? = some r → r[j]? = some a → ∃ v, c'[i * o.sz + j]? = some v ∧ v.oneCell' = true ∧ RepA w im ι h v a) :
    HRep (w.setRow b c') im ι (h.set id { o with rows := rows }) ∧ Stp w im ι h (w.setRow b c') im ι (h.set id { o with rows := rows }) := by
  have hW : Wr ι h b := ⟨id, o, ho, hf, hb⟩
  have hidlt := (List.getElem?_eq_some_iff.1 ho).1
  have s : Stp w im ι h (w.setRow b c') im ι (h.set id { o with rows := rows }) :=
    { os := rfl, tape := rfl, output := rfl
      size := by simp [World.setRow]
      blk := fun b' hb' hw => setRow_other w b b' c' fun e => hw (e ▸ hW)
      cells := fun b' c1 e1 f1 h1 => by
        by_cases eb : b' = b
        · subst eb
          rw [hc] at h1; cases h1
          exact ⟨c', setRow_heap w b' c c' e (0, 0) hc, hcs⟩
        · exact ⟨c1, (setRow_other w b b' c' eb).trans h1, rfl⟩
      imS := fun _ h => h
      imN := fun _ h => .inl h
      wr := fun b' ⟨i, o', ho', hf', hi'⟩ => by
        rcases get_set h id _ i o' ho' with ⟨rfl, rfl⟩ | ⟨_, ho2⟩
        · rw [hb] at hi'; cases hi'; exact .inl hW
        · exact .inl ⟨i, o', ho2, hf', hi'⟩
      len := by simp
      objs := fun i a a' h1 h2 => by
        rcases get_set h id _ i a' h2 with ⟨rfl, rfl⟩ | ⟨_, ho2⟩
        · rw [ho] at h1; cases h1; exact ⟨rfl, hlen, fun _ => rfl⟩
        · rw [h1] at ho2; cases ho2; exact ⟨rfl, Nat.le_refl _, fun _ => rfl⟩ }
  refine ⟨G.step s (fun i o' ho' => ?_) (fun i j b hi hj h1 h2 => G.inj i j b (by simpa using hi) (by simpa using hj) h1 h2) (fun b hb => by have := G.imLt b hb; simpa [World.setRow] using this) (fun i o' b' ho' hi => ?_), s⟩
  · rcases get_set h id _ i o' ho' with ⟨rfl, rfl⟩ | ⟨hne, ho2⟩
    · refine .inr (.inr ⟨b, c', e, hb, setRow_heap w b c c' e (0, 0) hc, hl, hsz, fun i j r a h1 h2 => ?_⟩)
      obtain ⟨v, h3, h4, h5⟩ := hcell i j r a h1 h2
      exact ⟨v, h3, h4, h5.mono G s⟩
    · refine .inl ⟨ho2, rfl, fun b' hb' => setRow_other w b b' c' fun e => hne ?_⟩
      subst e
      exact G.inj i id b' (List.getElem?_eq_some_iff.1 ho2).1 hidlt hb' hb
  · rcases get_set h id _ i o' ho' with ⟨rfl, rfl⟩ | ⟨hne, ho2⟩
    · exact G.fzIm i o b' ho hi
    · exact G.fzIm i o' b' ho2 hi

/-- An object's rows laid anew in a new block (more rows). -/
theorem HRep.renew (G : HRep w im ι h) {id : Nat} {o : Obj} {c' : Array Value} {e : TypeId} (ho : h[id]? = some o) (hf : o.fz = false)
    (rows : List (List A)) (hlen : o.rows.length < rows.length)
    (hl : rows.length * o.sz ≤ c'.size) (hsz : ∀ r ∈ rows, r.length = o.sz)
    (hcell : ∀ (i j : Nat) r a, rows[i]? = some r → r[j]? = some a → ∃ v, c'[i * o.sz + j]? = some v ∧ v.oneCell' = true ∧ RepA w im ι h v a) :
    HRep (w.alloc (.cells c' e)) im (upd ι id (some w.heap.size)) (h.set id { o with rows := rows }) ∧
      Stp w im ι h (w.alloc (.cells c' e)) im (upd ι id (some w.heap.size)) (h.set id { o with rows := rows }) := by
  have hidlt := (List.getElem?_eq_some_iff.1 ho).1
  have old : ∀ k b, k < h.length → ι k = some b → b < w.heap.size := fun k b hk hb => by
    rcases G.obj k _ (List.getElem?_eq_getElem hk) with ⟨h0, _⟩ | ⟨b', c', e', hb', hc', _⟩
    · rw [h0] at hb; cases hb
    · rw [hb'] at hb; cases hb; exact lt_of_heap hc'
  have s : Stp w im ι h (w.alloc (.cells c' e)) im (upd ι id (some w.heap.size)) (h.set id { o with rows := rows }) :=
    { os := rfl, tape := rfl, output := rfl
      size := by simp
      blk := fun b hb _ => heap_alloc_old w _ hb
      cells := fun b c e f hc => ⟨c, (heap_alloc_old w _ (lt_of_heap hc)).trans hc, rfl⟩
      imS := fun _ h => h
      imN := fun _ h => .inl h
      wr := fun b' ⟨i, o', ho', hf', hi'⟩ => by
        rcases get_set h id _ i o' ho' with ⟨rfl, rfl⟩ | ⟨hne, ho2⟩
        · rw [upd_self] at hi'; cases hi'; exact .inr (Nat.le_refl _)
        · rw [upd_ne _ _ hne] at hi'; exact .inl ⟨i, o', ho2, hf', hi'⟩
      len := by simp
      objs := fun i a a' h1 h2 => by
        rcases get_set h id _ i a' h2 with ⟨rfl, rfl⟩ | ⟨hne, ho2⟩
        · rw [ho] at h1; cases h1
          refine ⟨rfl, Nat.le_of_lt hlen, fun he => ?_⟩
          simp only at he; omega
        · rw [h1] at ho2; cases ho2; exact ⟨rfl, Nat.le_refl _, fun _ => upd_ne _ _ hne⟩ }
  refine ⟨G.step s (fun i o' ho' => ?_) (fun i j b hi hj h1 h2 => ?_) (fun b hb => by have := G.imLt b hb; simp; omega) (fun i o' b' ho' hi => ?_), s⟩
  · rcases get_set h id _ i o' ho' with ⟨rfl, rfl⟩ | ⟨hne, ho2⟩
    · refine .inr (.inr ⟨w.heap.size, c', e, upd_self _ _ _, heap_alloc_new' w _, hl, hsz, fun i j r a h1 h2 => ?_⟩)
      obtain ⟨v, h3, h4, h5⟩ := hcell i j r a h1 h2
      exact ⟨v, h3, h4, h5.mono G s⟩
    · exact .inl ⟨ho2, upd_ne _ _ hne, fun b' hb' => heap_alloc_old w _ (old i b' (List.getElem?_eq_some_iff.1 ho2).1 hb')⟩
  · rw [List.length_set] at hi hj
    by_cases ei : i = id <;> by_cases ej : j = id
    · omega
    · subst ei; rw [upd_self] at h1; rw [upd_ne _ _ ej] at h2; cases h1; have := old j _ hj h2; omega
    · subst ej; rw [upd_self] at h2; rw [upd_ne _ _ ei] at h1; cases h2; have := old i _ hi h1; omega
    · rw [upd_ne _ _ ei] at h1; rw [upd_ne _ _ ej] at h2; exact G.inj i j b hi hj h1 h2
  · rcases get_set h id _ i o' ho' with ⟨rfl, rfl⟩ | ⟨hne, ho2⟩
    · rw [upd_self] at hi; cases hi
      exact ⟨fun hh => by simp only at hh; rw [hf] at hh; exact absurd hh (by simp), fun _ hb => by have := G.imLt _ hb; omega⟩
    · rw [upd_ne _ _ hne] at hi; exact G.fzIm i o' b' ho2 hi
end
end Go.Ab

namespace Go.Ab
open Go
variable [Val]
/-! What the table says of types. -/
def zRel : Value → A → Prop
  | .int k n, .int k' m => k = k' ∧ n = m
  | .bool b, .bool c => b = c
  | .slice none 0 0, .nils => True
  | v, .dead => True
  | _, _ => False
def DOk (P : Program) (t : Nat) : TD → Prop
  | .int k => P.underlying t = some (.int k)
  | .bool => P.underlying t = some .bool
  | .one => ∃ d, P.underlying t = some d ∧ (match d with | .struct _ | .array _ _ | .interface _ => true | _ => false) = false
  | .slice e => P.underlying t = some (.slice e)
  | .arr n e => P.underlying t = some (.array n e)
  | .struct fs => ∃ fields, P.underlying t = some (.struct fields) ∧ fields.size = fs.length ∧
      ∀ (i : Nat) f p, fields[i]? = some f → fs[i]? = some p → f.offset = p.1 ∧ (∃ j, P.info? f.type = some j ∧ j.size = p.2) ∧ p.2 ≠ 0
  | .iface => ∃ ms, P.underlying t = some (.interface ms)
  | .other => True
structure TOkAt (P : Program) (t : Nat) (x : TI) : Prop where
  info : ∃ i, P.info? t = some i ∧ i.size = x.size ∧ i.bytes = x.bytes ∧
    ∃ z, i.zero = some z ∧ z.cells.size = x.zero.length ∧ x.size = x.zero.length ∧ (∀ (j : Nat) v, z.cells[j]? = some v → v.oneCell' = true) ∧ ∀ (j : Nat) v a, z.cells[j]? = some v → x.zero[j]? = some a → zRel v a
  d : DOk P t x.d
def TOk (P : Program) (T : Nat → TI) : Prop := ∀ t, (T t).d ≠ .other → TOkAt P t (T t)

section
variable {P : Program} {T : Nat → TI} {w : World} {im : Nat → Prop} {ι : Nat → Option Nat} {h : H}
theorem zRel.rep {v : Value} {a : A} (hz : zRel v a) : RepA w im ι h v a := by
  unfold zRel at hz
  split at hz
  · obtain ⟨rfl, rfl⟩ := hz; exact .d (.int _ _)
  · subst hz; exact .d (.bool _)
  · exact .nils none
  · exact .dead _
  · exact hz.elim
theorem TOkAt.size {t : Nat} {x : TI} (h : TOkAt P t x) (w : World) : (sizeOf t).run P w = .ok x.size w := by
  obtain ⟨i, hi, hs, _⟩ := h.info
  simp [sizeOf, typeInfo, hi, hs]
theorem TOkAt.tinfo {t : Nat} {x : TI} (h : TOkAt P t x) : ∃ i, P.info? t = some i ∧ i.size = x.size ∧ i.bytes = x.bytes := by
  obtain ⟨i, hi, hs, hb, _⟩ := h.info
  exact ⟨i, hi, hs, hb⟩
theorem TOkAt.zero {t : Nat} {x : TI} (h : TOkAt P t x) (w : World) : ∃ z, (zeroValue t).run P w = .ok z w ∧ z.cells.size = x.zero.length ∧ (∀ (j : Nat) v, z.cells[j]? = some v → v.oneCell' = true) ∧ ∀ (j : Nat) v a, z.cells[j]? = some v → x.zero[j]? = some a → zRel v a := by
  obtain ⟨i, hi, hs, _, z, hz, h1, _, h2, h3⟩ := h.info
  exact ⟨z, by simp [zeroValue, typeInfo, hi, hz], h1, h2, h3⟩
theorem TOkAt.isAgg {t : Nat} {x : TI} (h : TOkAt P t x) (hd : x.d ≠ .other) (w : World) : (isAgg t).run P w = .ok x.d.agg w := by
  have := h.d
  cases hx : x.d with
  | bool => rw [hx] at this; simp [Go.isAgg, run_underlying this, TD.agg]
  | int k => rw [hx] at this; simp [Go.isAgg, run_underlying this, TD.agg]
  | one =>
    rw [hx] at this; obtain ⟨d, hd, hf⟩ := this
    simp only [Go.isAgg, Sem.run_bind, run_underlying hd, Result.andThen_ok, TD.agg]
    cases d <;> simp_all
  | slice e => rw [hx] at this; simp [Go.isAgg, run_underlying this, TD.agg]
  | arr n e => rw [hx] at this; simp [Go.isAgg, run_underlying this, TD.agg]
  | struct fs => rw [hx] at this; obtain ⟨f, hf, _⟩ := this; simp [Go.isAgg, run_underlying hf, TD.agg]
  | iface => rw [hx] at this; obtain ⟨f, hf⟩ := this; simp [Go.isAgg, run_underlying hf, TD.agg]
  | other => exact absurd hx hd

/-! Inversions. -/
theorem RepA.int {v : Value} {k : IntKind} {n : Int} (hr : RepA w im ι h v (.int k n)) : v = .int k n := by
  cases hr with | d hd => cases hd; rfl
theorem RepA.sym {v : Value} {k : IntKind} {i : Nat} (hr : RepA w im ι h v (.sym k i)) : v = .int k (Val.ρ i) := by
  cases hr with | d hd => cases hd; rfl
theorem RepA.nilI {v : Value} (hr : RepA w im ι h v .nilI) : v = .nilIface := by
  cases hr with | d hd => cases hd; rfl
theorem RepA.ifc {v : Value} (hr : RepA w im ι h v .ifc) : ∃ t u, v = .iface t u := by
  cases hr with | d hd => cases hd; exact ⟨_, _, rfl⟩
theorem RepA.bool {v : Value} {b : Bool} (hr : RepA w im ι h v (.bool b)) : v = .bool b := by
  cases hr with | d hd => cases hd; rfl
theorem RepA.imm {v : Value} {rows : List (List A)} (hr : RepA w im ι h v (.imm rows)) : RepD w im v (.imm rows) := by
  cases hr with | d hd => exact hd
theorem Addr.add_plain (b off k : Nat) : (⟨b, off, none⟩ : Addr).add k = ⟨b, off + k, none⟩ := by
  unfold Addr.add; split <;> simp_all
theorem TD.arr_ne {n e} : (TD.arr n e) ≠ .other := by intro h; cases h

theorem cells_one {v : Value} {a : A} (h1 : v.oneCell' = true) (h2 : ∀ xs, v ≠ .agg xs) (hr : RepA w im ι h v a) :
    v.cells.size = [a].length ∧ (∀ (i : Nat) u, v.cells[i]? = some u → u.oneCell' = true) ∧ ∀ (i : Nat) u c, v.cells[i]? = some u → [a][i]? = some c → RepA w im ι h u c := by
  have hc : v.cells = #[v] := by cases v <;> first | rfl | exact absurd rfl (h2 _)
  rw [hc]
  refine ⟨rfl, fun i u hu => ?_, fun i u c hu hcc => ?_⟩
  · have : i = 0 := by
      have := (Array.getElem?_eq_some_iff.1 hu).1; simp at this; exact this
    subst this; simp at hu; subst hu; exact h1
  · have : i = 0 := by
      have := (Array.getElem?_eq_some_iff.1 hu).1; simp at this; exact this
    subst this; simp at hu hcc; subst hu hcc; exact hr
/-- The cells that a value takes. -/
theorem cellsA_rep {v : Value} {a : A} {cs : List A} (hr : RepA w im ι h v a) (hc : cellsA a = some cs) :
    v.cells.size = cs.length ∧ (∀ (i : Nat) u, v.cells[i]? = some u → u.oneCell' = true) ∧ ∀ (i : Nat) u c, v.cells[i]? = some u → cs[i]? = some c → RepA w im ι h u c := by
  have hr0 := hr
  cases hr with
  | d hd =>
    cases hd <;> (simp only [cellsA, Option.some.injEq] at hc; subst hc; exact cells_one rfl (by simp) hr0)
  | agg hl h1 hr => simp only [cellsA, Option.some.injEq] at hc; subst hc; exact ⟨hl, h1, hr⟩
  | tup => simp [cellsA] at hc
  | dead => simp [cellsA] at hc
  | _ => simp only [cellsA, Option.some.injEq] at hc; subst hc; exact cells_one rfl (by simp) hr0
end
end Go.Ab

namespace Go.Ab
open Go
variable [Val]
section
variable {P : Program} {T : Nat → TI} {w : World} {im : Nat → Prop} {ι : Nat → Option Nat} {h : H}

theorem fadA_ok {t f : Nat} {v : Value} {a a' : A} {fs : List (Nat × Nat)} {p : Nat × Nat} (ht : TOkAt P t (T t)) (hd : (T t).d = .struct fs) (hp : fs[f]? = some p)
    (hr : RepA w im ι h v a) (e : fadA p.1 a = some a') : ∃ v', (Instr.fieldAt t v f).run P w = .ok v' w ∧ RepA w im ι h v' a' := by
  have hD := ht.d
  rw [hd] at hD
  obtain ⟨fields, hu, hsz, hall⟩ := hD
  have hlt : f < fields.size := by rw [hsz]; exact (List.getElem?_eq_some_iff.1 hp).1
  obtain ⟨hoff, ⟨j, hj, hjs⟩, hne⟩ := hall f fields[f] p (Array.getElem?_eq_getElem hlt) hp
  have run : ∀ ad : Addr, (Instr.fieldAt t (.pointer (some ad)) f).run P w = .ok (.pointer (some (ad.add p.1))) w := fun ad => by
    simp [Instr.fieldAt, run_underlying hu, hlt, Instr.sureAddr, fieldPlace, sizeOf, typeInfo, hj, hjs, hne, hoff]
  cases a with
  | ipt cs =>
    cases hr with
    | d hd => cases hd
    | @ipt b off _ vals hi hv hdd =>
      simp only [fadA, Option.some.injEq] at e
      subst e
      refine ⟨_, run _, ?_⟩
      rw [Addr.add_plain]
      refine .ipt (fun j => vals (p.1 + j)) hi (fun j c hc => ?_) (fun j c hc => ?_)
      · rw [List.getElem?_drop] at hc
        rw [Nat.add_assoc]
        exact hv _ c hc
      · rw [List.getElem?_drop] at hc
        exact hdd _ c hc
  | ptr id ver row off =>
    cases hr with
    | d hd => cases hd
    | @ptr _ _ _ _ o ad ho hv hcur =>
      simp only [fadA, Option.some.injEq] at e
      subst e
      refine ⟨_, run _, .ptr ho hv fun he => ?_⟩
      obtain ⟨b, hb, had⟩ := hcur he
      exact ⟨b, hb, by rw [had, Addr.add_plain, Nat.add_assoc]⟩
  | _ => simp [fadA] at e

theorem RepD.imm_at {v : Value} {rows : List (List A)} (hr : RepD w im v (.imm rows)) :
    (∃ ad cap, v = .slice ad 0 cap ∧ rows = []) ∨ ∃ b off cap sz, ∃ vals : Nat → Nat → Value, v = .slice (some ⟨b, off, none⟩) rows.length cap ∧ rows.length ≤ cap ∧ im b ∧ (∀ r ∈ rows, r.length = sz) ∧
      (∀ (i j : Nat) r c, rows[i]? = some r → r[j]? = some c → w.cell? ⟨b, off + (i * sz + j), none⟩ = some (vals i j)) ∧
      (∀ (i j : Nat) r c, rows[i]? = some r → r[j]? = some c → (vals i j).oneCell' = true) ∧
      (∀ (i j : Nat) r c, rows[i]? = some r → r[j]? = some c → RepD w im (vals i j) c) := by
  cases hr with
  | imm0 ad cap => exact .inl ⟨ad, cap, rfl, rfl⟩
  | imm b off n cap sz _ vals hn hc hi hsz hv ho hd => subst hn; exact .inr ⟨b, off, cap, sz, vals, rfl, hc, hi, hsz, hv, ho, hd⟩

theorem iadA_ok {t et : Nat} {v u : Value} {a i a' : A} (ht : TOkAt P t (T t)) (hd : (T t).d = .slice et) (he : TOkAt P et (T et))
    (hr : RepA w im ι h v a) (hi : RepA w im ι h u i) (e : iadA (T et).size a i h = some a') : ∃ v', (Instr.indexAt t v u).run P w = .ok v' w ∧ RepA w im ι h v' a' := by
  have hu : P.underlying t = some (.slice et) := by have := ht.d; rwa [hd] at this
  have run : ∀ (ad : Addr) (len cap : Nat) (k : IntKind) (n : Int), 0 ≤ n → n < len →
      (Instr.indexAt t (.slice (some ad) len cap) (.int k n)).run P w = .ok (.pointer (some (ad.add (n.toNat * (T et).size)))) w := fun ad len cap k n h0 h1 => by
    simp [Instr.indexAt, asIntOf, run_underlying hu, h0, h1, he.size]
  cases a with
  | imm rows =>
    cases i with
    | int k n =>
      obtain rfl := hi.int
      simp only [iadA] at e
      split at e
      case isFalse => cases e
      rename_i h0
      cases hrow : rows[n.toNat]? with
      | none => simp [hrow] at e
      | some r =>
        simp only [hrow, Option.bind_some] at e
        split at e
        case isFalse => cases e
        rename_i hsz
        simp only [Option.some.injEq] at e
        subst e
        have hlt := (List.getElem?_eq_some_iff.1 hrow).1
        rcases hr.imm.imm_at with ⟨_, _, _, rfl⟩ | ⟨b, off, cap, sz, vals, rfl, hc, hib, hszs, hv, ho, hdd⟩
        · simp at hlt
        refine ⟨_, run _ _ _ _ _ h0 (by omega), ?_⟩
        have hse : sz = (T et).size := by rw [← hszs r (List.mem_of_getElem? hrow), hsz]
        rw [Addr.add_plain, ← hse]
        exact .ipt (vals n.toNat) hib (fun j c hj => ⟨by rw [Nat.add_assoc]; exact hv _ j r c hrow hj, ho _ j r c hrow hj⟩) fun j c hj => hdd _ j r c hrow hj
    | _ => simp [iadA] at e
  | own id off len =>
    cases i with
    | int k n =>
      obtain rfl := hi.int
      simp only [iadA] at e
      cases hr with
      | d hd => cases hd
      | @own _ _ _ o ad cap ho hl hc hcur =>
        simp only [ho] at e
        split at e
        case isFalse => cases e
        rename_i hh
        obtain ⟨hsz, hlen, h0, h1⟩ := hh
        simp only [Option.some.injEq] at e
        subst e
        rcases hcur hlen with h00 | ⟨b, hb, rfl, _⟩
        · omega
        refine ⟨_, run _ _ _ _ _ h0 h1, ?_⟩
        rw [Addr.add_plain]
        exact .ptr ho (Nat.le_refl _) fun _ => ⟨b, hb, by rw [hsz, Nat.add_mul, Nat.add_zero]⟩
    | _ => simp [iadA] at e
  | _ => simp [iadA] at e

theorem aidA_ok {t n et : Nat} {v u : Value} {a i a' : A} (ht : TOkAt P t (T t)) (hd : (T t).d = .arr n et) (he : TOkAt P et (T et))
    (hr : RepA w im ι h v a) (hi : RepA w im ι h u i) (e : aidA n (T et).size a i = some a') : ∃ v', (Instr.indexAt t v u).run P w = .ok v' w ∧ RepA w im ι h v' a' := by
  have hu : P.underlying t = some (.array n et) := by have := ht.d; rwa [hd] at this
  have run : ∀ (ad : Addr) (k : IntKind) (j : Int), 0 ≤ j → j < n →
      (Instr.indexAt t (.pointer (some ad)) (.int k j)).run P w = .ok (.pointer (some (ad.add (j.toNat * (T et).size)))) w := fun ad k j h0 h1 => by
    simp [Instr.indexAt, asIntOf, run_underlying hu, h0, h1, he.size, Instr.sureAddr]
  cases i with
  | int k j =>
    obtain rfl := hi.int
    cases a with
    | ptr id ver row off =>
      simp only [aidA] at e
      split at e
      case isFalse => cases e
      rename_i hh
      simp only [Option.some.injEq] at e
      subst e
      cases hr with
      | d hd => cases hd
      | @ptr _ _ _ _ o ad ho hv hcur =>
        refine ⟨_, run _ _ _ hh.1 hh.2, .ptr ho hv fun he => ?_⟩
        obtain ⟨b, hb, had⟩ := hcur he
        exact ⟨b, hb, by rw [had, Addr.add_plain, Nat.add_assoc]⟩
    | ipt cs =>
      simp only [aidA] at e
      split at e
      case isFalse => cases e
      rename_i hh
      simp only [Option.some.injEq] at e
      subst e
      cases hr with
      | d hd => cases hd
      | @ipt b off _ vals hib hv hdd =>
        refine ⟨_, run _ _ _ hh.1 hh.2, ?_⟩
        rw [Addr.add_plain]
        refine .ipt (fun q => vals (j.toNat * (T et).size + q)) hib (fun q c hc => ?_) (fun q c hc => ?_)
        · rw [List.getElem?_drop] at hc
          rw [Nat.add_assoc]
          exact hv _ c hc
        · rw [List.getElem?_drop] at hc
          exact hdd _ c hc
    | _ => simp [aidA] at e
  | _ => cases a <;> simp [aidA] at e

/-- What a loaded value is, out of its cells. -/
theorem load_cells {b off : Nat} {t : TypeId} {x : TI} {cs : List A} {a' : A} (ht : TOkAt P t x) (hd : x.d ≠ .other) (vals : Nat → Value)
    (hv : ∀ (j : Nat) c, cs[j]? = some c → w.cell? ⟨b, off + j, none⟩ = some (vals j) ∧ (vals j).oneCell' = true ∧ RepA w im ι h (vals j) c)
    (e : cut x.d.agg x.size cs = some a') : ∃ v', (loadVar t ⟨b, off, none⟩).run P w = .ok v' w ∧ RepA w im ι h v' a' := by
  simp only [cut] at e
  split at e
  case isFalse => cases e
  rename_i hle
  cases hagg : x.d.agg with
  | true =>
    rw [hagg] at e
    simp only [if_true, Option.some.injEq] at e
    subst e
    have hcell : ∀ j, j < x.size → w.cell? ((⟨b, off, none⟩ : Addr).add j) = some (vals j) := fun j hj => by
      rw [Addr.add_plain]
      exact (hv j cs[j] (List.getElem?_eq_getElem (by omega))).1
    refine ⟨.agg ((List.range x.size).map vals).toArray, by
      simp only [loadVar, Sem.run_bind, ht.isAgg hd, hagg, Result.andThen_ok, if_true, ht.size, run_loadCells w _ _ vals hcell, Sem.run_pure], ?_⟩
    have key : ∀ (i : Nat) v, ((List.range x.size).map vals).toArray[i]? = some v → i < x.size ∧ v = vals i := fun i v hi => by
      simp only [List.getElem?_toArray, List.getElem?_map] at hi
      have hlt : i < x.size := by
        rcases Nat.lt_or_ge i x.size with h | h
        · exact h
        · rw [List.getElem?_eq_none (by simpa using h)] at hi; simp at hi
      rw [List.getElem?_range hlt] at hi
      simp at hi
      exact ⟨hlt, hi.symm⟩
    refine .agg (by simp; omega) (fun i v hi => ?_) (fun i v c hi hc => ?_)
    · obtain ⟨hlt, rfl⟩ := key i v hi
      exact (hv i cs[i] (List.getElem?_eq_getElem (by omega))).2.1
    · obtain ⟨hlt, rfl⟩ := key i v hi
      rw [List.getElem?_take_of_lt hlt] at hc
      exact (hv i c hc).2.2
  | false =>
    rw [hagg] at e
    simp only [Bool.false_eq_true, if_false] at e
    obtain ⟨h1, h2, h3⟩ := hv 0 a' e
    refine ⟨vals 0, ?_, h3⟩
    simp only [loadVar, Sem.run_bind, ht.isAgg hd, hagg, Result.andThen_ok, Bool.false_eq_true, if_false, run_load]
    rw [Nat.add_zero] at h1
    rw [h1]

theorem ldA_ok {t : TypeId} {v : Value} {a a' : A} (ht : TOkAt P t (T t)) (hd : (T t).d ≠ .other) (G : HRep w im ι h)
    (hr : RepA w im ι h v a) (e : ldA (T t).d.agg (T t).size a h = some a') : ∃ v', (Instr.loadAt t v).run P w = .ok v' w ∧ RepA w im ι h v' a' := by
  cases a with
  | ipt cs =>
    cases hr with
    | d hd => cases hd
    | @ipt b off _ vals hib hv hdd =>
      obtain ⟨v', h1, h2⟩ := load_cells (P := P) (h := h) (ι := ι) ht hd vals (fun j c hc => ⟨(hv j c hc).1, (hv j c hc).2, .d (hdd j c hc)⟩) e
      exact ⟨v', by simpa [Instr.loadAt, Instr.sureAddr] using h1, h2⟩
  | ptr id ver row off =>
    cases hr with
    | d hd => cases hd
    | @ptr _ _ _ _ o ad ho hv hcur =>
      simp only [ldA, ho] at e
      split at e
      case isFalse => cases e
      rename_i hver
      obtain ⟨b, hb, rfl⟩ := hcur hver
      cases hrow : o.rows[row]? with
      | none => simp [hrow] at e
      | some r =>
        simp only [hrow, Option.bind_some] at e
        rcases G.obj id o ho with ⟨h0, hr0⟩ | ⟨b', c, et, hb', hc, hl, hsz, hcell⟩
        · rw [h0] at hb; cases hb
        rw [hb'] at hb
        cases hb
        have hrl := hsz r (List.mem_of_getElem? hrow)
        have hlt := (List.getElem?_eq_some_iff.1 hrow).1
        obtain ⟨v', h1, h2⟩ := load_cells (P := P) (im := im) (h := h) (ι := ι) (b := b) (off := row * o.sz + off) (cs := r.drop off) ht hd (fun j => c.getD (row * o.sz + off + j) undef) (fun j x hx => by
          rw [List.getElem?_drop] at hx
          obtain ⟨u, hu, h1c, hra⟩ := hcell row (off + j) r x hrow hx
          have hidx : row * o.sz + off + j = row * o.sz + (off + j) := by omega
          have hg : c.getD (row * o.sz + off + j) undef = u := by rw [hidx, Array.getD_eq_getD_getElem?, hu]; rfl
          rw [hg]
          refine ⟨?_, h1c, hra⟩
          simp only [World.cell?, hc, Option.isSome_none, Bool.false_eq_true, if_false, hidx, hu]) e
        exact ⟨v', by simpa [Instr.loadAt, Instr.sureAddr] using h1, h2⟩
  | _ => simp [ldA] at e
end
end Go.Ab

namespace Go.Ab
open Go
variable [Val]
/-- The new state fits. -/
def Fits (w : World) (im : Nat → Prop) (ι : Nat → Option Nat) (h : H) (v : Value) (a : A) (w' : World) (h' : H) : Prop :=
  ∃ im' ι', HRep w' im' ι' h' ∧ RepA w' im' ι' h' v a ∧ Stp w im ι h w' im' ι' h'
section
variable {P : Program} {T : Nat → TI} {w : World} {im : Nat → Prop} {ι : Nat → Option Nat} {h : H}

theorem HRep.drew (G : HRep w im ι h) : HRep w.drew im ι h ∧ Stp w im ι h w.drew im ι h := by
  have s : Stp w im ι h w.drew im ι h := { Stp.refl w im ι h with os := rfl, tape := rfl, output := rfl }
  exact ⟨G.step s (fun id o' ho => .inl ⟨ho, rfl, fun _ _ => rfl⟩) G.inj G.imLt G.fzIm, s⟩
theorem HRep.old (G : HRep w im ι h) {k b : Nat} (hk : k < h.length) (hb : ι k = some b) : b < w.heap.size := by
  rcases G.obj k _ (List.getElem?_eq_getElem hk) with ⟨h0, _⟩ | ⟨b', c', e', hb', hc', _⟩
  · rw [h0] at hb; cases hb
  · rw [hb'] at hb; cases hb; exact lt_of_heap hc'
/-- An object that is there, with its block. -/
theorem HRep.at_ (G : HRep w im ι h) {id : Nat} {o : Obj} {r : List A} (ho : h[id]? = some o) (hr : r ∈ o.rows) (hx : o.fz = false ∨ ∃ b, ι id = some b) :
    ∃ b c e, ι id = some b ∧ w.heap[b]? = some (.cells c e (0, 0)) ∧ o.rows.length * o.sz ≤ c.size ∧ (∀ r ∈ o.rows, r.length = o.sz) ∧
    ∀ (i j : Nat) r a, o.rows[i]? = some r → r[j]? = some a → ∃ v, c[i * o.sz + j]? = some v ∧ v.oneCell' = true ∧ RepA w im ι h v a := by
  rcases G.obj id o ho with ⟨hn, h0 | h0⟩ | hh
  · rw [h0] at hr; cases hr
  · rcases hx with hx | ⟨b, hx⟩
    · rw [hx] at h0; cases h0
    · rw [hn] at hx; cases hx
  · exact hh

theorem splice_length (r : List A) (off : Nat) (cs : List A) (hl : off + cs.length ≤ r.length) : (splice r off cs).length = r.length := by
  simp only [splice, List.length_append, List.length_take, List.length_drop]; omega
theorem splice_get (r : List A) (off : Nat) (cs : List A) (hl : off + cs.length ≤ r.length) (j : Nat) :
    (splice r off cs)[j]? = if off ≤ j ∧ j < off + cs.length then cs[j - off]? else r[j]? := by
  unfold splice
  rcases Nat.lt_or_ge j off with h1 | h1
  · rw [List.getElem?_append_left (by simp; omega), List.getElem?_take_of_lt h1, if_neg (by omega)]
  · rw [List.getElem?_append_right (by simp; omega), List.length_take, Nat.min_eq_left (by omega)]
    rcases Nat.lt_or_ge j (off + cs.length) with h2 | h2
    · rw [List.getElem?_append_left (by omega), if_pos ⟨h1, h2⟩]
    · rw [List.getElem?_append_right (by omega), if_neg (by omega), List.getElem?_drop]
      congr 1; omega

theorem mul_sep {i j s a b : Nat} (ha : a < s) (hb : b < s) (hne : i ≠ j) : i * s + a ≠ j * s + b := by
  intro he
  rcases Nat.lt_or_gt_of_ne hne with hlt | hlt
  · have : (i + 1) * s ≤ j * s := Nat.mul_le_mul_right _ hlt
    rw [Nat.add_mul, Nat.one_mul] at this; omega
  · have : (j + 1) * s ≤ i * s := Nat.mul_le_mul_right _ hlt
    rw [Nat.add_mul, Nat.one_mul] at this; omega

theorem stA_ok {t : TypeId} {v u : Value} {p x : A} {h' : H} (ht : TOkAt P t (T t)) (G : HRep w im ι h)
    (hr : RepA w im ι h v p) (hx : RepA w im ι h u x) (e : stA (T t).size p x h = some h') :
    ∃ w', (Instr.storeAt t v u).run P w = .ok () w' ∧ Fits w im ι h undef .dead w' h' := by
  cases p with
  | ptr id ver row off =>
    cases hc : cellsA x with
    | none => simp [stA, hc] at e
    | some cs =>
      cases hr with
      | d hd => cases hd
      | @ptr _ _ _ _ o ad ho hv hcur =>
        simp only [stA, hc, ho] at e
        split at e
        case isFalse => cases e
        rename_i hh
        obtain ⟨hver, hfz, hlen⟩ := hh
        obtain ⟨b, hb, rfl⟩ := hcur hver
        cases hrow : o.rows[row]? with
        | none => simp [hrow] at e
        | some r =>
          simp only [hrow, Option.bind_some] at e
          split at e
          case isFalse => cases e
          rename_i hle
          simp only [Option.some.injEq] at e
          subst e
          have hmem := List.mem_of_getElem? hrow
          obtain ⟨b', c, et, hb', hcells, hl, hsz, hcell⟩ := G.at_ ho hmem (.inr ⟨b, hb⟩)
          rw [hb] at hb'; cases hb'
          obtain ⟨k1, k2, k3⟩ := cellsA_rep hx hc
          have hrl := hsz r hmem
          have hrowlt := (List.getElem?_eq_some_iff.1 hrow).1
          have hrs : row * o.sz + o.sz ≤ o.rows.length * o.sz := by rw [← Nat.succ_mul]; exact Nat.mul_le_mul_right _ hrowlt
          let c' : Array Value := (c.toList.take (row * o.sz + off) ++ u.cells.toList ++ c.toList.drop (row * o.sz + off + u.cells.toList.length)).toArray
          have hus : u.cells.toList.length = (T t).size := by rw [Array.length_toList, k1, hlen]
          have hc's : c'.size = c.size := by
            simp only [c', List.size_toArray, List.length_append, List.length_take, List.length_drop, Array.length_toList] at hus ⊢
            omega
          have hget : ∀ q, c'[q]? = if row * o.sz + off ≤ q ∧ q < row * o.sz + off + (T t).size then u.cells[q - (row * o.sz + off)]? else c[q]? := fun q => by
            simp only [c', List.getElem?_toArray]
            rcases Nat.lt_or_ge q (row * o.sz + off) with h1 | h1
            · rw [if_neg (by omega), List.append_assoc, List.getElem?_append_left (by simp; omega), List.getElem?_take_of_lt h1, Array.getElem?_toList]
            · rcases Nat.lt_or_ge q (row * o.sz + off + (T t).size) with h2 | h2
              · rw [if_pos ⟨h1, h2⟩, List.append_assoc, List.getElem?_append_right (by simp; omega), List.getElem?_append_left (by simp only [List.length_take, Array.length_toList] at hus ⊢; omega)]
                simp only [List.length_take, Array.length_toList, Array.getElem?_toList]
                congr 1; omega
              · rw [if_neg (by omega), List.getElem?_append_right (by simp only [List.length_append, List.length_take, Array.length_toList] at hus ⊢; omega), List.getElem?_drop, Array.getElem?_toList]
                congr 1
                simp only [List.length_append, List.length_take, Array.length_toList] at hus ⊢; omega
          have hrun : (Instr.storeAt t (.pointer (some ⟨b, row * o.sz + off, none⟩)) u).run P w = .ok () (w.setRow b c') := by
            have hst := run_storeCells_at P b (row * o.sz + off) et u.cells.toList 0 c w hcells (by rw [hus]; omega) (fun y hy => by
              obtain ⟨i, hi, rfl⟩ := List.mem_iff_getElem.1 hy
              exact k2 i _ (by rw [← Array.getElem?_toList]; exact List.getElem?_eq_getElem hi))
            simp only [Nat.add_zero] at hst
            have hsize : u.cells.size = (T t).size := by rw [k1, hlen]
            simp only [Instr.storeAt, Instr.sureAddr, Sem.run_bind, Sem.run_pure, Result.andThen_ok, storeVar, ht.size, hsize, ne_eq, not_true_eq_false, if_false, c', hst]
          have hw := G.write (c' := c') ho hfz hb hcells hc's (o.rows.set row (splice r off cs)) (by simp) (by rw [List.length_set, hc's]; exact hl)
            (fun r' hr' => by
              rcases List.mem_or_eq_of_mem_set hr' with hm | rfl
              · exact hsz r' hm
              · rw [splice_length r off cs (by omega)]; exact hrl)
            (fun i j r' a h1 h2 => by
              rw [List.getElem?_set] at h1
              split at h1
              · rename_i hi
                subst hi
                simp only [Option.some.injEq] at h1
                subst h1
                rw [splice_get r off cs (by omega)] at h2
                rw [hget]
                split at h2
                · rename_i hjj
                  rw [if_pos (by omega)]
                  have hlt : j - off < cs.length := (List.getElem?_eq_some_iff.1 h2).1
                  have hidx : row * o.sz + j - (row * o.sz + off) = j - off := by omega
                  rw [hidx]
                  have hlt' : j - off < u.cells.size := by rw [k1]; exact hlt
                  exact ⟨u.cells[j - off], Array.getElem?_eq_getElem hlt', k2 _ _ (Array.getElem?_eq_getElem hlt'), k3 _ _ _ (Array.getElem?_eq_getElem hlt') h2⟩
                · rename_i hjj
                  rw [if_neg (by omega)]
                  exact hcell row j r a hrow h2
              · rename_i hi
                rw [hget]
                have hr'l := hsz r' (List.mem_of_getElem? h1)
                have hjl := (List.getElem?_eq_some_iff.1 h2).1
                rw [if_neg]
                · exact hcell i j r' a h1 h2
                · intro hq
                  have h3 : i * o.sz + j < row * o.sz + o.sz := by omega
                  have hlt : i < row ∨ row < i := by omega
                  rcases hlt with hlt | hlt
                  · have : (i + 1) * o.sz ≤ row * o.sz := Nat.mul_le_mul_right _ hlt
                    rw [Nat.add_mul, Nat.one_mul] at this; omega
                  · have : (row + 1) * o.sz ≤ i * o.sz := Nat.mul_le_mul_right _ hlt
                    rw [Nat.add_mul, Nat.one_mul] at this; omega)
          exact ⟨_, hrun, im, ι, hw.1, .dead _, hw.2⟩
  | _ => cases hc : cellsA x <;> simp [stA] at e

theorem lenA_ok {t et : Nat} {v : Value} {a a' : A} (ht : TOkAt P t (T t)) (hd : (T t).d = .slice et) {ty : TypeId} (hr : RepA w im ι h v a) (e : lenA a = some a') :
    ∃ v', (Builtin.len_ #[t] ty #[v]).run P w = .ok v' w ∧ RepA w im ι h v' a' := by
  have hu : P.underlying t = some (.slice et) := by have := ht.d; rwa [hd] at this
  have run : ∀ ad n c, (Builtin.len_ #[t] ty #[.slice ad n c]).run P w = .ok (.int .i64 n) w := fun ad n c => by
    simp [Builtin.len_, run_underlying hu, goInt]
  cases a with
  | imm rows =>
    simp only [lenA, Option.some.injEq] at e
    subst e
    rcases hr.imm.imm_at with ⟨ad, cap, rfl, rfl⟩ | ⟨b, off, cap, sz, vals, rfl, _⟩
    · exact ⟨_, run _ _ _, .d (.int _ _)⟩
    · exact ⟨_, run _ _ _, .d (.int _ _)⟩
  | own id off len =>
    simp only [lenA, Option.some.injEq] at e
    subst e
    cases hr with
    | d hd => cases hd
    | own => exact ⟨_, run _ _ _, .d (.int _ _)⟩
  | nils =>
    simp only [lenA, Option.some.injEq] at e
    subst e
    cases hr with
    | d hd => cases hd
    | nils => exact ⟨_, run _ _ _, .d (.int _ _)⟩
  | _ => simp [lenA] at e

theorem capA_ok {t et : Nat} {v : Value} {a a' : A} (ht : TOkAt P t (T t)) (hd : (T t).d = .slice et) {ty : TypeId} (hr : RepA w im ι h v a) (e : capA a = some a') :
    ∃ v', (Builtin.cap_ #[t] ty #[v]).run P w = .ok v' w ∧ RepA w im ι h v' a' := by
  have hu : P.underlying t = some (.slice et) := by have := ht.d; rwa [hd] at this
  have run : ∀ ad n c, (Builtin.cap_ #[t] ty #[.slice ad n c]).run P w = .ok (.int .i64 c) w := fun ad n c => by
    simp [Builtin.cap_, run_underlying hu, goInt]
  cases a with
  | nils =>
    simp only [capA, Option.some.injEq] at e
    subst e
    cases hr with
    | d hd => cases hd
    | nils => exact ⟨_, run _ _ _, .d (.int _ _)⟩
  | _ => simp [capA] at e
/-- The rows that a slice reads as, with their cells. -/
theorem rowsA_ok {v : Value} {a : A} {rows : List (List A)} {sz : Nat} (G : HRep w im ι h) (hr : RepA w im ι h v a) (e : rowsA a h = some rows)
    (hz : rows.all (fun r => r.length == sz) = true) : ∃ ad cap, v = .slice ad rows.length cap ∧ rows.length ≤ cap ∧ (rows = [] ∨ ∃ b off, ad = some ⟨b, off, none⟩ ∧
      ∃ vals : Nat → Value, ∀ (i j : Nat) r c, rows[i]? = some r → r[j]? = some c → w.cell? ⟨b, off + (i * sz + j), none⟩ = some (vals (i * sz + j)) ∧ (vals (i * sz + j)).oneCell' = true ∧ RepA w im ι h (vals (i * sz + j)) c) := by
  have hz' : ∀ r ∈ rows, r.length = sz := fun r hr => by simpa using List.all_eq_true.1 hz r hr
  cases a with
  | imm rs =>
    simp only [rowsA, Option.some.injEq] at e
    subst e
    rcases hr.imm.imm_at with ⟨ad, cap, rfl, rfl⟩ | ⟨b, off, cap, sz', vals, rfl, hc, hib, hsz, hv, ho, hd⟩
    · exact ⟨ad, cap, rfl, Nat.zero_le _, .inl rfl⟩
    · refine ⟨_, cap, rfl, hc, ?_⟩
      cases hrs : rs with
      | nil => exact .inl rfl
      | cons r0 rest =>
        rw [← hrs]
        have hse : sz' = sz := by rw [← hsz r0 (by rw [hrs]; simp), hz' r0 (by rw [hrs]; simp)]
        subst hse
        refine .inr ⟨b, off, rfl, fun q => (w.cell? ⟨b, off + q, none⟩).getD undef, fun i j r c h1 h2 => ?_⟩
        have h3 := hv i j r c h1 h2
        simp only [h3, Option.getD_some]
        exact ⟨trivial, ho i j r c h1 h2, .d (hd i j r c h1 h2)⟩
  | nils =>
    simp only [rowsA, Option.some.injEq] at e
    subst e
    cases hr with
    | d hd => cases hd
    | nils ad => exact ⟨ad, 0, rfl, Nat.zero_le _, .inl rfl⟩
  | own id off len =>
    cases hr with
    | d hd => cases hd
    | @own _ _ _ o ad cap ho hl hc hcur =>
      simp only [rowsA, ho] at e
      split at e
      case isFalse => cases e
      rename_i hlen
      simp only [Option.some.injEq] at e
      subst e
      refine ⟨ad, cap, by rw [List.length_drop, ← hlen]; congr 1; omega, by rw [List.length_drop]; omega, ?_⟩
      rcases hcur hlen with h0 | ⟨b, hb, rfl, hcap⟩
      · left; apply List.eq_nil_of_length_eq_zero; rw [List.length_drop]; omega
      · cases hrs : o.rows.drop off with
        | nil => exact .inl rfl
        | cons r0 rest =>
          rw [← hrs]
          have hm0 : r0 ∈ o.rows := List.mem_of_mem_drop (by rw [hrs]; simp)
          obtain ⟨b', c, et, hb', hcells, hl', hsz, hcell⟩ := G.at_ ho hm0 (.inr ⟨b, hb⟩)
          rw [hb] at hb'; cases hb'
          have hse : o.sz = sz := by rw [← hsz r0 hm0, hz' r0 (by rw [hrs]; simp)]
          subst hse
          refine .inr ⟨b, _, rfl, fun q => c.getD (off * o.sz + q) undef, fun i j r x h1 h2 => ?_⟩
          rw [List.getElem?_drop] at h1
          obtain ⟨u, hu, h1c, hra⟩ := hcell (off + i) j r x h1 h2
          have hidx : off * o.sz + (i * o.sz + j) = (off + i) * o.sz + j := by rw [Nat.add_mul, Nat.add_assoc]
          have hg : c.getD (off * o.sz + (i * o.sz + j)) undef = u := by rw [hidx, Array.getD_eq_getD_getElem?, hu]; rfl
          simp only [hg]
          refine ⟨?_, h1c, hra⟩
          simp only [World.cell?, hcells, Option.isSome_none, Bool.false_eq_true, if_false, hidx, hu]
  | _ => simp [rowsA] at e
end
end Go.Ab

namespace Go.Ab
open Go
variable [Val]
section
variable {P : Program} {T : Nat → TI} {w : World} {im : Nat → Prop} {ι : Nat → Option Nat} {h : H}

theorem Fits.same (G : HRep w im ι h) {v : Value} {a : A} (hr : RepA w im ι h v a) : Fits w im ι h v a w h := ⟨im, ι, G, hr, Stp.refl _ _ _ _⟩

theorem sliA_ok {t et : Nat} {v : Value} {a a' : A} {lo hi : Option A} {vlo vhi : Option Value} (ht : TOkAt P t (T t)) (hd : (T t).d = .slice et) (he : TOkAt P et (T et))
    (hr : RepA w im ι h v a) (hlo : ∀ x, lo = some x → ∃ u, vlo = some u ∧ RepA w im ι h u x) (hlo' : lo = none → vlo = none)
    (hhi : ∀ x, hi = some x → ∃ u, vhi = some u ∧ RepA w im ι h u x) (hhi' : hi = none → vhi = none)
    (e : sliA (T et).size a lo hi h = some a') : ∃ v', (Instr.sliceAt t v vlo vhi none).run P w = .ok v' w ∧ RepA w im ι h v' a' := by
  have hu : P.underlying t = some (.slice et) := by have := ht.d; rwa [hd] at this
  -- the bounds
  have hI : ∀ (o : Option A) (vo : Option Value) (r : Option Int), (∀ x, o = some x → ∃ u, vo = some u ∧ RepA w im ι h u x) → (o = none → vo = none) → optI o = some r →
      (r = none ∧ vo = none) ∨ ∃ k n, r = some n ∧ vo = some (.int k n) := fun o vo r h1 h2 h3 => by
    cases o with
    | none => simp only [optI, Option.some.injEq] at h3; exact .inl ⟨h3.symm, h2 rfl⟩
    | some x =>
      cases x with
      | int k n =>
        simp only [optI, Option.some.injEq] at h3
        obtain ⟨u, hu, hru⟩ := h1 _ rfl
        exact .inr ⟨k, n, h3.symm, by rw [hu, hru.int]⟩
      | _ => simp [optI] at h3
  simp only [sliA] at e
  cases h1 : optI lo with
  | none => simp [h1] at e
  | some l =>
    cases h2 : optI hi with
    | none => simp [h1, h2] at e
    | some u =>
      simp only [h1, h2, Option.bind_some] at e
      have run : ∀ (ad : Option Addr) (len cap : Nat), len ≤ cap → 0 ≤ l.getD 0 → l.getD 0 ≤ u.getD len → u.getD len ≤ len →
          (Instr.sliceAt t (.slice ad len cap) vlo vhi none).run P w =
            .ok (.slice (if cap = (l.getD 0).toNat then ad else ad.map (·.add ((l.getD 0).toNat * (T et).size))) ((u.getD len).toNat - (l.getD 0).toNat) (cap - (l.getD 0).toNat)) w := fun ad len cap hc hl0 hlu hul => by
        rcases hI lo vlo l hlo hlo' h1 with ⟨rfl, rfl⟩ | ⟨kl, nl, rfl, rfl⟩ <;> rcases hI hi vhi u hhi hhi' h2 with ⟨rfl, rfl⟩ | ⟨kh, nh, rfl, rfl⟩
        · simp [Instr.sliceAt, run_underlying hu, Instr.slice, Instr.sliceBounds, he.size]
        · simp only [Option.getD_none, Option.getD_some] at hl0 hlu hul
          have c2 : nh ≤ (cap : Int) := by omega
          simp [Instr.sliceAt, run_underlying hu, Instr.slice, Instr.sliceBounds, Instr.sliceBound, asIntOf, he.size, hlu, c2]
        · simp only [Option.getD_none, Option.getD_some] at hl0 hlu hul
          simp [Instr.sliceAt, run_underlying hu, Instr.slice, Instr.sliceBounds, Instr.sliceBound, asIntOf, he.size, hlu, hl0]
        · simp only [Option.getD_some] at hl0 hlu hul
          have c2 : nh ≤ (cap : Int) := by omega
          have c3 : nl ≤ (nh.toNat : Int) := by omega
          have c4 : 0 ≤ nh := by omega
          simp [Instr.sliceAt, run_underlying hu, Instr.slice, Instr.sliceBounds, Instr.sliceBound, asIntOf, he.size, hl0, c2, c4]
          intro hx; omega
      cases a with
      | imm rows =>
        simp only at e
        split at e
        case isFalse => cases e
        rename_i hh
        obtain ⟨hall, hl0, hlu, hul⟩ := hh
        simp only [Option.some.injEq] at e
        subst e
        have hz : ∀ r ∈ rows, r.length = (T et).size := fun r hr => by simpa using List.all_eq_true.1 hall r hr
        rcases hr.imm.imm_at with ⟨ad, cap, rfl, rfl⟩ | ⟨b, off, cap, sz, vals, rfl, hc, hib, hsz, hv, ho, hdd⟩
        · have hl00 : (l.getD 0) = 0 := by simp at hul hlu; omega
          have hu00 : (u.getD 0) = 0 := by simp at hul hlu; omega
          refine ⟨_, run _ _ _ (Nat.zero_le _) hl0 hlu hul, ?_⟩
          simp only [List.length_nil, Int.natCast_zero] at hu00 ⊢
          simp only [hl00, hu00, Int.toNat_zero, Nat.sub_self, List.take_nil, List.drop_nil]
          exact .d (.imm0 _ _)
        · refine ⟨_, run _ _ _ hc hl0 hlu hul, ?_⟩
          generalize hL : (l.getD 0).toNat = L
          generalize hU : (u.getD (rows.length : Int)).toNat = U
          have hLU : L ≤ U := by omega
          have hUn : U ≤ rows.length := by omega
          have hlen : ((rows.take U).drop L).length = U - L := by simp; omega
          rcases Nat.eq_zero_or_pos (U - L) with h0 | hpos
          · have : (rows.take U).drop L = [] := List.eq_nil_of_length_eq_zero (by omega)
            rw [this, h0]
            exact .d (.imm0 _ _)
          · rw [if_neg (by omega)]
            simp only [Option.map_some, Addr.add_plain]
            rw [← hlen]
            have hse : sz = (T et).size := by
              have h0 : rows[L]? = some rows[L] := List.getElem?_eq_getElem (by omega)
              rw [← hsz _ (List.mem_of_getElem? h0), hz _ (List.mem_of_getElem? h0)]
            have get : ∀ i, ((rows.take U).drop L)[i]? = if L + i < U then rows[L + i]? else none := fun i => by
              rw [List.getElem?_drop, List.getElem?_take]
            refine .d (.imm b _ _ _ sz _ (fun i j => vals (L + i) j) rfl (by omega) hib (fun r hr => hsz r (List.mem_of_mem_take (List.mem_of_mem_drop hr))) (fun i j r c h3 h4 => ?_) (fun i j r c h3 h4 => ?_) (fun i j r c h3 h4 => ?_))
            · rw [get] at h3
              split at h3
              case isFalse => cases h3
              have := hv _ j r c h3 h4
              rw [← this]
              congr 2
              rw [← hse, Nat.add_mul]; omega
            · rw [get] at h3
              split at h3
              case isFalse => cases h3
              exact ho _ j r c h3 h4
            · rw [get] at h3
              split at h3
              case isFalse => cases h3
              exact hdd _ j r c h3 h4
      | own id off len =>
        cases hr with
        | d hd => cases hd
        | @own _ _ _ o ad cap ho hl hc hcur =>
          simp only [ho] at e
          split at e
          case isFalse => cases e
          rename_i hh
          obtain ⟨hsz, hlen, hl0, hll, huu⟩ := hh
          simp only [Option.some.injEq] at e
          subst e
          refine ⟨_, run _ _ _ hc hl0 (by omega) (by omega), ?_⟩
          rw [huu]
          generalize hL : (l.getD 0).toNat = L
          have hLl : L ≤ len := by omega
          rw [Int.toNat_natCast]
          rcases hcur hlen with h0 | ⟨b, hb, rfl, hcap⟩
          · exact .own ho (by omega) (by omega) fun _ => .inl (by omega)
          · refine .own ho (by omega) (by omega) fun _ => ?_
            by_cases hcl : cap = L
            · left; omega
            · right
              refine ⟨b, hb, ?_, fun c e f hcell => ?_⟩
              · rw [if_neg hcl]; simp only [Option.map_some, Addr.add_plain, hsz, Nat.add_mul]
              · have := hcap c e f hcell
                have e2 : off + L + (cap - L) = off + cap := by omega
                rw [e2]; exact this
      | nils =>
        simp only at e
        split at e
        case isFalse => cases e
        rename_i hh
        simp only [Option.some.injEq] at e
        subst e
        cases hr with
        | d hd => cases hd
        | nils ad =>
          refine ⟨_, run _ _ _ (Nat.le_refl _) (by omega) ?_ ?_, ?_⟩
          · have : (u.getD ((0 : Nat) : Int)) = 0 := hh.2
            omega
          · have : (u.getD ((0 : Nat) : Int)) = 0 := hh.2
            omega
          · have h3 : (u.getD ((0 : Nat) : Int)) = 0 := hh.2
            simp only [hh.1, h3, Int.toNat_zero, Nat.sub_self]
            exact .nils _
      | _ => simp at e

/-! append -/
/-- Nothing appended. -/
theorem run_append_zero (w : World) (t ty et : TypeId) (i : TypeInfo) (ht : P.underlying t = some (.slice et)) (hi : P.info? et = some i) (ad : Option Addr) (n cap : Nat) (hc : n ≤ cap) (bd : Option Addr) (c : Nat) :
    (Builtin.append_ #[t, t] ty #[.slice ad n cap, .slice bd 0 c]).run P w = .ok (.slice ad n cap) w := by
  have hf : (Builtin.firstCells i.size 0 (.slice bd 0 c)).run P w = .ok #[] w := by
    cases bd with
    | none => simp [Builtin.firstCells]
    | some b => simpa using run_firstCells_some (P := P) w i.size 0 b 0 c [] (by simp) (fun j v hv => by simp at hv)
  cases ad with
  | none => simp [Builtin.append_, run_underlying ht, sizeOf, typeInfo, hi, Builtin.lenOf, hc, hf]
  | some a => simp [Builtin.append_, run_underlying ht, sizeOf, typeInfo, hi, Builtin.lenOf, hc, hf, storeCells]
theorem run_append_room' (w : World) (t ty et : TypeId) (i : TypeInfo) (ht : P.underlying t = some (.slice et)) (hi : P.info? et = some i)
    (g off sLen sCap : Nat) (cur : Array Value) (hg : w.heap[g]? = some (.cells cur et (0, 0)))
    (a : Addr) (m c : Nat) (news : List Value) (hl : news.length = m * i.size) (hnews : ∀ (j : Nat) u, news[j]? = some u → w.cell? (a.add j) = some u) (h1 : ∀ u ∈ news, u.oneCell' = true)
    (hroom : sLen + m ≤ sCap) (hfit : off + sLen * i.size + news.length ≤ cur.size) :
    (Builtin.append_ #[t, t] ty #[.slice (some ⟨g, off, none⟩) sLen sCap, .slice (some a) m c]).run P w =
      .ok (.slice (some ⟨g, off, none⟩) (sLen + m) sCap) (w.setRow g (cur.toList.take (off + sLen * i.size) ++ news ++ cur.toList.drop (off + sLen * i.size + news.length)).toArray) := by
  have hf := run_firstCells_some (P := P) w i.size m a m c news hl hnews
  have hst := run_storeCells_at P g (off + sLen * i.size) et news 0 cur w hg (by simpa using hfit) h1
  simp only [Nat.add_zero] at hst
  simp [Builtin.append_, run_underlying ht, sizeOf, typeInfo, hi, Builtin.lenOf, hroom, hf, Addr.add_plain, hst]

/-- The flat cells of rows. -/
theorem flat_get (rows : List (List A)) (sz : Nat) (hz : ∀ r ∈ rows, r.length = sz) (vals : Nat → Value) :
    ((List.range (rows.length * sz)).map vals).length = rows.length * sz ∧ ∀ (j : Nat) u, ((List.range (rows.length * sz)).map vals)[j]? = some u → j < rows.length * sz ∧ u = vals j := by
  refine ⟨by simp, fun j u hj => ?_⟩
  rw [List.getElem?_map] at hj
  have hlt : j < rows.length * sz := by
    rcases Nat.lt_or_ge j (rows.length * sz) with h | h
    · exact h
    · rw [List.getElem?_eq_none (by simpa using h)] at hj; simp at hj
  rw [List.getElem?_range hlt] at hj
  simp at hj
  exact ⟨hlt, hj.symm⟩
theorem cell_of_flat {rows : List (List A)} {sz : Nat} (hz : ∀ r ∈ rows, r.length = sz) {j : Nat} (hj : j < rows.length * sz) :
    ∃ r c, rows[j / sz]? = some r ∧ r[j % sz]? = some c ∧ j / sz * sz + j % sz = j := by
  have hpos : 0 < sz := by
    rcases Nat.eq_zero_or_pos sz with h | h
    · subst h; simp at hj
    · exact h
  have h1 : j / sz < rows.length := Nat.div_lt_of_lt_mul (by rw [Nat.mul_comm]; exact hj)
  have h2 : j % sz < sz := Nat.mod_lt _ hpos
  have h3 : rows[j / sz].length = sz := hz _ (List.getElem_mem h1)
  exact ⟨rows[j / sz], rows[j / sz][j % sz]'(by omega), List.getElem?_eq_getElem h1, List.getElem?_eq_getElem (by omega), by rw [Nat.mul_comm]; exact Nat.div_add_mod j sz⟩

/-- More than has room: a new block. -/
theorem run_append_new (w : World) (t ty et : TypeId) (i : TypeInfo) (z : Value) (ht : P.underlying t = some (.slice et)) (hi : P.info? et = some i) (hz : i.zero = some z) (hzs : z.cells.size = i.size)
    (ad : Option Addr) (n cap : Nat) (hn : n ≤ cap) (hnone : ad = none → cap = 0) (olds : List Value) (hlo : olds.length = n * i.size) (holds : ∀ b, ad = some b → ∀ (j : Nat) v, olds[j]? = some v → w.cell? (b.add j) = some v)
    (a : Addr) (m c : Nat) (news : List Value) (hl : news.length = m * i.size) (hnews : ∀ (j : Nat) v, news[j]? = some v → w.cell? (a.add j) = some v)
    (hg : cap < n + m) (h63 : n + m ≤ 140737488355328) (hb : (n + m) * i.bytes ≤ 140737488355328) :
    ∃ cap' rest, (Builtin.append_ #[t, t] ty #[.slice ad n cap, .slice (some a) m c]).run P w = .ok (.slice (some ⟨w.heap.size, 0, none⟩) (n + m) cap') (w.drew.alloc (.cells (olds.toArray ++ news.toArray ++ rest) et)) ∧
      n + m ≤ cap' ∧ (olds.toArray ++ news.toArray ++ rest).size = cap' * i.size := by
  cases ad with
  | none =>
    have hc0 := hnone rfl
    subst hc0
    obtain rfl : n = 0 := by omega
    obtain rfl : olds = [] := List.eq_nil_of_length_eq_zero (by simpa using hlo)
    have hr := run_append_nil (P := P) w t ty et i z ht hi hz a m c news hl hnews (by omega) (by omega) (by simp only [Nat.zero_add] at hb; omega)
    refine ⟨_, Builtin.zeroCells z.cells (grownCap w m 0 et - m), by simpa using hr, by simpa using grownCap_ge w m 0 et, ?_⟩
    have hge := grownCap_ge w m 0 et
    simp only [Array.size_append, List.size_toArray, List.length_nil, hl, size_zeroCells, hzs, Nat.zero_add, ← Nat.add_mul]
    congr 1; omega
  | some b =>
    have hr := run_append_grow (P := P) w t ty et i z ht hi hz b n cap olds hlo (holds b rfl) a m c news hl hnews hg (by omega) (growslice_fits hg hb)
    have hge := grownCap_ge w (n + m) cap et
    refine ⟨_, _, hr, hge, ?_⟩
    simp only [Array.size_append, List.size_toArray, hlo, hl, size_zeroCells, hzs, ← Nat.add_mul]
    congr 1; omega

theorem appA_ok {t et : Nat} {v u : Value} {x y a' : A} {h' : H} {ty : TypeId} (ht : TOkAt P t (T t)) (hd : (T t).d = .slice et) (he : TOkAt P et (T et)) (G : HRep w im ι h)
    (hr : RepA w im ι h v x) (hy : RepA w im ι h u y) (e : appA (T et).size (T et).bytes x y h = some (a', h')) :
    ∃ v' w', (Builtin.append_ #[t, t] ty #[v, u]).run P w = .ok v' w' ∧ Fits w im ι h v' a' w' h' := by
  have hu : P.underlying t = some (.slice et) := by have := ht.d; rwa [hd] at this
  obtain ⟨i, hi, his, hib, z, hz0, hzs, hxz, _, _⟩ := he.info
  simp only [appA] at e
  cases hrows : rowsA y h with
  | none => simp [hrows] at e
  | some ys =>
    simp only [hrows, Option.bind_some] at e
    split at e
    case isFalse => cases e
    rename_i hall
    obtain ⟨hall, hpos, hbpos⟩ := hall
    have hz : ∀ r ∈ ys, r.length = (T et).size := fun r hr => by simpa using List.all_eq_true.1 hall r hr
    obtain ⟨yad, ycap, rfl, hyc, hycells⟩ := rowsA_ok G hy hrows hall
    -- the new cells
    have hnew : ys = [] ∨ ∃ (ya : Addr) (news : List Value), yad = some ya ∧ news.length = ys.length * i.size ∧ (∀ (j : Nat) q, news[j]? = some q → w.cell? (ya.add j) = some q) ∧ (∀ q ∈ news, q.oneCell' = true) ∧
        ∀ (a b : Nat) r c, ys[a]? = some r → r[b]? = some c → ∃ q, news[a * (T et).size + b]? = some q ∧ q.oneCell' = true ∧ RepA w im ι h q c := by
      rcases hycells with h0 | ⟨b, off, rfl, vals, hv⟩
      · exact .inl h0
      · obtain ⟨f1, f2⟩ := flat_get ys (T et).size hz vals
        refine .inr ⟨_, _, rfl, by rw [his]; exact f1, fun j q hq => ?_, fun q hq => ?_, fun a b' r c h1 h2 => ?_⟩
        · obtain ⟨hlt, rfl⟩ := f2 j q hq
          obtain ⟨r, c, g1, g2, g3⟩ := cell_of_flat hz hlt
          have := (hv _ _ r c g1 g2).1
          rw [g3] at this
          rw [Addr.add_plain]; exact this
        · obtain ⟨j, hj, rfl⟩ := List.mem_iff_getElem.1 hq
          obtain ⟨hlt, hq2⟩ := f2 j _ (List.getElem?_eq_getElem hj)
          obtain ⟨r, c, g1, g2, g3⟩ := cell_of_flat hz hlt
          have := (hv _ _ r c g1 g2).2.1
          rw [g3] at this
          rw [hq2]; exact this
        · have hbl : b' < (T et).size := by rw [← hz r (List.mem_of_getElem? h1)]; exact (List.getElem?_eq_some_iff.1 h2).1
          have hal : a < ys.length := (List.getElem?_eq_some_iff.1 h1).1
          have hlt : a * (T et).size + b' < ys.length * (T et).size := by
            have : (a + 1) * (T et).size ≤ ys.length * (T et).size := Nat.mul_le_mul_right _ hal
            rw [Nat.add_mul, Nat.one_mul] at this; omega
          refine ⟨vals (a * (T et).size + b'), ?_, (hv a b' r c h1 h2).2⟩
          rw [List.getElem?_map, List.getElem?_range hlt]; rfl
    -- nothing is appended
    have zero : ∀ (ad : Option Addr) (n cap : Nat), n ≤ cap → ys = [] → (Builtin.append_ #[t, t] ty #[.slice ad n cap, .slice yad ys.length ycap]).run P w = .ok (.slice ad n cap) w := fun ad n cap hc h0 => by
      subst h0
      exact run_append_zero w t ty et i hu hi ad n cap hc yad ycap
    have h63 : ∀ n : Nat, n * (T et).bytes ≤ 2 ^ 46 → n ≤ 70368744177664 := fun n hn => Nat.le_trans (Nat.le_mul_of_pos_right _ hbpos) hn
    cases x with
    | nils =>
      simp only at e
      split at e
      case isFalse => cases e
      rename_i hbytes
      simp only [Option.some.injEq, Prod.mk.injEq] at e
      obtain ⟨rfl, rfl⟩ := e
      cases hr with
      | d hd => cases hd
      | nils ad =>
        by_cases hm : ys = []
        · subst hm
          obtain ⟨G', s⟩ := G.pushNone (T et).size
          refine ⟨_, w, zero _ _ _ (Nat.le_refl _) rfl, im, _, G', ?_, s⟩
          exact .own (o := ⟨(T et).size, false, []⟩) (by simp) (by simp) (Nat.le_refl _) fun _ => .inl rfl
        · obtain ⟨ya, news, rfl, hl, hcell, h1c, hrep⟩ := hnew.resolve_left hm
          have hmp : 0 < ys.length := List.length_pos_iff.2 hm
          obtain ⟨Gd, sd⟩ := G.drew
          have hb47 := h63 _ hbytes
          obtain ⟨cap, rest, hrun, hcap, hsize⟩ := run_append_new (P := P) w t ty et i z hu hi hz0 (by rw [hzs, ← hxz, his]) ad 0 0 (Nat.le_refl _) (fun _ => rfl) [] (by simp) (fun b _ j v hv => by simp at hv) ya ys.length ycap news hl hcell (by omega) (by omega) (by rw [Nat.zero_add, hib]; omega)
          simp only [Nat.zero_add] at hrun hcap
          have hp := Gd.push (w := w.drew) ⟨(T et).size, false, ys⟩ (#[] ++ news.toArray ++ rest) et rfl (by simp only [Array.size_append, List.size_toArray, hl, his]; simp) hz (fun a b r c h1 h2 => by
            obtain ⟨q, q1, q2, q3⟩ := hrep a b r c h1 h2
            refine ⟨q, ?_, q2, q3.mono G sd⟩
            rw [Array.empty_append, Array.getElem?_append_left (by rw [List.size_toArray]; exact (List.getElem?_eq_some_iff.1 q1).1)]
            rw [List.getElem?_toArray]; exact q1)
          refine ⟨_, _, hrun, im, _, hp, ?_, sd.trans (Stp.push Gd ⟨(T et).size, false, ys⟩ _ rfl)⟩
          refine .own (o := ⟨(T et).size, false, ys⟩) (by simp) (by simp) hcap fun _ => .inr ⟨w.heap.size, upd_self _ _ _, by simp, fun c e f hcell => ?_⟩
          have := heap_alloc_new' w.drew (.cells (#[] ++ news.toArray ++ rest) et)
          rw [show w.drew.heap.size = w.heap.size from rfl] at this
          rw [this] at hcell
          cases hcell
          rw [hsize, his]; simp
    | own id off len =>
      cases hr with
      | d hd => cases hd
      | @own _ _ _ o ad cap ho hl0 hc hcur =>
        simp only [ho] at e
        split at e
        case isFalse => cases e
        rename_i hh
        obtain ⟨hosz, hfz, hoff, hlen0, hbytes⟩ := hh
        subst hoff
        have hlen : 0 + len = o.rows.length := by omega
        clear hlen0
        simp only [Option.some.injEq, Prod.mk.injEq] at e
        obtain ⟨rfl, rfl⟩ := e
        have hidlt := (List.getElem?_eq_some_iff.1 ho).1
        by_cases hm : ys = []
        · subst hm
          refine ⟨_, w, zero _ _ _ hc rfl, ?_⟩
          have hs : h.set id { o with rows := o.rows ++ [] } = h := by
            rw [List.append_nil]
            have : ({ o with rows := o.rows } : Obj) = o := rfl
            rw [this]
            apply List.ext_getElem?
            intro q
            rw [List.getElem?_set]
            split
            · rename_i hq; subst hq; simp only [ho]
            · rfl
          rw [hs]
          exact Fits.same G (by simpa using RepA.own ho hl0 hc hcur)
        · obtain ⟨ya, news, rfl, hl, hcell, h1c, hrep⟩ := hnew.resolve_left hm
          have hmp : 0 < ys.length := List.length_pos_iff.2 hm
          have hb47 := h63 _ hbytes
          rcases G.obj id o ho with ⟨hi0, hrows0⟩ | ⟨b, c, cet, hib0, hcells, hcl, hrsz, hcellr⟩
          · -- no block yet
            replace hrows0 : o.rows = [] := hrows0.resolve_right (by rw [hfz]; simp)
            have hc0 : cap = 0 := by
              rcases hcur hlen with h0 | ⟨b, hb, _⟩
              · exact h0
              · rw [hi0] at hb; cases hb
            subst hc0
            obtain rfl : len = 0 := by omega
            obtain ⟨Gd, sd⟩ := G.drew
            obtain ⟨cap', rest, hrun, hcap, hsize⟩ := run_append_new (P := P) w t ty et i z hu hi hz0 (by rw [hzs, ← hxz, his]) ad 0 0 (Nat.le_refl _) (fun _ => rfl) [] (by simp) (fun b _ j v hv => by simp at hv) ya ys.length ycap news hl hcell (by omega) (by omega) (by rw [hib]; omega)
            simp only [Nat.zero_add] at hrun hcap
            have ho' : w.drew.heap.size = w.heap.size := rfl
            have hp := Gd.renew (c' := #[] ++ news.toArray ++ rest) (e := et) ho hfz (o.rows ++ ys) (by simp; omega) (by rw [hrows0]; simp only [List.nil_append, Array.size_append, List.size_toArray, hl, his, hosz]; simp) (fun r hr => by
                rw [hrows0] at hr; rw [hosz]; exact hz r (by simpa using hr)) (fun a b r c h1 h2 => by
                rw [hrows0] at h1
                obtain ⟨q, q1, q2, q3⟩ := hrep a b r c (by simpa using h1) h2
                refine ⟨q, ?_, q2, q3.mono G sd⟩
                rw [hosz, Array.empty_append, Array.getElem?_append_left (by rw [List.size_toArray]; exact (List.getElem?_eq_some_iff.1 q1).1)]
                rw [List.getElem?_toArray]; exact q1)
            refine ⟨_, _, hrun, im, _, hp.1, ?_, sd.trans hp.2⟩
            rw [Nat.zero_add]
            refine .own (o := { o with rows := o.rows ++ ys }) (by simp [hidlt]) (by simp [hrows0]) hcap fun _ => .inr ⟨w.heap.size, upd_self _ _ _, by simp, fun c e f hcell => ?_⟩
            have := heap_alloc_new' w.drew (.cells (#[] ++ news.toArray ++ rest) et)
            rw [ho'] at this
            rw [this] at hcell
            cases hcell
            rw [hsize, his]; simp [hosz]
          · have hgetc : ∀ (q : Nat) u, c[q]? = some u → w.cell? ⟨b, q, none⟩ = some u := fun q u hq => by simp [World.cell?, hcells, hq]
            have hlen' : len = o.rows.length := by omega
            have hfl : o.rows.length * o.sz = len * i.size := by rw [← hlen', his, hosz]
            by_cases hroom : cap < len + ys.length
            · -- a new block
              obtain ⟨Gd, sd⟩ := G.drew
              let olds : List Value := c.toList.take (len * i.size)
              have holdl : olds.length = len * i.size := by simp only [olds, List.length_take, Array.length_toList]; omega
              have holdg : ∀ q, q < len * i.size → olds[q]? = c[q]? := fun q hq => by
                simp only [olds]; rw [List.getElem?_take_of_lt hq, Array.getElem?_toList]
              have hcn : ad = none → cap = 0 := fun hn => by
                rcases hcur hlen with h0 | ⟨b', hb', hab, _⟩
                · exact h0
                · rw [hn] at hab; cases hab
              obtain ⟨cap', rest, hrun, hcap, hsize⟩ := run_append_new (P := P) w t ty et i z hu hi hz0 (by rw [hzs, ← hxz, his]) ad len cap hc hcn olds holdl (fun ba hba j v hv => by
                have hj : j < len * i.size := by rw [← holdl]; exact (List.getElem?_eq_some_iff.1 hv).1
                rw [holdg j hj] at hv
                rcases hcur hlen with h0 | ⟨b', hb', hab, _⟩
                · have : len = 0 := by omega
                  rw [this] at hj; simp at hj
                · rw [hib0] at hb'; cases hb'
                  rw [hba] at hab; cases hab
                  rw [Addr.add_plain, Nat.zero_mul, Nat.zero_add]; exact hgetc _ _ hv) ya ys.length ycap news hl hcell (by omega) (by omega) (by rw [hib]; omega)
              have hnl : news.length = ys.length * i.size := hl
              have hcg : ∀ q, (olds.toArray ++ news.toArray ++ rest)[q]? = if q < len * i.size then c[q]? else if q < (len + ys.length) * i.size then news[q - len * i.size]? else (olds.toArray ++ news.toArray ++ rest)[q]? := fun q => by
                split
                · rename_i hq
                  rw [Array.append_assoc, Array.getElem?_append_left (by rw [List.size_toArray]; omega), List.getElem?_toArray, holdg q hq]
                · split
                  · rename_i h1 h2
                    rw [Nat.add_mul] at h2
                    rw [Array.getElem?_append_left (by rw [Array.size_append, List.size_toArray, List.size_toArray]; omega), Array.getElem?_append_right (by rw [List.size_toArray]; omega), List.size_toArray, holdl, List.getElem?_toArray]
                  · rfl
              have hp := Gd.renew (c' := olds.toArray ++ news.toArray ++ rest) (e := et) ho hfz (o.rows ++ ys) (by simp; omega) (by
                  rw [hsize, List.length_append, ← hlen', hosz, ← his]; exact Nat.mul_le_mul_right _ hcap) (fun r hr => by
                  rcases List.mem_append.1 hr with hr | hr
                  · exact hrsz r hr
                  · rw [hosz]; exact hz r hr) (fun a b' r x h1 h2 => by
                  rw [hcg]
                  rcases Nat.lt_or_ge a o.rows.length with ha | ha
                  · rw [List.getElem?_append_left ha] at h1
                    obtain ⟨q, q1, q2, q3⟩ := hcellr a b' r x h1 h2
                    have hlt : a * o.sz + b' < len * i.size := by
                      rw [← hfl]
                      have hb1 : b' < o.sz := by rw [← hrsz r (List.mem_of_getElem? h1)]; exact (List.getElem?_eq_some_iff.1 h2).1
                      have : (a + 1) * o.sz ≤ o.rows.length * o.sz := Nat.mul_le_mul_right _ ha
                      rw [Nat.add_mul, Nat.one_mul] at this; omega
                    rw [if_pos hlt]
                    exact ⟨q, q1, q2, q3.mono G sd⟩
                  · rw [List.getElem?_append_right ha] at h1
                    obtain ⟨q, q1, q2, q3⟩ := hrep (a - o.rows.length) b' r x h1 h2
                    have hql := (List.getElem?_eq_some_iff.1 q1).1
                    have heq : a * o.sz + b' = len * i.size + ((a - o.rows.length) * (T et).size + b') := by
                      rw [← hfl, hosz, ← Nat.add_assoc, ← Nat.add_mul]; congr 2; omega
                    rw [heq, if_neg (by omega), if_pos (by rw [Nat.add_mul]; omega)]
                    refine ⟨q, ?_, q2, q3.mono G sd⟩
                    rw [Nat.add_sub_cancel_left]; exact q1)
              refine ⟨_, _, hrun, im, _, hp.1, ?_, sd.trans hp.2⟩
              refine .own (o := { o with rows := o.rows ++ ys }) (by simp [hidlt]) (by simp; omega) hcap fun _ => .inr ⟨w.heap.size, upd_self _ _ _, by simp, fun c e f hcell => ?_⟩
              have := heap_alloc_new' w.drew (.cells (olds.toArray ++ news.toArray ++ rest) et)
              rw [show w.drew.heap.size = w.heap.size from rfl] at this
              rw [this] at hcell
              cases hcell
              rw [hsize, his]; simp [hosz]
            · -- in place
              obtain ⟨b', hb', hab, hcapsz⟩ := (hcur hlen).resolve_left (by omega)
              rw [hib0] at hb'; cases hb'
              subst hab
              have hcs := hcapsz _ _ _ hcells
              rw [Nat.zero_add] at hcs
              have hnl : news.length = ys.length * i.size := hl
              have hfit : len * i.size + news.length ≤ c.size := by
                rw [hnl, ← Nat.add_mul]
                refine Nat.le_trans (Nat.mul_le_mul_right _ (by omega : len + ys.length ≤ cap)) ?_
                rw [his, ← hosz]; exact hcs
              -- the block's own type
              have hrun : ∃ c', (Builtin.append_ #[t, t] ty #[.slice (some ⟨b, 0 * o.sz, none⟩) len cap, .slice (some ya) ys.length ycap]).run P w = .ok (.slice (some ⟨b, 0 * o.sz, none⟩) (len + ys.length) cap) (w.setRow b c') ∧ c'.size = c.size ∧
                  ∀ q, c'[q]? = if q < len * i.size then c[q]? else if q < len * i.size + news.length then news[q - len * i.size]? else c[q]? := by
                refine ⟨(c.toList.take (len * i.size) ++ news ++ c.toList.drop (len * i.size + news.length)).toArray, ?_, ?_, fun q => ?_⟩
                · have hst := run_storeCells_at P b (len * i.size) cet news 0 c w hcells (by omega) h1c
                  simp only [Nat.add_zero] at hst
                  have hf := run_firstCells_some (P := P) w i.size ys.length ya ys.length ycap news hl hcell
                  have hr' : len + ys.length ≤ cap := by omega
                  simp [Builtin.append_, run_underlying hu, sizeOf, typeInfo, hi, Builtin.lenOf, hr', hf, Addr.add_plain, hst]
                · simp only [List.size_toArray, List.length_append, List.length_take, List.length_drop, Array.length_toList]; omega
                · rw [List.getElem?_toArray]
                  split
                  · rename_i hq
                    rw [List.append_assoc, List.getElem?_append_left (by simp; omega), List.getElem?_take_of_lt hq, Array.getElem?_toList]
                  · split
                    · rename_i h1 h2
                      rw [List.append_assoc, List.getElem?_append_right (by simp; omega), List.getElem?_append_left (by simp only [List.length_take, Array.length_toList]; omega)]
                      congr 1
                      simp only [List.length_take, Array.length_toList]; omega
                    · rename_i h1 h2
                      rw [List.getElem?_append_right (by simp only [List.length_append, List.length_take, Array.length_toList]; omega), List.getElem?_drop, Array.getElem?_toList]
                      congr 1
                      simp only [List.length_append, List.length_take, Array.length_toList]; omega
              obtain ⟨c', hrun, hc's, hcg⟩ := hrun
              have hp := G.write (c' := c') ho hfz hib0 hcells hc's (o.rows ++ ys) (by simp) (by
                  rw [hc's, List.length_append, ← hlen', hosz, ← his, Nat.add_mul]; omega) (fun r hr => by
                  rcases List.mem_append.1 hr with hr | hr
                  · exact hrsz r hr
                  · rw [hosz]; exact hz r hr) (fun a b' r x h1 h2 => by
                  rw [hcg]
                  rcases Nat.lt_or_ge a o.rows.length with ha | ha
                  · rw [List.getElem?_append_left ha] at h1
                    have hlt : a * o.sz + b' < len * i.size := by
                      rw [← hfl]
                      have hb1 : b' < o.sz := by rw [← hrsz r (List.mem_of_getElem? h1)]; exact (List.getElem?_eq_some_iff.1 h2).1
                      have : (a + 1) * o.sz ≤ o.rows.length * o.sz := Nat.mul_le_mul_right _ ha
                      rw [Nat.add_mul, Nat.one_mul] at this; omega
                    rw [if_pos hlt]
                    exact hcellr a b' r x h1 h2
                  · rw [List.getElem?_append_right ha] at h1
                    obtain ⟨q, q1, q2, q3⟩ := hrep (a - o.rows.length) b' r x h1 h2
                    have hql := (List.getElem?_eq_some_iff.1 q1).1
                    have heq : a * o.sz + b' = len * i.size + ((a - o.rows.length) * (T et).size + b') := by
                      rw [← hfl, hosz, ← Nat.add_assoc, ← Nat.add_mul]; congr 2; omega
                    rw [heq, if_neg (by omega), if_pos (by omega)]
                    refine ⟨q, ?_, q2, q3⟩
                    rw [Nat.add_sub_cancel_left]; exact q1)
              refine ⟨_, _, hrun, im, ι, hp.1, ?_, hp.2⟩
              refine .own (o := { o with rows := o.rows ++ ys }) (by simp [hidlt]) (by simp; omega) (by omega) fun _ => .inr ⟨b, hib0, rfl, fun c2 e f hcell => ?_⟩
              rw [setRow_heap w b c c' cet (0, 0) hcells] at hcell
              cases hcell
              rw [hc's, Nat.zero_add]; exact hcs
    | _ => simp at e
end
end Go.Ab

namespace Go.Ab
open Go
variable [Val]
section
variable {P : Program} {T : Nat → TI} {w : World} {im : Nat → Prop} {ι : Nat → Option Nat} {h : H}

/-- A block that no object knows. -/
theorem HRep.more (G : HRep w im ι h) (x : Go.Obj) : HRep (w.alloc x) im ι h ∧ Stp w im ι h (w.alloc x) im ι h := by
  have old : ∀ k b, k < h.length → ι k = some b → b < w.heap.size := fun k b hk hb => by
    rcases G.obj k _ (List.getElem?_eq_getElem hk) with ⟨h0, _⟩ | ⟨b', c', e', hb', hc', _⟩
    · rw [h0] at hb; cases hb
    · rw [hb'] at hb; cases hb; exact lt_of_heap hc'
  have s : Stp w im ι h (w.alloc x) im ι h :=
    { Stp.refl w im ι h with
      os := rfl, tape := rfl, output := rfl
      size := by simp
      blk := fun b hb _ => heap_alloc_old w _ hb
      cells := fun b c e f hc => ⟨c, (heap_alloc_old w _ (lt_of_heap hc)).trans hc, rfl⟩
      imN := fun _ h => .inl h
      wr := fun b h => .inl h }
  exact ⟨G.step s (fun id o' ho' => .inl ⟨ho', rfl, fun b hb => heap_alloc_old w _ (old id b (List.getElem?_eq_some_iff.1 ho').1 hb)⟩) G.inj (fun b hb => by have := G.imLt b hb; simp; omega) G.fzIm, s⟩
/-- A value with an object of its own: at the heap's end, or where an empty one waits. -/
def Puts (w : World) (im : Nat → Prop) (ι : Nat → Option Nat) (h : H) (v : Value) (mkv : Nat → A) (w' : World) (sz : Nat) (rows : List (List A)) : Prop :=
  Fits w im ι h v (mkv h.length) w' (h ++ [⟨sz, false, rows⟩]) ∧
    ∀ (b : Nat) (o : Obj), h[b]? = some o → o.sz = sz → o.fz = false → o.rows = [] → Fits w im ι h v (mkv b) w' (h.set b ⟨sz, false, rows⟩)
/-- A new object of one row. -/
theorem push_row (G : HRep w im ι h) (vs : Array Value) (row : List A) (e : TypeId) (hl : vs.size = row.length)
    (h1 : ∀ (i : Nat) v, vs[i]? = some v → v.oneCell' = true) (hr : ∀ (i : Nat) v a, vs[i]? = some v → row[i]? = some a → RepA w im ι h v a) :
    Puts w im ι h (.pointer (some ⟨w.heap.size, 0, none⟩)) (fun b => .ptr b 1 0 0) (w.alloc (.cells vs e)) row.length [row] := by
  refine ⟨?_, fun b o ho hs hf hr0 => ?_⟩
  rotate_left
  · have hb := (List.getElem?_eq_some_iff.1 ho).1
    obtain ⟨G', s'⟩ := G.renew ho hf (c' := vs) (e := e) [row] (by rw [hr0]; simp) (by rw [hs]; simp [hl]) (by rw [hs]; simp) (fun i j r a h2 h3 => by
      have : i = 0 := by
        have := (List.getElem?_eq_some_iff.1 h2).1; simp at this; exact this
      subst this
      simp at h2; subst h2
      have hj : j < vs.size := by rw [hl]; exact (List.getElem?_eq_some_iff.1 h3).1
      exact ⟨vs[j], by simp [hj], h1 j _ (Array.getElem?_eq_getElem hj), hr j _ _ (Array.getElem?_eq_getElem hj) h3⟩)
    have he : ({ o with rows := [row] } : Obj) = ⟨row.length, false, [row]⟩ := by cases o; simp_all
    rw [he] at G' s'
    exact ⟨im, _, G', .ptr (o := ⟨row.length, false, [row]⟩) (by simp [hb]) (by simp) fun _ => ⟨w.heap.size, upd_self _ _ _, by simp⟩, s'⟩
  refine ⟨im, _, G.push ⟨row.length, false, [row]⟩ vs e rfl (by simp [hl]) (by simp) (fun i j r a h2 h3 => ?_), ?_, Stp.push G _ _ rfl⟩
  · have : i = 0 := by
      have := (List.getElem?_eq_some_iff.1 h2).1; simp at this; exact this
    subst this
    simp at h2; subst h2
    have hj : j < vs.size := by rw [hl]; exact (List.getElem?_eq_some_iff.1 h3).1
    refine ⟨vs[j], by simp [hj], h1 j _ (Array.getElem?_eq_getElem hj), hr j _ _ (Array.getElem?_eq_getElem hj) h3⟩
  · exact .ptr (o := ⟨row.length, false, [row]⟩) (by simp) (by simp) fun _ => ⟨w.heap.size, upd_self _ _ _, by simp⟩

theorem alloc_ok {t : TypeId} (ht : TOkAt P t (T t)) (G : HRep w im ι h) :
    ∃ v' w', (Instr.alloc t true (.tuple #[])).run P w = .ok v' w' ∧ Puts w im ι h v' (fun b => .ptr b 1 0 0) w' (T t).zero.length [(T t).zero] := by
  obtain ⟨z, hz, hs, h1, h2⟩ := ht.zero w
  refine ⟨.pointer (some ⟨w.heap.size, 0, none⟩), w.alloc (.cells z.cells t), ?_, push_row G z.cells _ t hs h1 fun i v a hv ha => (h2 i v a hv ha).rep⟩
  simp only [Instr.alloc, Sem.run_bind, hz, Result.andThen_ok, newVar, newRow]
  rfl
theorem box_ok {t : TypeId} {v : Value} {a : A} {cs : List A} (G : HRep w im ι h) (hr : RepA w im ι h v a) (hc : cellsA a = some cs) :
    ∃ v' w', (Instr.box t v).run P w = .ok v' w' ∧ Puts w im ι h v' (fun b => .ptr b 1 0 0) w' cs.length [cs] := by
  obtain ⟨k1, k2, k3⟩ := cellsA_rep hr hc
  refine ⟨.pointer (some ⟨w.heap.size, 0, none⟩), w.alloc (.cells v.cells t), ?_, push_row G v.cells _ t k1 k2 k3⟩
  simp only [Instr.box, newVar, newRow, Sem.run_bind]
  rfl

/-! literals -/
theorem foldl_set (vs : List Value) (off : Nat) : ∀ (k : Nat) (cs : Array Value), off + k + vs.length ≤ cs.size →
    ((vs.zipIdx k).foldl (fun cs (x : Value × Nat) => cs.setIfInBounds (off + x.2) x.1) cs).size = cs.size ∧
      ∀ q, ((vs.zipIdx k).foldl (fun cs (x : Value × Nat) => cs.setIfInBounds (off + x.2) x.1) cs)[q]? = if off + k ≤ q ∧ q < off + k + vs.length then vs[q - (off + k)]? else cs[q]? := by
  induction vs with
  | nil => intro k cs _; exact ⟨rfl, fun q => by rw [if_neg (by simp)]; rfl⟩
  | cons v vs ih =>
    intro k cs hl
    simp only [List.length_cons] at hl
    obtain ⟨h1, h2⟩ := ih (k + 1) (cs.setIfInBounds (off + k) v) (by simp; omega)
    simp only [List.zipIdx_cons, List.foldl_cons]
    refine ⟨by rw [h1]; simp, fun q => ?_⟩
    rw [h2 q]
    by_cases hq : off + (k + 1) ≤ q ∧ q < off + (k + 1) + vs.length
    · rw [if_pos hq, if_pos (by simp; omega)]
      have : q - (off + k) = q - (off + (k + 1)) + 1 := by omega
      rw [this, List.getElem?_cons_succ]
    · rw [if_neg hq]
      by_cases hq0 : q = off + k
      · subst hq0
        rw [if_pos (by simp), Nat.sub_self, List.getElem?_cons_zero]
        simp [show off + k < cs.size by omega]
      · rw [if_neg (by simp; omega), Array.getElem?_setIfInBounds_ne (by omega)]

theorem fillA_ok (place : Nat → Option (Nat × Nat)) : ∀ (parts : List (Nat × Value)) (aparts : List (Nat × Nat × A)) (cells : Array Value) (cs cs' : List A),
    parts.length = aparts.length →
    (∀ (i : Nat) p q, parts[i]? = some p → aparts[i]? = some q → place p.1 = some (q.1, q.2.1) ∧ RepA w im ι h p.2 q.2.2) →
    cells.size = cs.length → (∀ (i : Nat) v, cells[i]? = some v → v.oneCell' = true) → (∀ (i : Nat) v a, cells[i]? = some v → cs[i]? = some a → RepA w im ι h v a) →
    fillA cs aparts = some cs' → ∃ cells', Instr.fill place cells parts = some cells' ∧ cells'.size = cs'.length ∧ (∀ (i : Nat) v, cells'[i]? = some v → v.oneCell' = true) ∧
      ∀ (i : Nat) v a, cells'[i]? = some v → cs'[i]? = some a → RepA w im ι h v a := by
  intro parts
  induction parts with
  | nil =>
    intro aparts cells cs cs' hl _ h1 h2 h3 e
    cases aparts with
    | nil => simp only [fillA, Option.some.injEq] at e; subst e; exact ⟨cells, rfl, h1, h2, h3⟩
    | cons _ _ => cases hl
  | cons p parts ih =>
    intro aparts cells cs cs' hl hp h1 h2 h3 e
    cases aparts with
    | nil => cases hl
    | cons q aparts =>
      obtain ⟨off, sz, a⟩ := q
      obtain ⟨i, v⟩ := p
      obtain ⟨hpl, hra⟩ := hp 0 _ _ rfl rfl
      simp only at hpl hra
      simp only [fillA] at e
      cases hc : cellsA a with
      | none => simp [hc] at e
      | some vs =>
        simp only [hc, Option.bind_some] at e
        split at e
        case isFalse => cases e
        rename_i hh
        obtain ⟨hsz, hle⟩ := hh
        obtain ⟨k1, k2, k3⟩ := cellsA_rep hra hc
        have hvs : v.cells.toList.length = sz := by rw [Array.length_toList, k1, hsz]
        obtain ⟨f1, f2⟩ := foldl_set v.cells.toList off 0 cells (by rw [hvs, h1]; omega)
        simp only [Nat.add_zero] at f2
        have hfold : v.cells.zipIdx.foldl (fun cs (x : Value × Nat) => cs.setIfInBounds (off + x.2) x.1) cells = (v.cells.toList.zipIdx 0).foldl (fun cs (x : Value × Nat) => cs.setIfInBounds (off + x.2) x.1) cells := by
          rw [← Array.foldl_toList, Array.toList_zipIdx]
        have hcond : ¬ (v.cells.size ≠ sz ∨ off + v.cells.size > cells.size) := by rw [k1, hsz, h1]; omega
        have := ih aparts (v.cells.zipIdx.foldl (fun cs (x : Value × Nat) => cs.setIfInBounds (off + x.2) x.1) cells) (splice cs off vs) cs' (by simpa using hl)
          (fun i p q g1 g2 => hp (i + 1) p q (by simpa using g1) (by simpa using g2))
          (by rw [hfold, f1, splice_length cs off vs (by omega)]; exact h1)
          (fun i u hu => by
            rw [hfold, f2] at hu
            split at hu
            · rw [Array.getElem?_toList] at hu; exact k2 _ _ hu
            · exact h2 _ _ hu)
          (fun i u c hu hcc => by
            rw [hfold, f2, hvs] at hu
            rw [splice_get cs off vs (by omega), hsz] at hcc
            split at hu
            · rename_i hq
              rw [if_pos hq] at hcc
              rw [Array.getElem?_toList] at hu; exact k3 _ _ _ hu hcc
            · rename_i hq
              rw [if_neg hq] at hcc
              exact h3 _ _ _ hu hcc) e
        obtain ⟨cells', g1, g2⟩ := this
        refine ⟨cells', ?_, g2⟩
        simp only [Instr.fill, hpl]
        have hb1 : v.cells.size = sz := by rw [k1, hsz]
        have hb2 : off + v.cells.size ≤ cells.size := by rw [k1, hsz, h1]; omega
        simpa [hb1, hb2, Nat.not_lt.2 (hb1 ▸ hb2)] using g1

theorem build_struct_ok {t : TypeId} {fs : List (Nat × Nat)} {parts : List (Nat × Value)} {aparts : List (Nat × A)} {cs : List A} (ht : TOkAt P t (T t)) (hd : (T t).d = .struct fs)
    (hl : parts.length = aparts.length) (hp : ∀ (i : Nat) p q, parts[i]? = some p → aparts[i]? = some q → p.1 = q.1 ∧ q.1 < fs.length ∧ RepA w im ι h p.2 q.2)
    (e : fillA (T t).zero (aparts.map fun p => ((fs.getD p.1 (0, 0)).1, (fs.getD p.1 (0, 0)).2, p.2)) = some cs) :
    ∃ v', (Instr.build t parts.toArray).run P w = .ok v' w ∧ RepA w im ι h v' (.agg cs) := by
  have hD := ht.d
  rw [hd] at hD
  obtain ⟨fields, hu, hsz, hall⟩ := hD
  obtain ⟨z, hz, hzs, hz1, hz2⟩ := ht.zero w
  obtain ⟨it, hit, _, _, z', hz', _⟩ := ht.info
  have hzz : z' = z := by
    have : (zeroValue t).run P w = .ok z' w := by simp [zeroValue, typeInfo, hit, hz']
    rw [this] at hz; injection hz
  subst hzz
  have hplaces : ∀ (l : List Field) (k : Nat), (∀ (i : Nat) f, l[i]? = some f → ∃ p, fs[k + i]? = some p ∧ f.offset = p.1 ∧ (∃ j, P.info? f.type = some j ∧ j.size = p.2)) → l.length + k = fs.length →
      l.mapM (fun f => (P.info? f.type).map fun i => (f.offset, i.size)) = some (fs.drop k) := fun l => by
    induction l with
    | nil => intro k _ hk; simp at hk; subst hk; simp
    | cons f l ih =>
      intro k hf hk
      obtain ⟨p, hp1, hp2, j, hj, hjs⟩ := hf 0 f rfl
      have := ih (k + 1) (fun i g hg => by have := hf (i + 1) g (by simpa using hg); rwa [show k + (i + 1) = k + 1 + i by omega] at this) (by simp at hk; omega)
      simp only [List.mapM_cons, hj, Option.map_some, this]
      have hlt : k < fs.length := by simp at hk; omega
      rw [Nat.add_zero] at hp1
      have hd : fs.drop k = p :: fs.drop (k + 1) := by
        rw [List.drop_eq_getElem_cons hlt]
        congr 1
        rw [List.getElem?_eq_getElem hlt] at hp1
        exact Option.some.inj hp1
      rw [hd, hp2, hjs]
      rfl
  have hpl := hplaces fields.toList 0 (fun i f hf => by
    rw [Array.getElem?_toList] at hf
    have hlt : i < fs.length := by rw [← hsz]; exact (Array.getElem?_eq_some_iff.1 hf).1
    obtain ⟨h1, h2, h3⟩ := hall i f fs[i] hf (List.getElem?_eq_getElem hlt)
    exact ⟨fs[i], by rw [Nat.zero_add]; exact List.getElem?_eq_getElem hlt, h1, h2⟩) (by simp [hsz])
  simp only [List.drop_zero] at hpl
  obtain ⟨cells', g1, g2, g3, g4⟩ := fillA_ok (w := w) (im := im) (ι := ι) (h := h) (fun i => fs.toArray[i]?) parts (aparts.map fun p => ((fs.getD p.1 (0, 0)).1, (fs.getD p.1 (0, 0)).2, p.2)) z'.cells (T t).zero cs (by simp [hl]) (fun i p q hp1 hq1 => by
      rw [List.getElem?_map] at hq1
      cases ha : aparts[i]? with
      | none => rw [ha] at hq1; cases hq1
      | some q0 =>
        rw [ha] at hq1
        simp only [Option.map_some, Option.some.injEq] at hq1
        subst hq1
        obtain ⟨e1, e2, e3⟩ := hp i p q0 hp1 ha
        refine ⟨?_, e3⟩
        rw [e1, List.getElem?_toArray, List.getElem?_eq_getElem e2]
        simp [List.getD_eq_getElem?_getD, List.getElem?_eq_getElem e2]) hzs hz1 (fun i v a h1 h2 => (hz2 i v a h1 h2).rep) e
  refine ⟨.agg cells', run_build w t _ cells' ?_, .agg g2 g3 g4⟩
  unfold Program.built
  simp only [hit, hu, hz', hpl]
  exact g1

theorem build_arr_ok {t n et : Nat} {parts : List (Nat × Value)} {aparts : List (Nat × A)} {cs : List A} (ht : TOkAt P t (T t)) (hd : (T t).d = .arr n et) (he : TOkAt P et (T et))
    (hl : parts.length = aparts.length) (hp : ∀ (i : Nat) p q, parts[i]? = some p → aparts[i]? = some q → p.1 = q.1 ∧ RepA w im ι h p.2 q.2)
    (e : fillA (T t).zero (aparts.map fun p => (p.1 * (T et).size, (T et).size, p.2)) = some cs) :
    ∃ v', (Instr.build t parts.toArray).run P w = .ok v' w ∧ RepA w im ι h v' (.agg cs) := by
  have hu : P.underlying t = some (.array n et) := by have := ht.d; rwa [hd] at this
  obtain ⟨z, hz, hzs, hz1, hz2⟩ := ht.zero w
  obtain ⟨it, hit, _, _, z', hz', _⟩ := ht.info
  have hzz : z' = z := by
    have : (zeroValue t).run P w = .ok z' w := by simp [zeroValue, typeInfo, hit, hz']
    rw [this] at hz; injection hz
  subst hzz
  obtain ⟨ie, hie, hies, _⟩ := he.tinfo
  obtain ⟨cells', g1, g2, g3, g4⟩ := fillA_ok (w := w) (im := im) (ι := ι) (h := h) (fun i => some (i * ie.size, ie.size)) parts (aparts.map fun p => (p.1 * (T et).size, (T et).size, p.2)) z'.cells (T t).zero cs (by simp [hl]) (fun i p q hp1 hq1 => by
      rw [List.getElem?_map] at hq1
      cases ha : aparts[i]? with
      | none => rw [ha] at hq1; cases hq1
      | some q0 =>
        rw [ha] at hq1
        simp only [Option.map_some, Option.some.injEq] at hq1
        subst hq1
        obtain ⟨e1, e3⟩ := hp i p q0 hp1 ha
        exact ⟨by rw [e1, hies], e3⟩) hzs hz1 (fun i v a h1 h2 => (hz2 i v a h1 h2).rep) e
  refine ⟨.agg cells', run_build w t _ cells' ?_, .agg g2 g3 g4⟩
  unfold Program.built
  simp only [hit, hu, hz', hie]
  exact g1

/-- A new row of rows. -/
theorem push_rows (G : HRep w im ι h) (vs : Array Value) (sz : Nat) (rows : List (List A)) (e : TypeId) (hl : vs.size = rows.length * sz) (hz : ∀ r ∈ rows, r.length = sz)
    (h1 : ∀ (i : Nat) v, vs[i]? = some v → v.oneCell' = true) (hr : ∀ (i j : Nat) r v a, rows[i]? = some r → r[j]? = some a → vs[i * sz + j]? = some v → RepA w im ι h v a) :
    Puts w im ι h (.slice (some ⟨w.heap.size, 0, none⟩) rows.length rows.length) (fun b => .own b 0 rows.length) (w.alloc (.cells vs e)) sz rows := by
  have cell : ∀ (i j : Nat) r a, rows[i]? = some r → r[j]? = some a → ∃ v, vs[i * sz + j]? = some v ∧ v.oneCell' = true ∧ RepA w im ι h v a := fun i j r a h2 h3 => by
    have hi : i < rows.length := (List.getElem?_eq_some_iff.1 h2).1
    have hj : j < sz := by rw [← hz r (List.mem_of_getElem? h2)]; exact (List.getElem?_eq_some_iff.1 h3).1
    have hlt : i * sz + j < vs.size := by
      rw [hl]
      have : (i + 1) * sz ≤ rows.length * sz := Nat.mul_le_mul_right _ hi
      rw [Nat.add_mul, Nat.one_mul] at this; omega
    exact ⟨vs[i * sz + j], Array.getElem?_eq_getElem hlt, h1 _ _ (Array.getElem?_eq_getElem hlt), hr i j r _ a h2 h3 (Array.getElem?_eq_getElem hlt)⟩
  refine ⟨?_, fun b o ho hs hf hr0 => ?_⟩
  rotate_left
  · have hb := (List.getElem?_eq_some_iff.1 ho).1
    have he : ({ o with rows := rows } : Obj) = ⟨sz, false, rows⟩ := by cases o; simp_all
    rcases Nat.eq_zero_or_pos rows.length with h0 | h0
    · obtain rfl := List.eq_nil_of_length_eq_zero h0
      have ho' : h.set b ⟨sz, false, []⟩ = h := by
        rw [← he]
        have : ({ o with rows := [] } : Obj) = o := by cases o; simp_all
        rw [this]
        exact List.ext_getElem? fun i => by
          rw [List.getElem?_set]
          split
          · rename_i hbi; subst hbi; first | exact ho.symm | (rw [if_pos hb]; exact ho.symm)
          · rfl
      rw [ho']
      obtain ⟨G', s'⟩ := G.more (.cells vs e)
      exact ⟨im, ι, G', .own (o := o) ho (by simp) (Nat.le_refl _) fun _ => .inl rfl, s'⟩
    · obtain ⟨G', s'⟩ := G.renew ho hf (c' := vs) (e := e) rows (by rw [hr0]; exact h0) (by rw [hs, hl]; exact Nat.le_refl _) (by rw [hs]; exact hz) (by rw [hs]; exact cell)
      rw [he] at G' s'
      refine ⟨im, _, G', .own (o := ⟨sz, false, rows⟩) (by simp [hb]) (by simp) (Nat.le_refl _) fun _ => .inr ⟨w.heap.size, upd_self _ _ _, by simp, fun c e' f hc => ?_⟩, s'⟩
      rw [heap_alloc_new'] at hc
      cases hc
      simp [hl]
  refine ⟨im, _, G.push ⟨sz, false, rows⟩ vs e rfl (by rw [hl]; exact Nat.le_refl _) hz (fun i j r a h2 h3 => ?_), ?_, Stp.push G _ _ rfl⟩
  · have hi : i < rows.length := (List.getElem?_eq_some_iff.1 h2).1
    have hj : j < sz := by rw [← hz r (List.mem_of_getElem? h2)]; exact (List.getElem?_eq_some_iff.1 h3).1
    have hlt : i * sz + j < vs.size := by
      rw [hl]
      have : (i + 1) * sz ≤ rows.length * sz := Nat.mul_le_mul_right _ hi
      rw [Nat.add_mul, Nat.one_mul] at this; omega
    exact ⟨vs[i * sz + j], Array.getElem?_eq_getElem hlt, h1 _ _ (Array.getElem?_eq_getElem hlt), hr i j r _ a h2 h3 (Array.getElem?_eq_getElem hlt)⟩
  · refine .own (o := ⟨sz, false, rows⟩) (by simp) (by simp) (Nat.le_refl _) fun _ => .inr ⟨w.heap.size, upd_self _ _ _, by simp, fun c e' f hc => ?_⟩
    rw [heap_alloc_new'] at hc
    cases hc
    simp [hl]

theorem mkA_ok {t et : Nat} {vl vc : Value} {k k' : IntKind} {n : Int} (ht : TOkAt P t (T t)) (hd : (T t).d = .slice et) (he : TOkAt P et (T et)) (G : HRep w im ι h)
    (hl : vl = .int k n) (hc : vc = .int k' n) (h0 : 0 ≤ n) (hb : n * (T et).bytes ≤ 2 ^ 46) (hn : n ≤ 2 ^ 46) :
    ∃ v' w', (Instr.makeSlice t vl vc).run P w = .ok v' w' ∧ Puts w im ι h v' (fun b => .own b 0 n.toNat) w' (T et).size (List.replicate n.toNat (T et).zero) := by
  subst hl hc
  have hu : P.underlying t = some (.slice et) := by have := ht.d; rwa [hd] at this
  obtain ⟨i, hi, his, hib, z, hz, hzs, hxz, hz1, hz2⟩ := he.info
  have hr := run_make (P := P) w t et i z hu hi hz k k' n n h0 (Int.le_refl _) (by rw [hib, Int.mul_comm]; omega) (by omega)
  refine ⟨_, _, hr, ?_⟩
  have hzsz : z.cells.size = i.size := by rw [hzs, ← hxz, his]
  have key : ∀ (q : Nat) v, (madeCells z.cells (n.toNat * i.size))[q]? = some v → q < n.toNat * i.size ∧ z.cells[q % z.cells.size]? = some v := fun q v hq => by
    have hlt : q < n.toNat * i.size := by have := (Array.getElem?_eq_some_iff.1 hq).1; simpa [size_madeCells] using this
    have hp : 0 < z.cells.size := by
      rw [hzsz]
      rcases Nat.eq_zero_or_pos i.size with h | h
      · rw [h] at hlt; simp at hlt
      · exact h
    have hm : q % z.cells.size < z.cells.size := Nat.mod_lt _ hp
    refine ⟨hlt, ?_⟩
    simp only [madeCells, Array.getElem?_map, Array.getElem?_range] at hq
    rw [if_pos hlt] at hq
    simp only [Option.map_some, Option.some.injEq] at hq
    rw [← hq, Array.getElem?_eq_getElem hm, getElem!_pos z.cells _ hm]
  have hp := push_rows G (madeCells z.cells (n.toNat * i.size)) (T et).size (List.replicate n.toNat (T et).zero) et (by rw [size_madeCells, List.length_replicate, his]) (fun r hr => by rw [List.eq_of_mem_replicate hr, hxz]) (fun q v hq => hz1 _ _ (key q v hq).2) (fun a b r v x g1 g2 g3 => by
      have hr0 : r = (T et).zero := by
        have := List.mem_of_getElem? g1; exact List.eq_of_mem_replicate this
      subst hr0
      obtain ⟨g4, g5⟩ := key _ _ g3
      have hb : b < (T et).size := by rw [hxz]; exact (List.getElem?_eq_some_iff.1 g2).1
      have hmod : (a * (T et).size + b) % z.cells.size = b := by
        rw [hzsz, his, Nat.mul_comm, Nat.mul_add_mod, Nat.mod_eq_of_lt hb]
      rw [hmod] at g5
      exact (hz2 b v x g5 g2).rep)
  rw [List.length_replicate] at hp
  exact hp

theorem mapM_length {α β : Type} {f : α → Option β} : ∀ {l : List α} {r : List β}, l.mapM f = some r → r.length = l.length := by
  intro l
  induction l with
  | nil => intro r e; simp at e; subst e; rfl
  | cons a l ih =>
    intro r e
    cases ha : f a with
    | none => simp [List.mapM_cons, ha] at e
    | some b =>
      cases hl : l.mapM f with
      | none => simp [List.mapM_cons, ha, hl] at e
      | some bs => simp [List.mapM_cons, ha, hl] at e; subst e; simp [ih hl]
theorem flatten_get (sz : Nat) : ∀ (rows : List (List A)), (∀ r ∈ rows, r.length = sz) → rows.flatten.length = rows.length * sz ∧
    ∀ (i j : Nat) r, rows[i]? = some r → j < sz → rows.flatten[i * sz + j]? = r[j]? := by
  intro rows
  induction rows with
  | nil => intro _; exact ⟨by simp, fun i j r h => by simp at h⟩
  | cons r0 rows ih =>
    intro hz
    obtain ⟨h1, h2⟩ := ih fun r hr => hz r (by simp [hr])
    have h0 := hz r0 (by simp)
    refine ⟨by rw [List.flatten_cons, List.length_append, h1, h0, List.length_cons, Nat.add_mul, Nat.one_mul, Nat.add_comm], fun i j r hi hj => ?_⟩
    rw [List.flatten_cons]
    cases i with
    | zero =>
      simp at hi; subst hi
      rw [Nat.zero_mul, Nat.zero_add, List.getElem?_append_left (by omega)]
    | succ i =>
      rw [List.getElem?_append_right (by rw [h0, Nat.add_mul, Nat.one_mul]; omega), h0]
      have : (i + 1) * sz + j - sz = i * sz + j := by rw [Nat.add_mul, Nat.one_mul]; omega
      rw [this]
      exact h2 i j r (by simpa using hi) hj
theorem fillA_dense (sz : Nat) : ∀ (as : List A) (rows : List (List A)) (k : Nat) (done zs : List A), as.mapM cellsA = some rows → (∀ r ∈ rows, r.length = sz) → done.length = k * sz → zs.length = as.length * sz →
    fillA (done ++ zs) ((as.zipIdx k).map fun p => (p.2 * sz, sz, p.1)) = some (done ++ rows.flatten) := by
  intro as
  induction as with
  | nil => intro rows k done zs e _ _ hz; simp at e hz; subst e; subst hz; simp [fillA]
  | cons a as ih =>
    intro rows k done zs e hsz hd hz
    cases hc : cellsA a with
    | none => simp [List.mapM_cons, hc] at e
    | some vs =>
      cases hr : as.mapM cellsA with
      | none => simp [List.mapM_cons, hc, hr] at e
      | some rest =>
        simp [List.mapM_cons, hc, hr] at e
        subst e
        have hvs := hsz vs (by simp)
        simp only [List.length_cons, Nat.add_mul, Nat.one_mul] at hz
        simp only [List.zipIdx_cons, List.map_cons, fillA, hc, Option.bind_some]
        rw [if_pos ⟨hvs, by rw [List.length_append, hd]; omega⟩]
        have hsp : splice (done ++ zs) (k * sz) vs = (done ++ vs) ++ zs.drop sz := by
          have h1 : (done ++ zs).drop (done.length + sz) = zs.drop sz := by simp [List.drop_append]
          simp only [splice, hvs]
          rw [← hd, List.take_left, h1, List.append_assoc]
        rw [hsp, ih rest (k + 1) (done ++ vs) (zs.drop sz) hr (fun r h => hsz r (by simp [h])) (by rw [List.length_append, hd, hvs, Nat.add_mul, Nat.one_mul]) (by rw [List.length_drop]; omega)]
        simp
theorem bs_ok {t et len : Nat} {parts : List (Nat × Value)} {as : List A} {rows : List (List A)} (ht : TOkAt P t (T t)) (hd : (T t).d = .slice et) (he : TOkAt P et (T et)) (G : HRep w im ι h)
    (hlen : parts.length = len) (hla : as.length = len) (hix : ∀ (i : Nat) p, parts[i]? = some p → p.1 = i) (hr : ∀ (i : Nat) p a, parts[i]? = some p → as[i]? = some a → RepA w im ι h p.2 a)
    (hrows : as.mapM cellsA = some rows) (hz : (rows.all fun r => r.length == (T et).size) = true) (hpos : 0 < (T et).size) (hsm : len * (T et).size ≤ 16777216) :
    ∃ v' w', (Instr.buildSlice t len parts.toArray).run P w = .ok v' w' ∧ Puts w im ι h v' (fun b => .own b 0 len) w' (T et).size rows := by
  have hu : P.underlying t = some (.slice et) := by have := ht.d; rwa [hd] at this
  obtain ⟨i, hi, his, hib, z, hz0, hzs, hxz, hz1, hz2⟩ := he.info
  have hsz : ∀ r ∈ rows, r.length = (T et).size := fun r hr => by simpa using List.all_eq_true.1 hz r hr
  have hrl : rows.length = len := by rw [← hla]; exact mapM_length hrows
  have hzsz : z.cells.size = i.size := by rw [hzs, ← hxz, his]
  have hdense := fillA_dense (T et).size as rows 0 [] (List.replicate len (T et).zero).flatten hrows hsz (by simp) (by simp [hla, hxz])
  simp only [List.nil_append] at hdense
  obtain ⟨f1, f2⟩ := flatten_get (T et).size (List.replicate len (T et).zero) (fun r hr => by rw [List.eq_of_mem_replicate hr, hxz])
  have hmk : ∀ (q : Nat) v, ((Array.range (len * i.size)).map (z.cells[· % z.cells.size]!))[q]? = some v → q < len * i.size ∧ z.cells[q % z.cells.size]? = some v := fun q v hq => by
    have hlt : q < len * i.size := by have := (Array.getElem?_eq_some_iff.1 hq).1; simpa using this
    have hp : 0 < z.cells.size := by rw [hzsz, his]; exact hpos
    have hm : q % z.cells.size < z.cells.size := Nat.mod_lt _ hp
    refine ⟨hlt, ?_⟩
    simp only [Array.getElem?_map, Array.getElem?_range] at hq
    rw [if_pos hlt] at hq
    simp only [Option.map_some, Option.some.injEq] at hq
    rw [← hq, Array.getElem?_eq_getElem hm, getElem!_pos z.cells _ hm]
  obtain ⟨cells', g1, g2, g3, g4⟩ := fillA_ok (w := w) (im := im) (ι := ι) (h := h) (fun j => some (j * i.size, i.size)) parts ((as.zipIdx 0).map fun p => (p.2 * (T et).size, (T et).size, p.1))
    ((Array.range (len * i.size)).map (z.cells[· % z.cells.size]!)) (List.replicate len (T et).zero).flatten rows.flatten (by simp [hlen, hla]) (fun j p q hp1 hq1 => by
      rw [List.getElem?_map, List.getElem?_zipIdx] at hq1
      cases ha : as[j]? with
      | none => rw [ha] at hq1; cases hq1
      | some a =>
        rw [ha] at hq1
        simp only [Option.map_some, Option.some.injEq] at hq1
        subst hq1
        refine ⟨?_, hr j p a hp1 ha⟩
        simp only [hix j p hp1, his, Nat.zero_add]) (by rw [f1]; simp [his]) (fun q v hq => hz1 _ _ (hmk q v hq).2) (fun q v a hq ha => by
      obtain ⟨h3, h4⟩ := hmk q v hq
      rw [his] at h3
      have hp := hpos
      have hdiv : q / (T et).size < len := Nat.div_lt_of_lt_mul (by rw [Nat.mul_comm]; exact h3)
      have hmod : q % (T et).size < (T et).size := Nat.mod_lt _ hp
      have hdm : q / (T et).size * (T et).size + q % (T et).size = q := by rw [Nat.mul_comm]; exact Nat.div_add_mod q _
      have hg := f2 (q / (T et).size) (q % (T et).size) (T et).zero (by rw [List.getElem?_replicate, if_pos hdiv]) hmod
      rw [hdm] at hg
      rw [hg] at ha
      rw [hzsz, his] at h4
      exact (hz2 _ v a h4 ha).rep) hdense
  have hrun : (Instr.buildSlice t len parts.toArray).run P w = .ok (.slice (some ⟨w.heap.size, 0, none⟩) len len) (w.alloc (.cells cells' et)) := by
    rcases Nat.eq_zero_or_pos len with h0 | h0
    · subst h0
      have hn : ¬ (0 * i.size > 2 ^ 24) := by simp
      have hp0 : parts = [] := List.eq_nil_of_length_eq_zero hlen
      subst hp0
      simp only [Instr.fill, Option.some.injEq] at g1
      subst g1
      simp [Instr.buildSlice, run_underlying hu, sizeOf, typeInfo, hi, Instr.fill, newRow, Array.range_zero']
    · have hn1 : ¬ len * i.size > 2 ^ 24 := by rw [his]; omega
      have hn2 : ¬ len * i.size = 0 := by rw [his]; exact Nat.ne_of_gt (Nat.mul_pos h0 hpos)
      simp [Instr.buildSlice, run_underlying hu, sizeOf, typeInfo, zeroValue, hi, hz0, hn1, hn2, g1, newRow]
  obtain ⟨k1, k2⟩ := flatten_get (T et).size rows hsz
  have hp := push_rows G cells' (T et).size rows et (by rw [g2, k1]) hsz g3 (fun a b r v x g5 g6 g7 => by
    have hb : b < (T et).size := by rw [← hsz r (List.mem_of_getElem? g5)]; exact (List.getElem?_eq_some_iff.1 g6).1
    exact g4 _ v x g7 (by rw [k2 a b r g5 hb]; exact g6))
  rw [hrl] at hp
  exact ⟨_, _, hrun, hp⟩
end
end Go.Ab

namespace Go.Ab
open Go
variable [Val]
/-- '==' of flat structs, concrete. -/
def eqV : List Value → List Value → Option Bool
  | [], [] => some true
  | .int k a :: xs, .int k' b :: ys => if k = k' then (eqV xs ys).map fun c => (a == b) && c else none
  | _, _ => none
def EqOk (P : Program) (t : TypeId) (n : Nat) : Prop := ∀ (x y : Operand) (xs ys : Array Value) (b : Bool) (w : World), xs.size = n → eqV xs.toList ys.toList = some b →
  ((do eqGuard .eql t x y (.agg xs) (.agg ys); binOp .eql t (.agg xs) (.agg ys)) : Sem Value).run P w = .ok (.bool b) w ∧
  ((do eqGuard .neq t x y (.agg xs) (.agg ys); binOp .neq t (.agg xs) (.agg ys)) : Sem Value).run P w = .ok (.bool (!b)) w
section
variable {P : Program} {T : Nat → TI} {w : World} {im : Nat → Prop} {ι : Nat → Option Nat} {h : H}

theorem arith_ok {op : BinOp} {k k' : IntKind} {a b : Int} {a' : A} (t : TypeId) (x y : Operand) (hk : op = .shl ∨ op = .shr ∨ k = k') (e : arith op k a b = some a') :
    ∃ v', ((do eqGuard op t x y (.int k a) (.int k' b); binOp op t (.int k a) (.int k' b)) : Sem Value).run P w = .ok v' w ∧ RepA w im ι h v' a' := by
  have hg : (eqGuard op t x y (.int k a) (.int k' b)).run P w = .ok () w := by
    unfold eqGuard
    split <;> simp
  simp only [Sem.run_bind, hg, Result.andThen_ok]
  cases op with
  | shl =>
    simp only [arith] at e
    split at e
    case isTrue => cases e
    rename_i hn
    simp only [Option.some.injEq] at e; subst e
    exact ⟨_, by simp [binOp, Op.shift, hn], .d (.int _ _)⟩
  | shr =>
    simp only [arith] at e
    split at e
    case isTrue => cases e
    rename_i hn
    simp only [Option.some.injEq] at e; subst e
    exact ⟨_, by simp [binOp, Op.shift, hn], .d (.int _ _)⟩
  | quo =>
    obtain rfl : k = k' := by simpa using hk
    simp only [arith] at e
    split at e
    case isTrue => cases e
    rename_i hn
    simp only [Option.some.injEq] at e; subst e
    exact ⟨_, by simp [binOp, Op.intDiv, hn], .d (.int _ _)⟩
  | rem =>
    obtain rfl : k = k' := by simpa using hk
    simp only [arith] at e
    split at e
    case isTrue => cases e
    rename_i hn
    simp only [Option.some.injEq] at e; subst e
    exact ⟨_, by simp [binOp, Op.intDiv, hn], .d (.int _ _)⟩
  | andNot => simp [arith] at e
  | add | sub | mul =>
    obtain rfl : k = k' := by simpa using hk
    simp only [arith, Option.some.injEq] at e; subst e
    exact ⟨_, by simp [binOp, Op.intArith], .d (.int _ _)⟩
  | and | or | xor =>
    obtain rfl : k = k' := by simpa using hk
    simp only [arith, Option.some.injEq] at e; subst e
    exact ⟨_, by simp [binOp, Op.intBits], .d (.int _ _)⟩
  | eql | neq | lss | leq | gtr | geq =>
    obtain rfl : k = k' := by simpa using hk
    simp only [arith, Option.some.injEq] at e; subst e
    exact ⟨_, by simp [binOp, Op.intCmp], .d (.bool _)⟩

theorem binA_ok {op : BinOp} {v u : Value} {a b a' : A} (t : TypeId) (x y : Operand) (hr : RepA w im ι h v a) (hu : RepA w im ι h u b) (e : binA op a b = some a') :
    ∃ v', ((do eqGuard op t x y v u; binOp op t v u) : Sem Value).run P w = .ok v' w ∧ RepA w im ι h v' a' := by
  cases a with
  | int k n =>
    cases b with
    | int k' m =>
      obtain rfl := hr.int
      obtain rfl := hu.int
      simp only [binA] at e
      split at e
      case isFalse => cases e
      rename_i hk
      exact arith_ok t x y hk e
    | _ => simp [binA] at e
  | _ => cases b <;> simp [binA] at e

theorem beqA_ok {op : BinOp} {v u : Value} {a b a' : A} {t : TypeId} (ht : P.underlying t = some .bool) (x y : Operand) (hr : RepA w im ι h v a) (hu : RepA w im ι h u b) (e : beqA op a b = some a') :
    ∃ v', ((do eqGuard op t x y v u; binOp op t v u) : Sem Value).run P w = .ok v' w ∧ RepA w im ι h v' a' := by
  cases a with
  | bool n =>
    cases b with
    | bool m =>
      obtain rfl := hr.bool
      obtain rfl := hu.bool
      simp only [beqA] at e
      have he : (Op.equal t (.bool n) (.bool m)).run P w = .ok (n == m) w := run_equal_bool w t n m ht
      cases op <;> simp only [Option.some.injEq] at e <;> first
        | (subst e; exact ⟨_, by simp [eqGuard, binOp, he], .d (.bool _)⟩)
        | cases e
    | _ => simp [beqA] at e
  | _ => cases b <;> simp [beqA] at e

theorem eqC_rep : ∀ (xs ys : List A) (vs us : List Value) (b : Bool), vs.length = xs.length → us.length = ys.length → (∀ (i : Nat) v a, vs[i]? = some v → xs[i]? = some a → RepA w im ι h v a) →
    (∀ (i : Nat) v a, us[i]? = some v → ys[i]? = some a → RepA w im ι h v a) → eqC xs ys = some b → eqV vs us = some b := by
  intro xs
  induction xs with
  | nil =>
    intro ys vs us b h1 h2 _ _ e
    cases ys with
    | nil =>
      obtain rfl := List.eq_nil_of_length_eq_zero h1
      obtain rfl := List.eq_nil_of_length_eq_zero h2
      simpa [eqC, eqV] using e
    | cons y ys => simp [eqC] at e
  | cons x xs ih =>
    intro ys vs us b h1 h2 hv hu e
    cases ys with
    | nil => cases x <;> simp [eqC] at e
    | cons y ys =>
      cases vs with
      | nil => cases h1
      | cons v vs =>
        cases us with
        | nil => cases h2
        | cons u us =>
          have hx := hv 0 v x rfl rfl
          have hy := hu 0 u y rfl rfl
          have hv' : ∀ (i : Nat) v a, vs[i]? = some v → xs[i]? = some a → RepA w im ι h v a := fun i v a g1 g2 => hv (i + 1) v a (by simpa using g1) (by simpa using g2)
          have hu' : ∀ (i : Nat) v a, us[i]? = some v → ys[i]? = some a → RepA w im ι h v a := fun i v a g1 g2 => hu (i + 1) v a (by simpa using g1) (by simpa using g2)
          have h1' : vs.length = xs.length := by simpa using h1
          have h2' : us.length = ys.length := by simpa using h2
          cases x with
          | int k n =>
            cases y with
            | int k' m =>
              obtain rfl := hx.int
              obtain rfl := hy.int
              simp only [eqC] at e
              split at e
              case isFalse => cases e
              rename_i hk
              cases hc : eqC xs ys with
              | none => simp [hc] at e
              | some c =>
                have := ih ys vs us c h1' h2' hv' hu' hc
                simp only [hc, Option.map_some, Option.some.injEq] at e
                simp [eqV, hk, this, e]
            | _ => simp [eqC] at e
          | _ => simp [eqC] at e

theorem bif_some5 {β : Type} {b : Bool} {x : Option β} {r : β} (e : (bif b then x else none) = some r) : b = true ∧ x = some r := by cases b <;> simp_all
theorem seqA_ok {op : BinOp} {v u : Value} {a b a' : A} {t : TypeId} {n : Nat} (ht : EqOk P t n) (x y : Operand) (hr : RepA w im ι h v a) (hu : RepA w im ι h u b) (e : seqA n op a b = some a') :
    ∃ v', ((do eqGuard op t x y v u; binOp op t v u) : Sem Value).run P w = .ok v' w ∧ RepA w im ι h v' a' := by
  cases a with
  | agg xs =>
    cases b with
    | agg ys =>
      cases hr with
      | d hd => cases hd
      | @agg cs _ hl h1 hra =>
        cases hu with
        | d hd => cases hd
        | @agg ds _ hl' h1' hub =>
          simp only [seqA] at e
          obtain ⟨hn, e⟩ := bif_some5 e
          cases hc : eqC xs ys with
          | none => simp [hc] at e
          | some b =>
            simp only [hc, Option.bind_some] at e
            have hv := eqC_rep xs ys cs.toList ds.toList b (by simpa using hl) (by simpa using hl') (fun i v a g1 g2 => hra i v a (by simpa using g1) g2) (fun i v a g1 g2 => hub i v a (by simpa using g1) g2) hc
            obtain ⟨e1, e2⟩ := ht x y cs ds b w (by rw [hl]; exact Nat.eq_of_beq_eq_true hn) hv
            cases op <;> simp only [Option.some.injEq] at e <;> first
              | (subst e; first | exact ⟨_, e1, .d (.bool _)⟩ | exact ⟨_, e2, .d (.bool _)⟩)
              | cases e
    | _ => simp [seqA] at e
  | _ => cases b <;> simp [seqA] at e

theorem unA_ok {op : UnOp} {v : Value} {a a' : A} (hr : RepA w im ι h v a) (e : unA op a = some a') :
    ∃ v', (Op.unary op v).run P w = .ok v' w ∧ RepA w im ι h v' a' := by
  cases op with
  | not =>
    cases a with
    | bool b => obtain rfl := hr.bool; simp only [unA, Option.some.injEq] at e; subst e; exact ⟨_, by simp [Op.unary], .d (.bool _)⟩
    | _ => simp [unA] at e
  | neg =>
    cases a with
    | int k n => obtain rfl := hr.int; simp only [unA, Option.some.injEq] at e; subst e; exact ⟨_, by simp [Op.unary, Op.intArith], .d (.int _ _)⟩
    | _ => simp [unA] at e
  | xor =>
    cases a with
    | int k n => obtain rfl := hr.int; simp only [unA, arith, Option.some.injEq] at e; subst e; exact ⟨_, by simp [Op.unary, Op.intBits], .d (.int _ _)⟩
    | _ => simp [unA] at e
  | plus => cases a <;> simp [unA] at e

theorem convA_ok {s d : TypeId} {ks k : IntKind} {v : Value} {a a' : A} (hs : P.underlying s = some (.int ks)) (hd : P.underlying d = some (.int k)) (hr : RepA w im ι h v a) (e : convA k a = some a') :
    ∃ v', (convert s d v).run P w = .ok v' w ∧ RepA w im ι h v' a' := by
  cases a with
  | int k0 n =>
    obtain rfl := hr.int
    simp only [convA, Option.some.injEq] at e
    subst e
    exact ⟨_, by simp [convert, run_underlying hs, run_underlying hd, Conv.intToInt], .d (.int _ _)⟩
  | _ => simp [convA] at e
/-- A number by its value. -/
def vA : A → A | .sym k i => .int k (Val.ρ i) | a => a
theorem vA_rep {v : Value} {a : A} (hr : RepA w im ι h v a) : RepA w im ι h v (vA a) := by
  cases a with
  | sym k i => obtain rfl := hr.sym; exact .d (.int _ _)
  | _ => exact hr
theorem rep_vA {v : Value} {a : A} (hr : RepA w im ι h v (vA a)) : RepA w im ι h v a := by
  cases a with
  | sym k i => obtain rfl := hr.int; exact .d (.sym _ _)
  | _ => exact hr
theorem binE_ok {E : Env} (hs : ∀ op x y a, E.sym op x y = some a → binA op (vA x) (vA y) = some (vA a)) {op : BinOp} {v u : Value} {a b a' : A} (t : TypeId) (x y : Operand) (hr : RepA w im ι h v a) (hu : RepA w im ι h u b) (e : binE E op a b = some a') :
    ∃ v', ((do eqGuard op t x y v u; binOp op t v u) : Sem Value).run P w = .ok v' w ∧ RepA w im ι h v' a' := by
  unfold binE at e
  split at e
  · simp only [Option.some.injEq] at e; subst e
    exact binA_ok t x y hr hu ‹_›
  · obtain ⟨v', h1, h2⟩ := binA_ok t x y (vA_rep hr) (vA_rep hu) (hs op a b a' e)
    exact ⟨v', h1, rep_vA h2⟩
theorem convE_ok {E : Env} (hs : ∀ k x a, E.symC k x = some a → convA k (vA x) = some (vA a)) {s d : TypeId} {ks k : IntKind} {v : Value} {a a' : A} (h1 : P.underlying s = some (.int ks)) (h2 : P.underlying d = some (.int k)) (hr : RepA w im ι h v a) (e : convE E k a = some a') :
    ∃ v', (convert s d v).run P w = .ok v' w ∧ RepA w im ι h v' a' := by
  unfold convE at e
  split at e
  · simp only [Option.some.injEq] at e; subst e
    exact convA_ok h1 h2 hr ‹_›
  · obtain ⟨v', g1, g2⟩ := convA_ok h1 h2 (vA_rep hr) (hs k a a' e)
    exact ⟨v', g1, rep_vA g2⟩

theorem extrA_ok {v : Value} {a a' : A} {i : Nat} (hr : RepA w im ι h v a) (e : extrA a i = some a') : ∃ v', (Instr.extract v i).run P w = .ok v' w ∧ RepA w im ι h v' a' := by
  cases a with
  | tup vs =>
    cases hr with
    | d hd => cases hd
    | @tup cs _ hl hra =>
      simp only [extrA] at e
      have hlt : i < cs.size := by rw [hl]; exact (List.getElem?_eq_some_iff.1 e).1
      exact ⟨cs[i], by simp [Instr.extract, hlt], hra i _ _ (Array.getElem?_eq_getElem hlt) e⟩
  | _ => simp [extrA] at e

theorem cut_part {cs : Array Value} {as : List A} {off : Nat} {t : TypeId} {a' : A} (ht : TOkAt P t (T t)) (hd : (T t).d ≠ .other) (hl : cs.size = as.length) (h1 : ∀ (i : Nat) v, cs[i]? = some v → v.oneCell' = true)
    (hra : ∀ (i : Nat) v a, cs[i]? = some v → as[i]? = some a → RepA w im ι h v a) (e : cut (T t).d.agg (T t).size (as.drop off) = some a') :
    ∃ v', (part t cs off).run P w = .ok v' w ∧ RepA w im ι h v' a' := by
  simp only [cut] at e
  split at e
  case isFalse => cases e
  rename_i hle
  rw [List.length_drop] at hle
  cases hagg : (T t).d.agg with
  | true =>
    rw [hagg] at e
    simp only [if_true, Option.some.injEq] at e
    subst e
    refine ⟨.agg (cs.extract off (off + (T t).size)), by simp [part, ht.isAgg hd, hagg, ht.size], ?_⟩
    have key : ∀ (i : Nat) v, (cs.extract off (off + (T t).size))[i]? = some v → i < (T t).size ∧ cs[off + i]? = some v := fun i v hv => by
      rw [Array.getElem?_extract] at hv
      split at hv
      case isFalse => cases hv
      rename_i hi
      exact ⟨by omega, hv⟩
    by_cases hz : (T t).size = 0
    · rw [hz]
      exact .agg (by simp; omega) (fun i v hv => by rw [hz] at key; have := (key i v (by simpa using hv)).1; omega) (fun i v a hv _ => by rw [hz] at key; have := (key i v (by simpa using hv)).1; omega)
    · refine .agg (by simp; omega) (fun i v hv => h1 _ _ (key i v hv).2) fun i v a hv ha => ?_
      obtain ⟨hi, hv'⟩ := key i v hv
      rw [List.getElem?_take_of_lt hi, List.getElem?_drop] at ha
      exact hra _ _ _ hv' ha
  | false =>
    rw [hagg] at e
    simp only [Bool.false_eq_true, if_false] at e
    rw [List.getElem?_drop, Nat.add_zero] at e
    have hlt : off < cs.size := by rw [hl]; exact (List.getElem?_eq_some_iff.1 e).1
    exact ⟨cs[off], by simp [part, ht.isAgg hd, hagg, hlt], hra off _ _ (Array.getElem?_eq_getElem hlt) e⟩

theorem idxA_ok {t n et : Nat} {v u : Value} {a i a' : A} (ht : TOkAt P t (T t)) (hd : (T t).d = .arr n et) (he : TOkAt P et (T et)) (hed : (T et).d ≠ .other)
    (hr : RepA w im ι h v a) (hi : RepA w im ι h u i) (e : idxA n (T et).d.agg (T et).size a i = some a') : ∃ v', (Instr.index t v u).run P w = .ok v' w ∧ RepA w im ι h v' a' := by
  have hu : P.underlying t = some (.array n et) := by have := ht.d; rwa [hd] at this
  cases a with
  | agg as =>
    cases i with
    | int k j =>
      obtain rfl := hi.int
      simp only [idxA] at e
      split at e
      case isFalse => cases e
      rename_i hh
      cases hr with
      | d hd => cases hd
      | @agg cs _ hl h1 hra =>
        obtain ⟨v', hv', hr'⟩ := cut_part (P := P) he hed hl h1 hra e
        exact ⟨v', by simp [Instr.index, asIntOf, run_underlying hu, hh.1, hh.2, he.size, hv'], hr'⟩
    | _ => simp [idxA] at e
  | _ => cases i <;> simp [idxA] at e

theorem maxA_ok {v u : Value} {a b a' : A} (hr : RepA w im ι h v a) (hu : RepA w im ι h u b) (e : maxA a b = some a') : ∃ v', (Builtin.max2 v u).run P w = .ok v' w ∧ RepA w im ι h v' a' := by
  cases a with
  | int k n =>
    cases b with
    | int k' m =>
      obtain rfl := hr.int
      obtain rfl := hu.int
      simp only [maxA] at e
      split at e
      case isFalse => cases e
      simp only [Option.some.injEq] at e
      subst e
      exact ⟨_, by simp [Builtin.max2], .d (.int _ _)⟩
    | _ => simp [maxA] at e
  | _ => cases b <;> simp [maxA] at e
theorem minA_ok {v u : Value} {a b a' : A} (hr : RepA w im ι h v a) (hu : RepA w im ι h u b) (e : minA a b = some a') : ∃ v', (Builtin.min2 v u).run P w = .ok v' w ∧ RepA w im ι h v' a' := by
  cases a with
  | int k n =>
    cases b with
    | int k' m =>
      obtain rfl := hr.int
      obtain rfl := hu.int
      simp only [minA] at e
      split at e
      case isFalse => cases e
      simp only [Option.some.injEq] at e
      subst e
      exact ⟨_, by simp [Builtin.min2], .d (.int _ _)⟩
    | _ => simp [minA] at e
  | _ => cases b <;> simp [minA] at e
end
end Go.Ab

namespace Go.Ab
open Go
variable [Val]
theorem mapM_get {α β : Type} {f : α → Option β} : ∀ {l : List α} {r : List β}, l.mapM f = some r → ∀ (i : Nat) x y, l[i]? = some x → r[i]? = some y → f x = some y := by
  intro l
  induction l with
  | nil => intro r _ i x y h; simp at h
  | cons a l ih =>
    intro r e i x y hx hy
    cases ha : f a with
    | none => simp [List.mapM_cons, ha] at e
    | some b =>
      cases hl : l.mapM f with
      | none => simp [List.mapM_cons, ha, hl] at e
      | some bs =>
        simp [List.mapM_cons, ha, hl] at e
        subst e
        cases i with
        | zero => simp at hx hy; subst hx hy; exact ha
        | succ i => exact ih hl i x y (by simpa using hx) (by simpa using hy)
theorem mapM_get' {α β : Type} {f : α → Option β} {l : List α} {r : List β} (e : l.mapM f = some r) (i : Nat) (y : β) (hy : r[i]? = some y) : ∃ x, l[i]? = some x ∧ f x = some y := by
  have hlt : i < l.length := by rw [← mapM_length e]; exact (List.getElem?_eq_some_iff.1 hy).1
  exact ⟨l[i], List.getElem?_eq_getElem hlt, mapM_get e i _ y (List.getElem?_eq_getElem hlt) hy⟩
section
variable {P : Program} {w : World} {im : Nat → Prop} {ι ι' : Nat → Option Nat} {h : H}

def imF (strict : Bool) (im : Nat → Prop) (ι : Nat → Option Nat) (h : H) : Nat → Prop := fun b => im b ∨ (strict = false ∧ Wr ι h b)
theorem frz_ok (G : HRep w im ι h) (strict : Bool) : ∀ (n : Nat) (a a' : A) (v : Value), RepA w im ι h v a → frz h strict n a = some a' →
    RepA w (imF strict im ι h) ι' [] v a' ∧ (v.oneCell' = true → RepD w (imF strict im ι h) v a') := by
  have D : ∀ v a, RepD w im v a → RepD w (imF strict im ι h) v a := fun v a hd => hd.mono (fun _ _ => rfl) fun b hb => .inl hb
  intro n
  induction n with
  | zero =>
    intro a a' v hr e
    cases a with
    | int k m => simp only [frz, Option.some.injEq] at e; subst e; obtain rfl := hr.int; exact ⟨.d (.int _ _), fun _ => .int _ _⟩
    | sym k m => simp only [frz, Option.some.injEq] at e; subst e; obtain rfl := hr.sym; exact ⟨.d (.sym _ _), fun _ => .sym _ _⟩
    | nilI => simp only [frz, Option.some.injEq] at e; subst e; obtain rfl := hr.nilI; exact ⟨.d .nilI, fun _ => .nilI⟩
    | ifc => simp only [frz, Option.some.injEq] at e; subst e; obtain ⟨t, u, rfl⟩ := hr.ifc; exact ⟨.d (.ifc _ _), fun _ => .ifc _ _⟩
    | bool b => simp only [frz, Option.some.injEq] at e; subst e; obtain rfl := hr.bool; exact ⟨.d (.bool _), fun _ => .bool _⟩
    | imm rows => simp only [frz, Option.some.injEq] at e; subst e; exact ⟨.d (D _ _ hr.imm), fun _ => D _ _ hr.imm⟩
    | nils =>
      simp only [frz, Option.some.injEq] at e; subst e
      cases hr with
      | d hd => cases hd
      | nils ad => exact ⟨.d (.imm0 _ _), fun _ => .imm0 _ _⟩
    | _ => simp [frz] at e
  | succ n ih =>
    intro a a' v hr e
    cases a with
    | int k m => simp only [frz, Option.some.injEq] at e; subst e; obtain rfl := hr.int; exact ⟨.d (.int _ _), fun _ => .int _ _⟩
    | sym k m => simp only [frz, Option.some.injEq] at e; subst e; obtain rfl := hr.sym; exact ⟨.d (.sym _ _), fun _ => .sym _ _⟩
    | nilI => simp only [frz, Option.some.injEq] at e; subst e; obtain rfl := hr.nilI; exact ⟨.d .nilI, fun _ => .nilI⟩
    | ifc => simp only [frz, Option.some.injEq] at e; subst e; obtain ⟨t, u, rfl⟩ := hr.ifc; exact ⟨.d (.ifc _ _), fun _ => .ifc _ _⟩
    | bool b => simp only [frz, Option.some.injEq] at e; subst e; obtain rfl := hr.bool; exact ⟨.d (.bool _), fun _ => .bool _⟩
    | imm rows => simp only [frz, Option.some.injEq] at e; subst e; exact ⟨.d (D _ _ hr.imm), fun _ => D _ _ hr.imm⟩
    | nils =>
      simp only [frz, Option.some.injEq] at e; subst e
      cases hr with
      | d hd => cases hd
      | nils ad => exact ⟨.d (.imm0 _ _), fun _ => .imm0 _ _⟩
    | own id off len =>
      cases hr with
      | d hd => cases hd
      | @own _ _ _ o ad cap ho hl hc hcur =>
        simp only [frz, ho] at e
        split at e
        case isFalse => cases e
        rename_i hh
        obtain ⟨hlen, hst⟩ := hh
        cases hm : (o.rows.drop off).mapM (fun r => List.mapM (frz h strict n) r) with
        | none => rw [hm] at e; simp at e
        | some rows' =>
          rw [hm] at e
          simp only [Option.map_some, Option.some.injEq] at e
          subst e
          have hl' := mapM_length hm
          rw [List.length_drop] at hl'
          have hln : rows'.length = len := by omega
          have key : RepD w (imF strict im ι h) (.slice ad len cap) (.imm rows') := by
            rcases Nat.eq_zero_or_pos len with h0 | hpos
            · have : rows' = [] := List.eq_nil_of_length_eq_zero (by omega)
              subst this; subst h0
              exact .imm0 _ _
            · rcases hcur hlen with h0 | ⟨b, hb, rfl, _⟩
              · omega
              have hmem : o.rows[off]'(by omega) ∈ o.rows := List.getElem_mem _
              obtain ⟨b', c, et, hb', hcells, hl2, hsz, hcell⟩ := G.at_ ho hmem (.inr ⟨b, hb⟩)
              rw [hb] at hb'; cases hb'
              have himb : imF strict im ι h b := by
                cases hf : o.fz with
                | true => exact .inl ((G.fzIm id o b ho hb).1 hf)
                | false =>
                  refine .inr ⟨?_, id, o, ho, hf, hb⟩
                  cases strict with
                  | true => rw [hst rfl] at hf; cases hf
                  | false => rfl
              have hrow : ∀ (i : Nat) r', rows'[i]? = some r' → ∃ r, o.rows[off + i]? = some r ∧ r.mapM (frz h strict n) = some r' := fun i r' hi => by
                obtain ⟨r, h1, h2⟩ := mapM_get' hm i r' hi
                rw [List.getElem?_drop] at h1
                exact ⟨r, h1, h2⟩
              have hcellv : ∀ (i j : Nat) r' x, rows'[i]? = some r' → r'[j]? = some x → ∃ u, c[off * o.sz + (i * o.sz + j)]? = some u ∧ u.oneCell' = true ∧ RepD w (imF strict im ι h) u x := fun i j r' x h1 h2 => by
                obtain ⟨r, g1, g2⟩ := hrow i r' h1
                obtain ⟨y, g3, g4⟩ := mapM_get' g2 j x h2
                obtain ⟨u, g5, g6, g7⟩ := hcell (off + i) j r y g1 g3
                refine ⟨u, ?_, g6, (ih y x u g7 g4).2 g6⟩
                rw [← Nat.add_assoc, ← Nat.add_mul]; exact g5
              refine .imm b (off * o.sz) len cap o.sz rows' (fun i j => c.getD (off * o.sz + (i * o.sz + j)) undef) hln hc himb (fun r' hr' => ?_) (fun i j r' x h1 h2 => ?_) (fun i j r' x h1 h2 => ?_) (fun i j r' x h1 h2 => ?_)
              · obtain ⟨i, hi, rfl⟩ := List.mem_iff_getElem.1 hr'
                obtain ⟨r, g1, g2⟩ := hrow i _ (List.getElem?_eq_getElem hi)
                rw [mapM_length g2]
                exact hsz r (List.mem_of_getElem? g1)
              · obtain ⟨u, g1, _, _⟩ := hcellv i j r' x h1 h2
                simp only [World.cell?, hcells, Option.isSome_none, Bool.false_eq_true, if_false, Array.getD_eq_getD_getElem?, g1, Option.getD_some]
              · obtain ⟨u, g1, g2, _⟩ := hcellv i j r' x h1 h2
                simp only [Array.getD_eq_getD_getElem?, g1, Option.getD_some, g2]
              · obtain ⟨u, g1, _, g3⟩ := hcellv i j r' x h1 h2
                simp only [Array.getD_eq_getD_getElem?, g1, Option.getD_some]
                exact g3
          exact ⟨.d key, fun _ => key⟩
    | agg cs =>
      simp only [frz] at e
      cases hm : cs.mapM (frz h strict n) with
      | none => rw [hm] at e; simp at e
      | some cs' =>
        rw [hm] at e
        simp only [Option.map_some, Option.some.injEq] at e
        subst e
        cases hr with
        | d hd => cases hd
        | agg hl h1 hra =>
          refine ⟨.agg (by rw [hl, mapM_length hm]) h1 fun i v a hv ha => ?_, fun hc => by simp [Value.oneCell'] at hc⟩
          obtain ⟨x, g1, g2⟩ := mapM_get' hm i a ha
          exact (ih x a v (hra i v x hv g1) g2).1
    | tup cs =>
      simp only [frz] at e
      cases hm : cs.mapM (frz h strict n) with
      | none => rw [hm] at e; simp at e
      | some cs' =>
        rw [hm] at e
        simp only [Option.map_some, Option.some.injEq] at e
        subst e
        cases hr with
        | d hd => cases hd
        | tup hl hra =>
          refine ⟨.tup (by rw [hl, mapM_length hm]) fun i v a hv ha => ?_, fun hc => by simp [Value.oneCell'] at hc⟩
          obtain ⟨x, g1, g2⟩ := mapM_get' hm i a ha
          exact (ih x a v (hra i v x hv g1) g2).1
    | _ => simp [frz] at e

/-- What has no slices and no references reads alike everywhere. -/
theorem RepA.sc1 {w1 : World} {im1 : Nat → Prop} {ι1 : Nat → Option Nat} {h1 : H} {v : Value} {a : A} (hr : RepA w im ι h v a) (hn : scA a = true) : RepA w1 im1 ι1 h1 v a := by
  cases a with
  | int k n => obtain rfl := hr.int; exact .d (.int _ _)
  | sym k n => obtain rfl := hr.sym; exact .d (.sym _ _)
  | imm rows =>
    have hr0 : rows = [] := by simpa [scA] using hn
    subst hr0
    rcases hr.imm.imm_at with ⟨ad, cap, rfl, _⟩ | ⟨b, off, cap, sz, vals, rfl, _⟩ <;> exact .d (.imm0 _ _)
  | bool b => obtain rfl := hr.bool; exact .d (.bool _)
  | _ => simp [scA] at hn
theorem RepA.sc2 {w1 : World} {im1 : Nat → Prop} {ι1 : Nat → Option Nat} {h1 : H} {v : Value} {a : A} (hr : RepA w im ι h v a) (hn : sc2A a = true) : RepA w1 im1 ι1 h1 v a := by
  cases a with
  | agg cs =>
    cases hr with
    | d hd => cases hd
    | agg hl h1c hra => exact .agg hl h1c fun i v a hv ha => (hra i v a hv ha).sc1 (List.all_eq_true.1 hn a (List.mem_of_getElem? ha))
  | _ => exact hr.sc1 hn
theorem RepA.sc {w1 : World} {im1 : Nat → Prop} {ι1 : Nat → Option Nat} {h1 : H} {v : Value} {a : A} (hr : RepA w im ι h v a) (hn : noSl a = true) : RepA w1 im1 ι1 h1 v a := by
  cases a with
  | tup vs =>
    cases hr with
    | d hd => cases hd
    | tup hl hra => exact .tup hl fun i v a hv ha => (hra i v a hv ha).sc2 (List.all_eq_true.1 hn a (List.mem_of_getElem? ha))
  | _ => exact hr.sc2 hn
end
end Go.Ab
