/- spinneylaw14.ForestKnown returns true for every input, and its arguments read afterwards as before: the card. No condition. This text: part 1 of 10. -/
import Derived.RangeFuncKeeps
import Derived.RangeFuncLeaves
import Derived.OrdersIn
import Derived.KernelRfl
import Derived.Laws.Sem
import Derived.Laws.World
import Derived.Below
import Derived.ChangeKeysEq
import Derived.Laws.StructEq
import Derived.LaidEqlPtr
import Derived.Sort.Defs
import Derived.Sort.Statements
import Derived.Laws.Externs
import Derived.Sort.LotD5
import Derived.Sort.LotC
import Derived.Sort.LotA
import Derived.Sort.Walk13a
import Derived.Sort.AssemblyPlain
import Derived.Shelf.SlSortCmp.NoneTotal
import Derived.Deep.SlicePairs
import Derived.Lib.LaidTab
import Derived.WalkKit
import Derived.ProofKit
import Derived.OpenShut
import Derived.Carry
import Derived.Lay
import Derived.Deep.DeepHandedRow
set_option linter.unusedVariables false
set_option linter.unusedSimpArgs false
set_option linter.unusedSectionVars false
namespace Go.Sp
def FW (rd : Option Nat) : Fence := { Fence.wide with round := rd }
inductive MOp where
  | mov (x : Operand)
  | pick (c a b : Operand)
  | new (T : TypeId) (z : Array Value)
  | box (T : TypeId) (x : Operand)
  | mk (z : Array Value) (ps : List (Nat × Nat × Operand))
  | mkSlice (T : TypeId) (n : Nat) (z : Array Value) (ps : List (Nat × Nat × Operand))
  | load1 (a : Operand)
  | loadN (n : Nat) (a : Operand)
  | store (n : Nat) (a x : Operand)
  | nilc (x : Operand)
  | bin (op : BinOp) (t : TypeId) (x y : Operand)
  | ibin (op : BinOp) (x y : Operand)
  | un (op : UnOp) (x : Operand)
  | toInt (k : IntKind) (x : Operand)
  | b2s (x : Operand)
  | fn (f : FuncId) (first cap : Array Operand)
  | mkMap
  | slS (size : Nat) (x : Operand) (lo hi : Option Operand)
  | slA (n size : Nat) (x : Operand) (lo hi : Option Operand)
  | faddr (off : Nat) (x : Operand)
  | fld (agg : Bool) (off size : Nat) (x : Operand)
  | iaddr (size : Nat) (x i : Operand)
  | iaddrA (len size : Nat) (x i : Operand)
  | idx (len size : Nat) (agg : Bool) (x i : Operand)
  | lookup (K : TypeId) (z : Value) (m k : Operand) (ok : Bool)
  | mapUpd (K : TypeId) (m k v : Operand)
  | range (m : Operand)
  | next (it : Operand)
  | entry (it : Operand)
  | ext (x : Operand) (i : Nat)
  | call (f : FuncId) (args : Array Operand)
  | callv (x : Operand) (args : Array Operand)
  | lenS (x : Operand)
  | append (T : TypeId) (size bytes : Nat) (z : Array Value) (s x : Operand)
  | min2 (x y : Operand)
  | capS (x : Operand)
  | delete (K : TypeId) (m k : Operand)
  | copy (size : Nat) (d s : Operand)
  | mkSl (T : TypeId) (size bytes : Nat) (z : Array Value) (l c : Operand)
  | slS3 (size : Nat) (x : Operand) (lo hi mx : Option Operand)
  | s2b (T : TypeId) (x : Operand)
  | b2b (x : Operand)
  | s2arr (n : Nat) (x : Operand)
  | sidx (x i : Operand)
  | mkIface (t : TypeId) (x : Operand)
  | tassert (t u : TypeId) (x : Operand)
  | callx (f : FuncId) (args : Array Operand)
  | growN (T : TypeId) (size bytes : Nat) (z : Array Value) (s x : Operand)
  | trap
  deriving Inhabited
abbrev DOp := List Nat × Option (Option Nat × Bool) × Option Nat × MOp
inductive Ins where
  | op (g : Option (Option Nat × Bool)) (d : Option Nat) (m : MOp)
  | cond (x : Operand) (t e : List Ins)
  | block (id : Nat) (b : List Ins)
  | loop (b : List Ins)
  | exit (id : Nat)
  | ret
  | draw (fr : List DOp) (tl : List Ins)
  | rangeF (f : Operand) (ps : Array Nat) (asg body : List Ins)
  | bad
  deriving Inhabited
/-! ### what each operation does -/
/-- the cells of an aggregate, its parts (offset, size, value) laid in -/
def fillP (cells : Array Value) : List (Nat × Nat × Value) → Option (Array Value)
  | [] => some cells
  | (off, size, v) :: rest =>
    if v.cells.size ≠ size || off + v.cells.size > cells.size then none
    else fillP (v.cells.zipIdx.foldl (fun cs (c, j) => cs.setIfInBounds (off + j) c) cells) rest
def appendTo (T : TypeId) (size bytes : Nat) (z : Array Value) (s x : Value) : Sem Value := do
  let .slice base sLen sCap := s | stuck "append: slice expected"
  let n ← Builtin.lenOf x
  let need := sLen + n
  if need ≤ sCap then
    let new ← Builtin.firstCells size n x
    if let some a := base then storeCells (a.add (sLen * size)) new.toList
    pure (.slice base need sCap)
  else
    if (need : Int) > IntKind.i64.max ∧ bytes = 0 then runtimePanic (.error "growslice: len out of range")
    if Builtin.nextslicecap need sCap * bytes > 2 ^ 48 then (do
      if !(← Builtin.mayShare size sLen n base x) then mark .noRoom
      unsupported (.resourceLimit "append: a slice or a string whose bytes no memory bears"))
    let newCap ← choose (.appendCap need sCap T)
    askRoom (newCap * bytes)
    let old ← Builtin.firstCells size sLen s
    let new ← Builtin.firstCells size n x
    let rest := Builtin.zeroCells z (newCap - need)
    pure (.slice (some (← newRow T (old ++ new ++ rest))) need newCap)
def makeSlice' (T : TypeId) (size bytes : Nat) (z : Array Value) (len cap : Value) : Sem Value := do
  let len ← asInt len
  let cap ← asInt cap
  let tooLarge (n : Int) : Bool := n < 0 || bytes * n > 2 ^ 48
  let l := IntKind.i64.wrap len
  let c := IntKind.i64.wrap cap
  if tooLarge c || l < 0 || l > c then stuck "makeslice"
  askRoom (c.toNat * bytes)
  let n := c.toNat * size
  let a ← newRow T ((Array.range n).map (z[· % z.size]!))
  pure (.slice (some a) l.toNat c.toNat)
/-- append(s, make([]T, x)...) -/
def growTo (T : TypeId) (size bytes : Nat) (z : Array Value) (s x : Value) : Sem Value := do
  let .slice base sLen sCap := s | stuck "append: slice expected"
  let l := IntKind.i64.wrap (← asInt x)
  if l < 0 then stuck "append"
  if l * bytes > 2 ^ 48 then stuck "append"
  let n := l.toNat
  let need := sLen + n
  if need ≤ sCap then stuck "append"
  if (need : Int) > IntKind.i64.max then stuck "append"
  if Builtin.nextslicecap need sCap * bytes > 2 ^ 48 then stuck "append"
  let newCap ← choose (.appendCap need sCap T)
  askRoom (newCap * bytes)
  let old ← Builtin.firstCells size sLen s
  if n * size = 0 then stuck "append"
  let new := Builtin.zeroCells z n
  let rest := Builtin.zeroCells z (newCap - need)
  pure (.slice (some (← newRow T (old ++ new ++ rest))) need newCap)
def mapUpdate' (K : TypeId) (m k x : Value) : Sem Unit := do
  match m with
  | .map none => runtimePanic (.plain "assignment to entry in nil map")
  | .map (some r) =>
    let .map es clock ← getObj r | stuck "MapUpdate: map expected"
    Instr.checkKey false 10000 K k
    match ← Instr.findKey K k es.toList with
    | some (i, _) => do
      let key ← Instr.keyThatStays (((es[i]?).map (·.key)).getD k) k
      setObj r (.map (es.modify i fun e => { e with key, val := x }) clock)
    | none => setObj r (.map (es.push { key := k, val := x, born := clock }) (clock + 1))
  | _ => stuck "MapUpdate: map expected"
def MOp.sem (ρ : Operand → Value) : MOp → Sem Next
  | .mov x => pure (.value (ρ x))
  | .pick c a b => do pure (.value (if ← asBool (ρ c) then ρ a else ρ b))
  | .new T z => do pure (.value (.pointer (some (← newRow T z))))
  | .box T x => do pure (.value (.pointer (some (← newVar T (ρ x)))))
  | .mk z ps =>
    match fillP z (ps.map fun p => (p.1, p.2.1, ρ p.2.2)) with
    | some cells => pure (.value (.agg cells))
    | none => stuck "build: no such field, or a part of the wrong size"
  | .mkSlice T n z ps =>
    match fillP z (ps.map fun p => (p.1, p.2.1, ρ p.2.2)) with
    | some cells => do pure (.value (.slice (some (← newRow T cells)) n n))
    | none => stuck "buildSlice: a part of the wrong size"
  | .load1 a => do pure (.value (← load (← Instr.sureAddr (ρ a))))
  | .loadN n a => do pure (.value (.agg (← loadCells (← Instr.sureAddr (ρ a)) n)))
  | .store n a x => do
    let a ← Instr.sureAddr (ρ a)
    if (ρ x).cells.size ≠ n then stuck "storeVar: the value has not the size of the variable"
    storeCells a (ρ x).cells.toList
    pure .skip
  | .nilc x =>
    match ρ x with
    | .pointer (some a) => pure (.value (.pointer (some a)))
    | .pointer none => runtimePanic .nilDeref
    | _ => stuck "nilCheck: a pointer expected"
  | .bin op t x y => do eqGuard op t x y (ρ x) (ρ y); pure (.value (← binOp op t (ρ x) (ρ y)))
  | .ibin op x y =>
    match ρ x, ρ y with
    | .int k a, .int k' b => do pure (.value (← binOp op 0 (.int k a) (.int k' b)))
    | .string a, .string b => do pure (.value (← binOp op 0 (.string a) (.string b)))
    | _, _ => stuck "integers or strings expected"
  | .un op x => do pure (.value (← Op.unary op (ρ x)))
  | .toInt k x =>
    match ρ x with
    | .int _ n => do pure (.value (← Conv.intToInt k n))
    | _ => stuck "convert: an integer expected"
  | .b2s x => do pure (.value (← Conv.bytesToString (ρ x)))
  | .fn f first cap => pure (.value (.func (.func f) (first.map ρ) (cap.map ρ)))
  | .mkMap => do pure (.value (.map (some (← newObj (.map #[] 0)))))
  | .slS size x lo hi =>
    match ρ x with
    | .slice a len cap => do
      let (l, h, m) ← Instr.sliceBounds true len cap (lo.map ρ) (hi.map ρ) none
      pure (.value (.slice (if m = l then a else a.map (·.add (l * size))) (h - l) (m - l)))
    | _ => stuck "slice expected"
  | .slA n size x lo hi => do
    let a ← Instr.sureAddr (ρ x)
    let (l, h, m) ← Instr.sliceBounds false n n (lo.map ρ) (hi.map ρ) none
    pure (.value (.slice (some (if m = l then a else a.add (l * size))) (h - l) (m - l)))
  | .faddr off x => do
    let a ← Instr.sureAddr (ρ x)
    pure (.value (.pointer (some (a.add off))))
  | .fld agg off size x => do
    let cs ← asAgg (ρ x)
    if agg then pure (.value (.agg (cs.extract off (off + size))))
    else match cs[off]? with
      | some v => pure (.value v)
      | none => stuck "part: no such cell"
  | .iaddr size x i => do
    let (k, i) ← asIntOf (ρ i)
    match ρ x with
    | .slice (some a) len _ =>
      if 0 ≤ i ∧ i < len then pure (.value (.pointer (some (a.add (i.toNat * size))))) else do pure (.value (← boundsPanic k i len .index))
    | .slice none _ _ => do pure (.value (← boundsPanic k i 0 .index))
    | _ => stuck "indexAddr: an array's address or a slice expected"
  | .iaddrA len size x i => do
    let (k, i) ← asIntOf (ρ i)
    let a ← Instr.sureAddr (ρ x)
    if 0 ≤ i ∧ i < len then pure (.value (.pointer (some (a.add (i.toNat * size)))))
    else if len ≤ 1 then unsupported (.noEntry "op/indexAddr.an index out of range at an array of length 0 or 1 (ledger 616)")
    else do pure (.value (← boundsPanic k i len .index))
  | .idx len size agg x i => do
    let (k, i) ← asIntOf (ρ i)
    match ρ x with
    | .agg cs =>
      if 0 ≤ i ∧ i < len then
        if agg then pure (.value (.agg (cs.extract (i.toNat * size) (i.toNat * size + size))))
        else match cs[i.toNat * size]? with
          | some v => pure (.value v)
          | none => stuck "part: no such cell"
      else do pure (.value (← boundsPanic k i len .index))
    | _ => stuck "Index: array or string expected"
  | .lookup K z x i ok => do
    let es ← match ρ x with
      | .map none => pure #[]
      | .map (some r) => do
        let .map es _ ← getObj r | stuck "Lookup: map expected"
        pure es
      | _ => stuck "Lookup: map expected"
    Instr.checkKey es.isEmpty 10000 K (ρ i)
    let (v, o) ← match ← Instr.findKey K (ρ i) es.toList with
      | some (_, v) => pure (v, true)
      | none => pure (z, false)
    pure (.value (if ok then .tuple #[v, .bool o] else v))
  | .mapUpd K m k x => do mapUpdate' K (ρ m) (ρ k) (ρ x); pure .skip
  | .range x => do
    let it ← match ρ x with
      | .map none => pure (.mapIter none 0 #[] 0)
      | .map (some m) => do
        let .map _ clock ← getObj m | stuck "Range: map expected"
        pure (.mapIter (some m) clock #[] clock)
      | _ => stuck "Range: string or map expected"
    pure (.value (.pointer (some ⟨← newObj it, 0, none⟩)))
  | .next it => do pure (.value (← Instr.next (ρ it) false 0))
  | .entry it => do pure (.value (← Instr.entry (ρ it)))
  | .ext x i => do pure (.value (← Instr.extract (ρ x) i))
  | .call f args => pure (.enter f (args.map ρ))
  | .callv x args => do let d ← Deferred.ofValue (ρ x) (args.map ρ); invoke d.target d.args
  | .lenS x =>
    match ρ x with
    | .slice _ n _ => pure (.value (goInt n))
    | _ => stuck "len: slice expected"
  | .append T size bytes z s x => do pure (.value (← appendTo T size bytes z (ρ s) (ρ x)))
  | .min2 x y =>
    match ρ x, ρ y with
    | .int k a, .int _ b => pure (.value (.int k (if b < a then b else a)))
    | _, _ => stuck "min: two integers expected"
  | .capS x =>
    match ρ x with
    | .slice _ _ n => pure (.value (goInt n))
    | _ => stuck "cap: slice expected"
  | .delete K m k => do
    match ρ m with
    | .map none => Instr.checkKey true 10000 K (ρ k)
    | .map (some r) =>
      let .map es clock ← getObj r | stuck "delete: map expected"
      Instr.checkKey es.isEmpty 10000 K (ρ k)
      match ← Instr.findKey K (ρ k) es.toList with
      | some (i, _) => setObj r (.map (es.eraseIdxIfInBounds i) clock)
      | none => setObj r (.map es clock)
    | _ => stuck "delete: map expected"
    pure (.value (.tuple #[]))
  | .copy size d s => do
    let .slice base dLen _ := ρ d | stuck "copy: slice expected"
    let n := Nat.min (← Builtin.lenOf (ρ s)) dLen
    let cells ← Builtin.firstCells size n (ρ s)
    if let some a := base then storeCells a cells.toList
    pure (.value (goInt n))
  | .mkSl T size bytes z l c => do pure (.value (← makeSlice' T size bytes z (ρ l) (ρ c)))
  | .slS3 size x lo hi mx =>
    match ρ x with
    | .slice a len cap => do
      let (l, h, m) ← Instr.sliceBounds true len cap (lo.map ρ) (hi.map ρ) (mx.map ρ)
      pure (.value (.slice (if m = l then a else a.map (·.add (l * size))) (h - l) (m - l)))
    | _ => stuck "slice expected"
  | .s2b T x =>
    match ρ x with
    | .string s => do pure (.value (← Conv.stringToBytes T s))
    | _ => stuck "string expected"
  | .b2b x =>
    match ρ x with
    | .slice (some a) l c => do markStringish a; pure (.value (.slice (some a) l c))
    | _ => stuck "slice expected"
  | .s2arr n x =>
    match ρ x with
    | .slice a len _ => do
      if len < n then runtimePanic (.bounds n len false .convert) else pure (.value (.pointer a))
    | _ => stuck "slice expected"
  | .sidx x i => do
    let (k, i) ← asIntOf (ρ i)
    match ρ x with
    | .string s =>
      match (if 0 ≤ i then s[i.toNat]? else none) with
      | some b => pure (.value (.int .u8 b.toNat))
      | none => do pure (.value (← boundsPanic k i s.size .index))
    | _ => stuck "Index: array or string expected"
  | .mkIface t x => do pure (.value (← Instr.makeInterface t (ρ x)))
  | .tassert t u x => do pure (.value (← Instr.typeAssert (ρ x) t u false))
  | .callx f args => callFunc f (args.map ρ)
  | .growN T size bytes z s x => do pure (.value (← growTo T size bytes z (ρ s) (ρ x)))
  | .trap => stuck "trap"
/-! ### the walk's meaning -/
def dummy (d : Option Nat) : Oper := { dst := d, op := .move (.const undef), type := 0, pos := "", after := #[], guard := none }
def gOK (g : Option (Option Nat × Bool)) (tmps : Array Value) : Bool :=
  match g with
  | none => true
  | some (j, want) =>
    match j.bind (tmps[·]?) with
    | some (.bool b) => b == want
    | _ => false
def stepOp (P : Program) (rd : Option Nat) (g : Option (Option Nat × Bool)) (d : Option Nat) (m : MOp) (next : Act → World → Prop) (Q : Exit → Act → World → Prop) (a : Act) (w : World) : Prop :=
  if gOK g a.tmps then (dummy d).uponIn (FW rd) 0 P a next Q ((m.sem a.eval).run P w) else next (a.put d undef) w
/-! ### from the model's operations to these -/
def aggD : TypeDesc → Bool
  | .struct _ | .array _ _ => true
  | _ => false
def partsOf (P : Program) (fs : Array Field) (ps : List (Nat × Operand)) : Option (List (Nat × Nat × Operand)) :=
  ps.mapM fun (j, x) => (fs[j]?).bind fun f => (P.info? f.type).map fun i => (f.offset, i.size, x)
def convO (P : Program) (o : Oper) : MOp :=
  match o.op with
  | .move x => .mov x
  | .assign x => .mov x
  | .pick c a b => .pick c a b
  | .alloc e =>
    match (P.info? e).bind (·.zero) with
    | some z => .new e z.cells
    | none => .trap
  | .box e x => .box e x
  | .build t ps =>
    match (P.info? t).bind (·.zero), P.underlying t with
    | some z, some (.struct fs) =>
      match partsOf P fs ps.toList with
      | some l => if fs.all fun f => (P.info? f.type).isSome then .mk z.cells l else .trap
      | none => .trap
    | some z, some (.array _ e) =>
      match P.info? e with
      | some i => .mk z.cells (ps.toList.map fun (j, x) => (j * i.size, i.size, x))
      | none => .trap
    | _, _ => .trap
  | .buildSlice t n ps =>
    match P.underlying t with
    | some (.slice e) =>
      match P.info? e with
      | some i =>
        match i.zero with
        | some z => if n * i.size ≤ 2 ^ 24 then .mkSlice e n ((Array.range (n * i.size)).map (z.cells[· % z.cells.size]!)) (ps.toList.map fun (j, x) => (j * i.size, i.size, x)) else .trap
        | none => .trap
      | none => .trap
    | _ => .trap
  | .load t a =>
    match P.underlying t, P.info? t with
    | some d, some i => if aggD d then .loadN i.size a else .load1 a
    | _, _ => .trap
  | .store t a x =>
    match P.info? t with
    | some i => .store i.size a x
    | none => .trap
  | .nilCheck x => .nilc x
  | .binOp op t x y _ =>
    match P.underlying t with
    | some (.int _) => .ibin op x y
    | some .string => .ibin op x y
    | _ => .bin op t x y
  | .unOp op _ x => .un op x
  | .convert s d x =>
    match P.underlying s, P.underlying d with
    | some (.int _), some (.int k) => .toInt k x
    | some (.slice e), some .string =>
      match P.underlying e with
      | some (.int .u8) => .b2s x
      | _ => .trap
    | some .string, some (.slice e) =>
      match P.underlying e with
      | some (.int .u8) => .s2b e x
      | _ => .trap
    | some (.slice _), some (.slice e) =>
      match s == d, P.underlying e with
      | true, some (.int .u8) => .b2b x
      | _, _ => .trap
    | _, _ => .trap
  | .makeFunc (.func f) first cap => .fn f first cap
  | .makeMap _ none => .mkMap
  | .slice t x lo hi none =>
    match P.underlying t with
    | some (.slice e) =>
      match P.info? e with
      | some i => .slS i.size x lo hi
      | none => .trap
    | some (.array n e) =>
      match P.info? e with
      | some i => .slA n i.size x lo hi
      | none => .trap
    | _ => .trap
  | .slice t x lo hi (some mx) =>
    match P.underlying t with
    | some (.slice e) =>
      match P.info? e with
      | some i => .slS3 i.size x lo hi (some mx)
      | none => .trap
    | _ => .trap
  | .sliceToArrayPointer t x =>
    match P.underlying t with
    | some (.array n _) => .s2arr n x
    | _ => .trap
  | .makeInterface t x => .mkIface t x
  | .typeAssert x t u false => .tassert t u x
  | .makeSlice t l c =>
    match P.underlying t with
    | some (.slice e) =>
      match P.info? e with
      | some i =>
        match i.zero with
        | some z => .mkSl e i.size i.bytes z.cells l c
        | none => .trap
      | none => .trap
    | _ => .trap
  | .fieldAddr s x f =>
    match P.underlying s with
    | some (.struct fs) =>
      match fs[f]? with
      | some fd =>
        match P.info? fd.type with
        | some i => if i.size = 0 then .trap else .faddr fd.offset x
        | none => .trap
      | none => .trap
    | _ => .trap
  | .field t x f =>
    match P.underlying t with
    | some (.struct fs) =>
      match fs[f]? with
      | some fd =>
        match P.info? fd.type, P.underlying fd.type with
        | some i, some d => .fld (aggD d) fd.offset i.size x
        | _, _ => .trap
      | none => .trap
    | _ => .trap
  | .indexAddr t x i =>
    match P.underlying t with
    | some (.slice e) =>
      match P.info? e with
      | some inf => .iaddr inf.size x i
      | none => .trap
    | some (.array n e) =>
      match P.info? e with
      | some inf => .iaddrA n inf.size x i
      | none => .trap
    | _ => .trap
  | .index t x i =>
    match P.underlying t with
    | some (.array n e) =>
      match P.info? e, P.underlying e with
      | some inf, some d => .idx n inf.size (aggD d) x i
      | _, _ => .trap
    | some .string => .sidx x i
    | _ => .trap
  | .lookup t m k ok =>
    match P.underlying t with
    | some (.map K E) =>
      match (P.info? E).bind (·.zero) with
      | some z => .lookup K z m k ok
      | none => .trap
    | _ => .trap
  | .mapUpdate t m k v =>
    match P.underlying t with
    | some (.map K _) => .mapUpd K m k v
    | _ => .trap
  | .insert t m k v =>
    match P.underlying t with
    | some (.map K _) => .mapUpd K m k v
    | _ => .trap
  | .range t x =>
    match P.underlying t with
    | some (.map _ _) => .range x
    | _ => .trap
  | .next it false => .next it
  | .entry it => .entry it
  | .extract x i => .ext x i
  | .call c =>
    match c.callee with
    | .value (.func f) =>
      match P.funcs[f]? with
      | some fn => if fn.body.isSome && fn.name != "runtime.NumGoroutine" then .call f c.args else .callx f c.args
      | none => .trap
    | .value x => .callv x c.args
    | .builtin .len =>
      match c.argTypes[0]?, c.args[0]? with
      | some t, some x =>
        match P.underlying t with
        | some (.slice _) => .lenS x
        | _ => .trap
      | _, _ => .trap
    | .builtin .append =>
      match c.argTypes.toList, c.args.toList with
      | [t, u], [s, x] =>
        match P.underlying t, P.underlying u with
        | some (.slice e), some (.slice _) =>
          match P.info? e with
          | some i =>
            match i.zero with
            | some z => .append e i.size i.bytes z.cells s x
            | none => .trap
          | none => .trap
        | some (.slice e), some (.int _) =>
          match P.info? e with
          | some i =>
            match i.zero with
            | some z => .growN e i.size i.bytes z.cells s x
            | none => .trap
          | none => .trap
        | _, _ => .trap
      | _, _ => .trap
    | .builtin .min =>
      match c.args.toList with
      | [x, y] => .min2 x y
      | _ => .trap
    | .builtin .cap =>
      match c.argTypes[0]?, c.args[0]? with
      | some t, some x =>
        match P.underlying t with
        | some (.slice _) => .capS x
        | _ => .trap
      | _, _ => .trap
    | .builtin .delete =>
      match c.argTypes.toList, c.args.toList with
      | [t, _], [m, k] =>
        match P.underlying t with
        | some (.map K _) => .delete K m k
        | _ => .trap
      | _, _ => .trap
    | .builtin .copy =>
      match c.argTypes.toList, c.args.toList with
      | [t, _], [x, y] =>
        match P.underlying t with
        | some (.slice e) =>
          match P.info? e with
          | some i => .copy i.size x y
          | none => .trap
        | _ => .trap
      | _, _ => .trap
    | _ => .trap
  | _ => .trap
end Go.Sp
namespace Go.Sp
abbrev yt (n : Nat) : Operand := .tmp n
abbrev ym (d s : Nat) : Ins := .op none (some d) (.mov (.tmp s))
abbrev yo (d : Nat) (m : MOp) : Ins := .op none (some d) m
abbrev yg (j : Nat) (b : Bool) (d : Nat) (m : MOp) : Ins := .op (some (some j, b)) (some d) m
abbrev ys (n a b : Nat) : Ins := .op none none (.store n (.tmp a) (.tmp b))
abbrev yd (l : List Nat) (d : Nat) (m : MOp) : DOp := (l, none, some d, m)
abbrev ye (l : List Nat) (j : Nat) (b : Bool) (d : Nat) (m : MOp) : DOp := (l, some (some j, b), some d, m)
end Go.Sp

namespace Go.Sp
def Stuck {α : Type} (r : Result α) : Prop := ∃ s w', r = .halt (.stuck s) w'
theorem then_then {α β γ : Type} (r : Result α) (f : α → World → Result β) (g : β → World → Result γ) :
    (r.andThen f).andThen g = r.andThen fun a w => (f a w).andThen g := by cases r <;> rfl
theorem run_info {P : Program} {t : TypeId} {i : TypeInfo} (h : P.info? t = some i) (w : World) : (typeInfo t).run P w = .ok i w := by
  simp [typeInfo, h]
theorem run_und {P : Program} {t : TypeId} {d : TypeDesc} (h : P.underlying t = some d) (w : World) : (underlying t).run P w = .ok d w := by
  simp [underlying, h]
theorem run_zero {P : Program} {t : TypeId} {z : Value} (h : (P.info? t).bind (·.zero) = some z) (w : World) : (zeroValue t).run P w = .ok z w := by
  cases hi : P.info? t with
  | none => simp [hi] at h
  | some i => simp [hi] at h; simp [zeroValue, run_info hi, h]
theorem run_size {P : Program} {t : TypeId} {i : TypeInfo} (h : P.info? t = some i) (w : World) : (sizeOf t).run P w = .ok i.size w := by
  simp [sizeOf, run_info h]
theorem run_aggq {P : Program} {t : TypeId} {d : TypeDesc} (h : P.underlying t = some d) (w : World) : (isAgg t).run P w = .ok (aggD d) w := by
  cases d <;> simp [isAgg, run_und h, aggD]
def placed (place : Nat → Option (Nat × Nat)) (p : Nat × Value) : Option (Nat × Nat × Value) := (place p.1).map fun q => (q.1, q.2, p.2)
theorem fill_fillP (place : Nat → Option (Nat × Nat)) : ∀ (ps : List (Nat × Value)) (qs : List (Nat × Nat × Value)) (z : Array Value),
    ps.mapM (placed place) = some qs → Instr.fill place z ps = fillP z qs := by
  intro ps
  induction ps with
  | nil => intro qs z h; simp at h; subst h; rfl
  | cons p ps ih =>
    obtain ⟨j, v⟩ := p
    intro qs z h
    simp only [List.mapM_cons] at h
    cases hp : place j with
    | none => simp [placed, hp] at h
    | some q =>
      obtain ⟨off, size⟩ := q
      cases hr : ps.mapM (placed place) with
      | none => rw [hr] at h; simp [placed, hp] at h
      | some rs =>
        rw [hr] at h
        simp [placed, hp] at h
        subst h
        simp only [Instr.fill, hp, fillP]
        split
        · rfl
        · exact ih _ _ hr
theorem parts_run {P : Program} {fs : Array Field} (hfs : (fs.all fun f => (P.info? f.type).isSome) = true) (w : World) :
    ∃ places : Array (Nat × Nat), (fs.mapM (fun f => do pure (f.offset, ← sizeOf f.type) : Field → Sem (Nat × Nat))).run P w = .ok places w ∧
      ∀ (j : Nat), places[j]? = (fs[j]?).bind fun f => (P.info? f.type).map fun i => (f.offset, i.size) := by
  have key : ∀ l : List Field, (∀ f ∈ l, (P.info? f.type).isSome = true) → ∃ ps : List (Nat × Nat),
      (l.mapM (fun f => do pure (f.offset, ← sizeOf f.type) : Field → Sem (Nat × Nat))).run P w = .ok ps w ∧
      ∀ (j : Nat), ps[j]? = (l[j]?).bind fun f => (P.info? f.type).map fun i => (f.offset, i.size) := by
    intro l
    induction l with
    | nil => intro _; exact ⟨[], by simp, by simp⟩
    | cons f l ih =>
      intro h
      obtain ⟨ps, hr, hps⟩ := ih fun g hg => h g (List.mem_cons_of_mem _ hg)
      obtain ⟨i, hi⟩ := Option.isSome_iff_exists.1 (h f List.mem_cons_self)
      refine ⟨(f.offset, i.size) :: ps, ?_, ?_⟩
      · simp only [List.mapM_cons, Sem.run_bind, Sem.run_pure, run_size hi, Result.andThen_ok, hr]
      · intro j
        cases j with
        | zero => simp [hi]
        | succ j => simpa using hps j
  obtain ⟨ps, hr, hps⟩ := key fs.toList (fun f hf => by
    rw [Array.all_eq_true_iff_forall_mem] at hfs
    exact hfs f (Array.mem_toList_iff.1 hf))
  refine ⟨ps.toArray, ?_, ?_⟩
  · rw [Array.mapM_eq_mapM_toList]
    rw [Sem.run_map, hr]
    rfl
  · intro j
    simpa using hps j
theorem mapM_parts {P : Program} {fs : Array Field} {ρ : Operand → Value} : ∀ (ps : List (Nat × Operand)) (l : List (Nat × Nat × Operand)), partsOf P fs ps = some l →
    ∀ place : Nat → Option (Nat × Nat), (∀ j, place j = (fs[j]?).bind fun f => (P.info? f.type).map fun i => (f.offset, i.size)) →
    (ps.map fun p => (p.1, ρ p.2)).mapM (placed place) = some (l.map fun p => (p.1, p.2.1, ρ p.2.2)) := by
  intro ps
  induction ps with
  | nil => intro l h place _; simp [partsOf] at h; subst h; rfl
  | cons p ps ih =>
    obtain ⟨j, x⟩ := p
    intro l h place hp
    unfold partsOf at h
    simp only [List.mapM_cons] at h
    cases hq : (fs[j]?).bind (fun f => (P.info? f.type).map fun i => (f.offset, i.size, x)) with
    | none => rw [hq] at h; simp at h
    | some q =>
      cases hr : partsOf P fs ps with
      | none => rw [hq] at h; unfold partsOf at hr; rw [hr] at h; simp at h
      | some rs =>
        have hr' := hr
        rw [hq] at h; unfold partsOf at hr; rw [hr] at h; simp at h
        subst h
        simp only [List.map_cons, List.mapM_cons, ih rs hr' place hp]
        cases hf : fs[j]? with
        | none => simp [hf] at hq
        | some f =>
          cases hi : P.info? f.type with
          | none => simp [hf, hi] at hq
          | some i =>
            simp [hf, hi] at hq
            subst hq
            simp [placed, hp, hf, hi]
theorem mapM_sized {ρ : Operand → Value} (size : Nat) : ∀ (ps : List (Nat × Operand)),
    (ps.map fun p => (p.1, ρ p.2)).mapM (placed fun i => some (i * size, size)) = some (ps.map fun p => (p.1 * size, size, ρ p.2)) := by
  intro ps
  induction ps with
  | nil => rfl
  | cons p ps ih => simp only [List.map_cons, List.mapM_cons, ih]; rfl
theorem nz_match (t : Option (Array Value)) (s : String) (P : Program) (w : World) :
    (Sem.run P (match t with | some cells => pure (Value.agg cells) | _ => stuck s) w).andThen (fun v w' => Result.ok (Next.value v) w') =
    Sem.run P (match t with | some cells => pure (Next.value (Value.agg cells)) | none => stuck s) w := by
  cases t <;> rfl
theorem append_ok {P : Program} {t u e e' : TypeId} {i : TypeInfo} {z : Value} (hu : P.underlying t = some (.slice e)) (hu' : P.underlying u = some (.slice e'))
    (hi : P.info? e = some i) (hz : i.zero = some z) (ty : TypeId) (sv xv : Value) (w : World) :
    Stuck ((appendTo e i.size i.bytes z.cells sv xv).run P w) ∨ (Builtin.append_ #[t, u] ty #[sv, xv]).run P w = (appendTo e i.size i.bytes z.cells sv xv).run P w := by
  have hz' : (P.info? e).bind (·.zero) = some z := by simp [hi, hz]
  unfold Builtin.append_
  simp only [List.getElem?_toArray, List.getElem?_cons_zero, List.getElem?_cons_succ, Sem.run_bind, run_und hu, Result.andThen_ok]
  cases sv <;> first | exact .inl ⟨_, _, rfl⟩ | skip
  rename_i base sLen sCap
  refine .inr ?_
  unfold appendTo
  simp only [Sem.run_bind, run_size hi, run_und hu', Result.andThen_ok, Sem.run_pure, Bool.false_eq_true, if_false, Bool.not_false, if_true]
  cases (Builtin.lenOf xv).run P w with
  | halt h w' => rfl
  | ok n w1 =>
    simp only [Result.andThen_ok]
    by_cases hn : sLen + n ≤ sCap
    · simp only [hn, if_true]
      rfl
    · simp only [hn, if_false, Sem.run_bind, run_info hi, Result.andThen_ok, false_or, Bool.false_eq_true]
      by_cases h1 : ((sLen + n : Nat) : Int) > IntKind.i64.max ∧ i.bytes = 0
      · simp only [h1, and_self, if_true, Sem.run_bind]
        rfl
      · simp only [h1, if_false, Sem.run_bind, run_info hi, Result.andThen_ok]
        by_cases h2 : Builtin.nextslicecap (sLen + n) sCap * i.bytes > 2 ^ 48
        · simp only [h2, if_true, Sem.run_bind, run_info hi, run_zero hz', Result.andThen_ok]
        · simp only [h2, if_false, Sem.run_bind, run_info hi, run_zero hz', Result.andThen_ok]
theorem grow_ok {P : Program} {t u e : TypeId} {K : IntKind} {i : TypeInfo} {z : Value} (hu : P.underlying t = some (.slice e)) (hu' : P.underlying u = some (.int K))
    (hi : P.info? e = some i) (hz : i.zero = some z) (ty : TypeId) (sv xv : Value) (w : World) :
    Stuck ((growTo e i.size i.bytes z.cells sv xv).run P w) ∨ (Builtin.append_ #[t, u] ty #[sv, xv]).run P w = (growTo e i.size i.bytes z.cells sv xv).run P w := by
  have hz' : (P.info? e).bind (·.zero) = some z := by simp [hi, hz]
  unfold Builtin.append_
  simp only [List.getElem?_toArray, List.getElem?_cons_zero, List.getElem?_cons_succ, Sem.run_bind, run_und hu, Result.andThen_ok]
  cases sv <;> first | exact .inl ⟨_, _, rfl⟩ | skip
  rename_i base sLen sCap
  unfold growTo
  simp only [Sem.run_bind, run_size hi, run_und hu', Result.andThen_ok, Sem.run_pure, if_true]
  cases (asInt xv).run P w with
  | halt h w' => exact .inr rfl
  | ok n w1 =>
    simp only [Result.andThen_ok]
    by_cases h1 : IntKind.i64.wrap n < 0
    · simp only [h1, if_true]; exact .inl ⟨_, _, rfl⟩
    · simp only [h1, if_false, Sem.run_bind, run_info hi, Result.andThen_ok]
      by_cases h2 : IntKind.i64.wrap n * (i.bytes : Int) > 2 ^ 48
      · simp only [h2, if_true]; exact .inl ⟨_, _, rfl⟩
      · simp only [h2, if_false, Sem.run_bind, Sem.run_pure, Result.andThen_ok]
        by_cases h3 : sLen + (IntKind.i64.wrap n).toNat ≤ sCap
        · simp only [h3, if_true]; exact .inl ⟨_, _, rfl⟩
        · simp only [h3, if_false, Sem.run_bind, run_info hi, Result.andThen_ok, true_or, and_true]
          by_cases h4 : ((sLen + (IntKind.i64.wrap n).toNat : Nat) : Int) > IntKind.i64.max
          · simp only [h4, if_true]; exact .inl ⟨_, _, rfl⟩
          · simp only [h4, if_false, Sem.run_bind, run_info hi, Result.andThen_ok]
            by_cases h5 : Builtin.nextslicecap (sLen + (IntKind.i64.wrap n).toNat) sCap * i.bytes > 2 ^ 48
            · simp only [h5, if_true]; exact .inl ⟨_, _, rfl⟩
            · simp only [h5, if_false, Sem.run_bind, run_info hi, run_zero hz', Result.andThen_ok, Bool.not_true, Bool.false_eq_true]
              cases (choose (.appendCap (sLen + (IntKind.i64.wrap n).toNat) sCap e)).run P w1 with
              | halt h w' => exact .inr rfl
              | ok nc w2 =>
                simp only [Result.andThen_ok]
                cases (askRoom (nc * i.bytes)).run P w2 with
                | halt h w' => exact .inr rfl
                | ok u w3 =>
                  simp only [Result.andThen_ok]
                  cases (Builtin.firstCells i.size sLen (.slice base sLen sCap)).run P w3 with
                  | halt h w' => exact .inr rfl
                  | ok old w4 =>
                    simp only [Result.andThen_ok]
                    by_cases h6 : (IntKind.i64.wrap n).toNat * i.size = 0
                    · simp only [h6, if_true]; exact .inl ⟨_, _, rfl⟩
                    · refine .inr ?_
                      simp only [h6, if_false, Sem.run_bind, run_zero hz', Result.andThen_ok, Sem.run_pure]
theorem mkSl_ok {P : Program} {t e : TypeId} {i : TypeInfo} {z : Value} (hu : P.underlying t = some (.slice e)) (hi : P.info? e = some i) (hz : i.zero = some z) (lv cv : Value) (w : World) :
    Stuck ((makeSlice' e i.size i.bytes z.cells lv cv).run P w) ∨ (Instr.makeSlice t lv cv).run P w = (makeSlice' e i.size i.bytes z.cells lv cv).run P w := by
  have hz' : (P.info? e).bind (·.zero) = some z := by simp [hi, hz]
  unfold Instr.makeSlice makeSlice'
  simp only [Sem.run_bind, run_und hu, Result.andThen_ok]
  cases (asInt lv).run P w with
  | halt h w' => exact .inr rfl
  | ok l w1 =>
    simp only [Result.andThen_ok]
    cases (asInt cv).run P w1 with
    | halt h w' => exact .inr rfl
    | ok c w2 =>
      simp only [Result.andThen_ok, run_info hi]
      split
      · exact .inl ⟨_, _, rfl⟩
      · simp only [Sem.run_bind]
        cases (askRoom ((IntKind.i64.wrap c).toNat * i.bytes)).run P w2 with
        | halt h w' => exact .inr rfl
        | ok u w3 =>
          simp only [Result.andThen_ok, run_size hi]
          by_cases h0 : (IntKind.i64.wrap c).toNat * i.size = 0
          · simp only [h0, if_true, Sem.run_bind, Sem.run_pure, Result.andThen_ok]
            refine .inr ?_
            have e2 : (Array.map (fun x => (#[] : Array Value)[x % (#[] : Array Value).size]!) (Array.range 0)) = Array.map (fun x => z.cells[x % z.cells.size]!) (Array.range 0) := by simp
            rw [e2]
          · refine .inr ?_
            simp only [h0, if_false, Sem.run_bind, run_zero hz', Result.andThen_ok, Sem.run_pure]
theorem convO_ok (P : Program) (o : Oper) (a : Act) (w : World) :
    Stuck (((convO P o).sem a.eval).run P w) ∨ (execOp a.eval o).run P w = ((convO P o).sem a.eval).run P w := by
  obtain ⟨dst, op, type, pos, after, guard⟩ := o
  cases op with
  | move x => first | exact .inr rfl | exact .inl ⟨_, _, rfl⟩
  | assign x => first | exact .inr rfl | exact .inl ⟨_, _, rfl⟩
  | pick c x y => first | exact .inr rfl | exact .inl ⟨_, _, rfl⟩
  | alloc e =>
    simp only [convO]
    cases h : (P.info? e).bind (·.zero) with
    | none => first | exact .inr rfl | exact .inl ⟨_, _, rfl⟩
    | some z => exact .inr (by simp [execOp, MOp.sem, Instr.alloc, run_zero h, newVar])
  | box e x => exact .inr (by simp [execOp, MOp.sem, Instr.box, convO])
  | build t ps =>
    simp only [convO]
    split
    · rename_i z fs hz hu
      split
      · rename_i l hl
        split
        · rename_i hall
          refine .inr ?_
          obtain ⟨places, hr, hp⟩ := parts_run hall w
          have hf := fill_fillP (places[·]?) _ _ z.cells (mapM_parts (ρ := a.eval) _ _ hl (places[·]?) hp)
          simp only [execOp, MOp.sem, Instr.build, Sem.run_bind, run_zero hz, Result.andThen_ok, run_und hu, hr]
          have e1 : (ps.map fun (i, x) => (i, a.eval x)).toList = ps.toList.map fun p => (p.1, a.eval p.2) := by simp
          rw [e1, hf]
          exact nz_match _ _ P w
        · first | exact .inr rfl | exact .inl ⟨_, _, rfl⟩
      · first | exact .inr rfl | exact .inl ⟨_, _, rfl⟩
    · rename_i z n e hz hu
      split
      · rename_i i hi
        have hf := fill_fillP (fun j => some (j * i.size, i.size)) _ _ z.cells (mapM_sized (ρ := a.eval) i.size ps.toList)
        simp only [execOp, MOp.sem, Instr.build, Sem.run_bind, run_zero hz, Result.andThen_ok, run_und hu, run_size hi]
        have e1 : (ps.map fun (i, x) => (i, a.eval x)).toList = ps.toList.map fun p => (p.1, a.eval p.2) := by simp
        rw [e1, hf, List.map_map]
        show Stuck (Sem.run P (match fillP z.cells (List.map (fun p : Nat × Operand => (p.1 * i.size, i.size, a.eval p.2)) ps.toList) with
          | some cells => pure (Next.value (Value.agg cells))
          | none => stuck "build: no such field, or a part of the wrong size") w) ∨ _ = (Sem.run P (match fillP z.cells (List.map (fun p : Nat × Operand => (p.1 * i.size, i.size, a.eval p.2)) ps.toList) with
          | some cells => pure (Next.value (Value.agg cells))
          | none => stuck "build: no such field, or a part of the wrong size") w)
        cases fillP z.cells (List.map (fun p : Nat × Operand => (p.1 * i.size, i.size, a.eval p.2)) ps.toList) with
        | none => exact .inl ⟨_, _, rfl⟩
        | some c => first | exact .inr rfl | exact .inl ⟨_, _, rfl⟩
      · first | exact .inr rfl | exact .inl ⟨_, _, rfl⟩
    · first | exact .inr rfl | exact .inl ⟨_, _, rfl⟩
  | buildSlice t n ps =>
    simp only [convO]
    split
    · rename_i e hu
      split
      · rename_i i hi
        split
        · rename_i z hz
          split
          · rename_i hle
            refine .inr ?_
            have hf := fill_fillP (fun j => some (j * i.size, i.size)) _ _ ((Array.range (n * i.size)).map (z.cells[· % z.cells.size]!)) (mapM_sized (ρ := a.eval) i.size ps.toList)
            have hz' : (P.info? e).bind (·.zero) = some z := by simp [hi, hz]
            have e1 : (ps.map fun (i, x) => (i, a.eval x)).toList = ps.toList.map fun p => (p.1, a.eval p.2) := by simp
            simp only [execOp, MOp.sem, Instr.buildSlice, Sem.run_bind, Result.andThen_ok, run_und hu, run_size hi, Sem.run_ite, if_neg (show ¬ n * i.size > 2 ^ 24 by omega), e1]
            by_cases h0 : n * i.size = 0
            · simp only [h0, if_true, Sem.run_pure, Result.andThen_ok]
              have e2 : (Array.map (fun x => (#[] : Array Value)[x % (#[] : Array Value).size]!) (Array.range 0)) = Array.map (fun x => z.cells[x % z.cells.size]!) (Array.range 0) := by simp
              rw [h0] at hf
              rw [e2, hf, List.map_map]
              show _ = Sem.run P (match fillP _ (List.map (fun p : Nat × Operand => (p.1 * i.size, i.size, a.eval p.2)) ps.toList) with
                | some cells => do pure (Next.value (Value.slice (some (← newRow e cells)) n n))
                | none => stuck "buildSlice: a part of the wrong size") w
              cases fillP _ (List.map (fun p : Nat × Operand => (p.1 * i.size, i.size, a.eval p.2)) ps.toList) <;> simp [then_then]
            · simp only [h0, if_false, Sem.run_bind, run_zero hz', Result.andThen_ok, Sem.run_pure, hf, List.map_map]
              show _ = Sem.run P (match fillP _ (List.map (fun p : Nat × Operand => (p.1 * i.size, i.size, a.eval p.2)) ps.toList) with
                | some cells => do pure (Next.value (Value.slice (some (← newRow e cells)) n n))
                | none => stuck "buildSlice: a part of the wrong size") w
              cases fillP _ (List.map (fun p : Nat × Operand => (p.1 * i.size, i.size, a.eval p.2)) ps.toList) <;> simp [then_then]
          · first | exact .inr rfl | exact .inl ⟨_, _, rfl⟩
        · first | exact .inr rfl | exact .inl ⟨_, _, rfl⟩
      · first | exact .inr rfl | exact .inl ⟨_, _, rfl⟩
    · first | exact .inr rfl | exact .inl ⟨_, _, rfl⟩
  | load t x =>
    simp only [convO]
    split
    · rename_i d i hu hi
      refine .inr ?_
      split
      · rename_i h
        simp [execOp, MOp.sem, Instr.loadAt, loadVar, run_aggq hu, run_size hi, h, then_then]
      · rename_i h
        simp [execOp, MOp.sem, Instr.loadAt, loadVar, run_aggq hu, run_size hi, h, then_then]
    · first | exact .inr rfl | exact .inl ⟨_, _, rfl⟩
  | store t x v =>
    simp only [convO]
    split
    · rename_i i hi
      refine .inr ?_
      simp [execOp, MOp.sem, Instr.storeAt, storeVar, run_size hi, then_then]
    · first | exact .inr rfl | exact .inl ⟨_, _, rfl⟩
  | nilCheck x =>
    simp only [execOp, MOp.sem, convO]
    cases hx : a.eval x <;> first | exact .inl ⟨_, _, rfl⟩ | skip
    rename_i p
    cases p <;> first | exact .inr rfl | exact .inl ⟨_, _, rfl⟩
  | binOp op t x y yt =>
    simp only [convO]
    split
    · simp only [execOp, MOp.sem]
      cases a.eval x <;> cases a.eval y <;> first | exact .inl ⟨_, _, rfl⟩ | skip
      · exact .inr (by cases op <;> simp [eqGuard, then_then, binOp])
      · exact .inr (by cases op <;> simp [eqGuard, then_then, binOp])
    · simp only [execOp, MOp.sem]
      cases a.eval x <;> cases a.eval y <;> first | exact .inl ⟨_, _, rfl⟩ | skip
      · exact .inr (by cases op <;> simp [eqGuard, then_then, binOp])
      · exact .inr (by cases op <;> simp [eqGuard, then_then, binOp])
    · exact .inr (by simp [execOp, MOp.sem, then_then])
  | unOp op t x => exact .inr (by simp [execOp, MOp.sem, convO, then_then])
  | convert s d x =>
    simp only [convO]
    split
    · rename_i k k' hs hd
      simp only [execOp, MOp.sem, convert, Sem.run_bind, run_und hs, run_und hd, Result.andThen_ok]
      cases a.eval x <;> first | exact .inr rfl | exact .inl ⟨_, _, rfl⟩
    · rename_i e hs hd
      split
      · rename_i he
        simp only [execOp, MOp.sem, convert, Sem.run_bind, run_und hs, run_und hd, Result.andThen_ok]
        cases a.eval x <;> first | exact .inl ⟨_, _, rfl⟩ | skip
        all_goals (refine .inr ?_; simp [run_und he, then_then])
      · exact .inl ⟨_, _, rfl⟩
    · rename_i e hs hd
      split
      · rename_i he
        simp only [execOp, MOp.sem, convert, Sem.run_bind, run_und hs, run_und hd, Result.andThen_ok]
        cases a.eval x <;> first | exact .inl ⟨_, _, rfl⟩ | skip
        refine .inr ?_
        simp [run_und he, then_then]
      · exact .inl ⟨_, _, rfl⟩
    · rename_i e0 e hs hd
      split
      · rename_i hsd he
        simp only [execOp, MOp.sem, convert, Sem.run_bind, run_und hs, run_und hd, Result.andThen_ok]
        cases a.eval x <;> first | exact .inl ⟨_, _, rfl⟩ | skip
        rename_i base l c
        cases base with
        | none => exact .inl ⟨_, _, rfl⟩
        | some b =>
          refine .inr ?_
          have hsd' : s = d := by simpa using hsd
          subst hsd'
          simp [run_und he, then_then]
      · exact .inl ⟨_, _, rfl⟩
    · exact .inl ⟨_, _, rfl⟩
  | makeFunc fn first cap =>
    cases fn <;> first | exact .inr rfl | exact .inl ⟨_, _, rfl⟩
  | makeMap t r =>
    cases r with
    | none => exact .inr (by simp [execOp, MOp.sem, convO, Instr.makeMap])
    | some r => first | exact .inr rfl | exact .inl ⟨_, _, rfl⟩
  | slice t x lo hi mx =>
    cases mx with
    | some m =>
      simp only [convO]
      split
      · rename_i e hu
        split
        · rename_i i hi
          simp only [execOp, MOp.sem, Instr.sliceAt, Instr.slice, Sem.run_bind, run_und hu, Result.andThen_ok]
          cases a.eval x <;> first | exact .inl ⟨_, _, rfl⟩ | skip
          refine .inr ?_
          simp [run_size hi, then_then]
        · exact .inl ⟨_, _, rfl⟩
      · exact .inl ⟨_, _, rfl⟩
    | none =>
      simp only [convO]
      split
      · rename_i e hu
        split
        · rename_i i hi
          simp only [execOp, MOp.sem, Instr.sliceAt, Instr.slice, Sem.run_bind, run_und hu, Result.andThen_ok]
          cases a.eval x <;> first | exact .inl ⟨_, _, rfl⟩ | skip
          refine .inr ?_
          simp [run_size hi, then_then]
        · first | exact .inr rfl | exact .inl ⟨_, _, rfl⟩
      · rename_i n e hu
        split
        · rename_i i hi
          refine .inr ?_
          simp [execOp, MOp.sem, Instr.sliceAt, run_und hu, run_size hi, then_then]
        · first | exact .inr rfl | exact .inl ⟨_, _, rfl⟩
      · first | exact .inr rfl | exact .inl ⟨_, _, rfl⟩
  | fieldAddr s x f =>
    simp only [convO]
    split
    · rename_i fs hu
      split
      · rename_i fd hf
        split
        · rename_i i hi
          split
          · first | exact .inr rfl | exact .inl ⟨_, _, rfl⟩
          · rename_i h0
            refine .inr ?_
            simp [execOp, MOp.sem, Instr.fieldAt, fieldPlace, run_und hu, run_size hi, hf, h0, then_then]
        · first | exact .inr rfl | exact .inl ⟨_, _, rfl⟩
      · first | exact .inr rfl | exact .inl ⟨_, _, rfl⟩
    · first | exact .inr rfl | exact .inl ⟨_, _, rfl⟩
  | field t x f =>
    simp only [convO]
    split
    · rename_i fs hu
      split
      · rename_i fd hf
        split
        · rename_i i d hi hd
          refine .inr ?_
          simp [execOp, MOp.sem, Instr.field, part, run_und hu, run_size hi, run_aggq hd, hf, then_then]
          congr 1
          funext cs w'
          split
          · simp
          · split <;> simp [*]
        · first | exact .inr rfl | exact .inl ⟨_, _, rfl⟩
      · first | exact .inr rfl | exact .inl ⟨_, _, rfl⟩
    · first | exact .inr rfl | exact .inl ⟨_, _, rfl⟩
  | indexAddr t x i =>
    simp only [convO]
    split
    · rename_i e hu
      split
      · rename_i inf hi
        simp only [execOp, MOp.sem, Instr.indexAt, Sem.run_bind, run_und hu, Result.andThen_ok, then_then]
        cases (asIntOf (a.eval i)).run P w with
        | halt h w' => first | exact .inr rfl | exact .inl ⟨_, _, rfl⟩
        | ok ki w' =>
          obtain ⟨k, j⟩ := ki
          cases a.eval x <;> first | exact .inl ⟨_, _, rfl⟩ | skip
          rename_i base len cap
          refine .inr ?_
          cases base with
          | none => simp [run_und hu, then_then]
          | some b =>
            by_cases hj : 0 ≤ j ∧ j < (len : Int) <;> simp [run_und hu, run_size hi, then_then, hj]
      · first | exact .inr rfl | exact .inl ⟨_, _, rfl⟩
    · rename_i n e hu
      split
      · rename_i inf hi
        simp only [execOp, MOp.sem, Instr.indexAt, Sem.run_bind, run_und hu, Result.andThen_ok, then_then]
        cases (asIntOf (a.eval i)).run P w with
        | halt h w' => first | exact .inr rfl | exact .inl ⟨_, _, rfl⟩
        | ok ki w' =>
          obtain ⟨k, j⟩ := ki
          refine .inr ?_
          simp [run_und hu, run_size hi, then_then]
      · first | exact .inr rfl | exact .inl ⟨_, _, rfl⟩
    · first | exact .inr rfl | exact .inl ⟨_, _, rfl⟩
  | index t x i =>
    simp only [convO]
    split
    · rename_i n e hu
      split
      · rename_i inf d hi hd
        simp only [execOp, MOp.sem, Instr.index, Sem.run_bind, run_und hu, Result.andThen_ok, then_then]
        cases (asIntOf (a.eval i)).run P w with
        | halt h w' => first | exact .inr rfl | exact .inl ⟨_, _, rfl⟩
        | ok ki w' =>
          obtain ⟨k, j⟩ := ki
          simp only [Result.andThen_ok, Sem.run_bind, run_und hu]
          cases a.eval x <;> first | exact .inl ⟨_, _, rfl⟩ | skip
          rename_i cs
          refine .inr ?_
          by_cases hj : 0 ≤ j ∧ j < (n : Int)
          · simp only [hj, and_self, if_true, Sem.run_bind, run_size hi, Result.andThen_ok, part, run_aggq hd, then_then]
            by_cases hag : aggD d = true
            · simp [hag, run_size hi]
            · simp only [hag, if_false, Bool.false_eq_true]
              cases cs[j.toNat * inf.size]? <;> simp
          · simp [hj]
      · exact .inl ⟨_, _, rfl⟩
    · rename_i hu
      simp only [execOp, MOp.sem, Instr.index, Sem.run_bind, run_und hu, Result.andThen_ok, then_then]
      cases (asIntOf (a.eval i)).run P w with
      | halt h w' => exact .inr rfl
      | ok ki w' =>
        obtain ⟨k, j⟩ := ki
        simp only [Result.andThen_ok, Sem.run_bind, run_und hu]
        cases a.eval x <;> first | exact .inl ⟨_, _, rfl⟩ | skip
        rename_i st
        refine .inr ?_
        simp only []
        cases (if 0 ≤ j then st[j.toNat]? else none) <;> simp
    · exact .inl ⟨_, _, rfl⟩
  | lookup t m k ok =>
    simp only [convO]
    split
    · rename_i K E hu
      split
      · rename_i z hz
        have fin : ∀ (es : Array MapEntry) (w1 : World), ((Sem.run P (do
              Instr.checkKey es.isEmpty 10000 K (a.eval k)
              let (v, o) ← match ← Instr.findKey K (a.eval k) es.toList with
                | some (_, v) => pure (v, true)
                | none => pure (← zeroValue E, false)
              pure (if ok then Value.tuple #[v, .bool o] else v) : Sem Value) w1).andThen fun a w' => Result.ok (Next.value a) w') =
            Sem.run P (do
              Instr.checkKey es.isEmpty 10000 K (a.eval k)
              let (v, o) ← match ← Instr.findKey K (a.eval k) es.toList with
                | some (_, v) => pure (v, true)
                | none => pure (z, false)
              pure (Next.value (if ok then Value.tuple #[v, .bool o] else v)) : Sem Next) w1 := by
          intro es w1
          simp only [Sem.run_bind, then_then]
          congr 1
          funext _ w2
          congr 1
          funext r w3
          cases r <;> simp [run_zero hz]
        simp only [execOp, MOp.sem, Instr.lookup, Sem.run_bind, run_und hu, Result.andThen_ok]
        cases a.eval m <;> first | exact .inl ⟨_, _, rfl⟩ | skip
        rename_i r
        refine .inr ?_
        cases r with
        | none => exact fin #[] w
        | some r =>
          simp only [Sem.run_bind]
          cases (getObj r).run P w with
          | halt h w' => rfl
          | ok ob w' =>
            cases ob <;> first | exact fin _ _ | rfl
      · first | exact .inr rfl | exact .inl ⟨_, _, rfl⟩
    · first | exact .inr rfl | exact .inl ⟨_, _, rfl⟩
  | mapUpdate t m k v =>
    simp only [convO]
    split
    · rename_i K E hu
      refine .inr ?_
      simp only [execOp, MOp.sem, Instr.mapUpdate, Sem.run_bind, run_und hu, Result.andThen_ok, then_then]
      rfl
    · first | exact .inr rfl | exact .inl ⟨_, _, rfl⟩
  | insert t m k v =>
    simp only [convO]
    split
    · rename_i K E hu
      refine .inr ?_
      simp only [execOp, MOp.sem, Instr.mapUpdate, Sem.run_bind, run_und hu, Result.andThen_ok, then_then]
      rfl
    · first | exact .inr rfl | exact .inl ⟨_, _, rfl⟩
  | range t x =>
    simp only [convO]
    split
    · rename_i K E hu
      simp only [execOp, MOp.sem, Instr.range, Sem.run_bind, run_und hu, Result.andThen_ok, then_then]
      cases a.eval x <;> first | exact .inl ⟨_, _, rfl⟩ | skip
      rename_i r
      refine .inr ?_
      cases r with
      | none => simp
      | some r =>
        simp only [Sem.run_bind, then_then]
        cases (getObj r).run P w with
        | halt h w' => rfl
        | ok ob w' => cases ob <;> simp
    · first | exact .inr rfl | exact .inl ⟨_, _, rfl⟩
  | sliceToArrayPointer t x =>
    simp only [convO]
    split
    · rename_i n e hu
      simp only [execOp, MOp.sem, Instr.arrayAt, Sem.run_bind, run_und hu, Result.andThen_ok]
      cases a.eval x <;> first | exact .inl ⟨_, _, rfl⟩ | skip
      rename_i base l c
      refine .inr ?_
      simp only []
      by_cases h : l < n
      · simp only [h, if_true, Sem.run_bind]; rfl
      · simp [h]
    · exact .inl ⟨_, _, rfl⟩
  | makeSlice t l c =>
    simp only [convO]
    split
    · rename_i e hu
      split
      · rename_i i hi
        split
        · rename_i z hz
          have hm := mkSl_ok hu hi hz (a.eval l) (a.eval c) w
          simp only [execOp, MOp.sem, Sem.run_bind]
          rcases hm with ⟨st, w', hs⟩ | hs
          · rw [hs]; exact .inl ⟨_, _, rfl⟩
          · rw [hs]; exact .inr rfl
        · exact .inl ⟨_, _, rfl⟩
      · exact .inl ⟨_, _, rfl⟩
    · exact .inl ⟨_, _, rfl⟩
  | typeAssert x t u b => cases b <;> first | exact .inr rfl | exact .inl ⟨_, _, rfl⟩
  | next it b => cases b <;> first | exact .inr rfl | exact .inl ⟨_, _, rfl⟩
  | entry it => first | exact .inr rfl | exact .inl ⟨_, _, rfl⟩
  | extract x i => first | exact .inr rfl | exact .inl ⟨_, _, rfl⟩
  | call c =>
    obtain ⟨callee, args, argTypes⟩ := c
    simp only [convO]
    split
    · rename_i f
      split
      · rename_i fn hf
        split
        · rename_i hb
          refine .inr ?_
          simp only [Bool.and_eq_true, bne_iff_ne, ne_eq] at hb
          obtain ⟨hb1, hb2⟩ := hb
          have hb1' : fn.body ≠ none := by cases h : fn.body <;> simp [h] at hb1 ⊢
          simp [execOp, MOp.sem, resolve, Act.eval, Deferred.ofValue, invoke, callFunc, hf, hb1', hb2]
        · refine .inr ?_
          simp [execOp, MOp.sem, resolve, Act.eval, Deferred.ofValue, invoke]
      · first | exact .inr rfl | exact .inl ⟨_, _, rfl⟩
    · rename_i x hx
      refine .inr ?_
      simp [execOp, MOp.sem, resolve]
    · split
      · rename_i t x ht hx
        split
        · rename_i e hu
          simp only [execOp, MOp.sem, resolve, Sem.run_bind, Sem.run_pure, Result.andThen_ok, invoke, builtin, Builtin.len_]
          have hx' : (args.map a.eval)[0]? = some (a.eval x) := by simp [hx]
          simp only [ht, hx', Sem.run_bind, run_und hu, Result.andThen_ok]
          cases a.eval x <;> first | exact .inl ⟨_, _, rfl⟩ | exact .inr rfl
        · first | exact .inr rfl | exact .inl ⟨_, _, rfl⟩
      · first | exact .inr rfl | exact .inl ⟨_, _, rfl⟩
    · split
      · rename_i t u s x ht hx
        split
        · rename_i e e' hu hu'
          split
          · rename_i i hi
            split
            · rename_i z hz
              have hz' : (P.info? e).bind (·.zero) = some z := by simp [hi, hz]
              have ha : args = #[s, x] := by rw [← hx]
              have hat : argTypes = #[t, u] := by rw [← ht]
              subst ha; subst hat
              simp only [execOp, MOp.sem, resolve, Sem.run_bind, Sem.run_pure, Result.andThen_ok, invoke, builtin]
              have hap := append_ok hu hu' hi hz type (a.eval s) (a.eval x) w
              have e1 : #[s, x].map a.eval = #[a.eval s, a.eval x] := by simp
              rw [e1]
              rcases hap with ⟨st, w', hs⟩ | hs
              · rw [hs]; exact .inl ⟨_, _, rfl⟩
              · rw [hs]; exact .inr rfl
            · exact .inl ⟨_, _, rfl⟩
          · exact .inl ⟨_, _, rfl⟩
        · rename_i e K hu hu'
          split
          · rename_i i hi
            split
            · rename_i z hz
              have ha : args = #[s, x] := by rw [← hx]
              have hat : argTypes = #[t, u] := by rw [← ht]
              subst ha; subst hat
              simp only [execOp, MOp.sem, resolve, Sem.run_bind, Sem.run_pure, Result.andThen_ok, invoke, builtin]
              have hap := grow_ok hu hu' hi hz type (a.eval s) (a.eval x) w
              have e1 : #[s, x].map a.eval = #[a.eval s, a.eval x] := by simp
              rw [e1]
              rcases hap with ⟨st, w', hs⟩ | hs
              · rw [hs]; exact .inl ⟨_, _, rfl⟩
              · rw [hs]; exact .inr rfl
            · exact .inl ⟨_, _, rfl⟩
          · exact .inl ⟨_, _, rfl⟩
        · exact .inl ⟨_, _, rfl⟩
      · exact .inl ⟨_, _, rfl⟩
    · split
      · rename_i x y hx
        have ha : args = #[x, y] := by rw [← hx]
        subst ha
        simp only [execOp, MOp.sem, resolve, Sem.run_bind, Sem.run_pure, Result.andThen_ok, invoke, builtin, Builtin.min_]
        have e1 : (#[x, y].map a.eval).toList = [a.eval x, a.eval y] := by simp
        simp only [e1, List.foldlM_cons, List.foldlM_nil, Sem.run_bind]
        cases a.eval x <;> cases a.eval y <;> first | exact .inl ⟨_, _, rfl⟩ | exact .inr rfl
      · exact .inl ⟨_, _, rfl⟩
    · split
      · rename_i t x ht hx
        split
        · rename_i e hu
          simp only [execOp, MOp.sem, resolve, Sem.run_bind, Sem.run_pure, Result.andThen_ok, invoke, builtin, Builtin.cap_]
          have hx' : (args.map a.eval)[0]? = some (a.eval x) := by simp [hx]
          simp only [ht, hx', Sem.run_bind, run_und hu, Result.andThen_ok]
          cases a.eval x <;> first | exact .inl ⟨_, _, rfl⟩ | exact .inr rfl
        · exact .inl ⟨_, _, rfl⟩
      · exact .inl ⟨_, _, rfl⟩
    · split
      · rename_i t u m k ht hx
        split
        · rename_i K E hu
          have ha : args = #[m, k] := by rw [← hx]
          have hat : argTypes = #[t, u] := by rw [← ht]
          subst ha; subst hat
          simp only [execOp, MOp.sem, resolve, Sem.run_bind, Sem.run_pure, Result.andThen_ok, invoke, builtin, Builtin.delete_]
          have e1 : #[m, k].map a.eval = #[a.eval m, a.eval k] := by simp
          simp only [e1, List.getElem?_toArray, List.getElem?_cons_zero, List.getElem?_cons_succ, Sem.run_bind, run_und hu, Result.andThen_ok]
          cases a.eval m <;> first | exact .inl ⟨_, _, rfl⟩ | skip
          rename_i r
          refine .inr ?_
          cases r with
          | none => simp [then_then]
          | some r =>
            simp only [Sem.run_bind, then_then]
            cases (getObj r).run P w with
            | halt h w' => rfl
            | ok ob w' =>
              cases ob <;> simp [then_then]
              congr 1
              funext _ w2
              congr 1
              funext r w3
              cases r <;> simp [then_then]
        · exact .inl ⟨_, _, rfl⟩
      · exact .inl ⟨_, _, rfl⟩
    · split
      · rename_i t u x y ht hx
        split
        · rename_i e hu
          split
          · rename_i i hi
            have ha : args = #[x, y] := by rw [← hx]
            have hat : argTypes = #[t, u] := by rw [← ht]
            subst ha; subst hat
            simp only [execOp, MOp.sem, resolve, Sem.run_bind, Sem.run_pure, Result.andThen_ok, invoke, builtin, Builtin.copy_]
            have e1 : #[x, y].map a.eval = #[a.eval x, a.eval y] := by simp
            simp only [e1, List.getElem?_toArray, List.getElem?_cons_zero, List.getElem?_cons_succ, Sem.run_bind, run_und hu, Result.andThen_ok]
            cases a.eval x <;> first | exact .inl ⟨_, _, rfl⟩ | skip
            rename_i base l c
            refine .inr ?_
            simp only [Sem.run_bind, then_then]
            congr 1
            funext n w1
            simp only [run_size hi, Result.andThen_ok]
            congr 1
            funext cs w2
            cases base <;> simp [then_then]
          · exact .inl ⟨_, _, rfl⟩
        · exact .inl ⟨_, _, rfl⟩
      · exact .inl ⟨_, _, rfl⟩
    · exact .inl ⟨_, _, rfl⟩
  | _ => first | exact .inr rfl | exact .inl ⟨_, _, rfl⟩
end Go.Sp

namespace Go.Sp
theorem least {p : Nat → Prop} : ∀ m, p m → ∃ m, p m ∧ ∀ m', p m' → m ≤ m' := by
  intro m
  induction m using Nat.strongRecOn with
  | _ m ih =>
    intro hm
    by_cases h : ∃ m', m' < m ∧ p m'
    · obtain ⟨m', hlt, hp⟩ := h
      exact ih m' hlt hp
    · exact ⟨m, hm, fun m' hp => Nat.le_of_not_lt fun hlt => h ⟨m', hlt, hp⟩⟩
noncomputable def leastOf (p : Nat → Prop) : Nat := by
  classical exact if h : ∃ m, p m ∧ ∀ m', p m' → m ≤ m' then Classical.choose h else 0
theorem leastOf_spec {p : Nat → Prop} {m : Nat} (hm : p m) : p (leastOf p) ∧ leastOf p ≤ m := by
  have h := least m hm
  unfold leastOf
  rw [dif_pos h]
  exact ⟨(Classical.choose_spec h).1, (Classical.choose_spec h).2 m hm⟩
def isDefer (o : Oper) : Bool := match o.op with | .defer _ => true | _ => false
def convG (ops : Array Oper) (o : Oper) : Option (Option Nat × Bool) := o.guard.map fun p => ((ops[p.1]?).bind (·.dst), p.2)
def convI (P : Program) (ops : Array Oper) (i : Nat) : Ins :=
  match ops[i]? with
  | none => .bad
  | some o => if isDefer o then .bad else .op (convG ops o) o.dst (convO P o)
def convD (P : Program) (ops : Array Oper) (i : Nat) : DOp :=
  match ops[i]? with
  | none => ([], none, none, .mkMap)
  | some o => ((o.after.toList.filter (Region.binds .any)).map (·.on), convG ops o, o.dst, convO P o)
/-- the operations of the tail, one behind the other -/
def tailIns : List DOp → List Ins
  | [] => []
  | (_, g, d, m) :: r => .op g d m :: tailIns r
/-- each operation of the list, the first of which has number i, stands behind all ahead of it -/
def behindAll : Nat → List DOp → Bool
  | _, [] => true
  | i, (deps, _, _, _) :: r => (List.range i).all (fun j => deps.contains j) && behindAll (i + 1) r
def wellDeps : Nat → List DOp → Bool
  | _, [] => true
  | i, (deps, _, _, _) :: r => deps.all (fun j => Nat.blt j i) && wellDeps (i + 1) r
/-- where the forced tail begins -/
def splitAtD (ds : List DOp) : Nat → Nat
  | 0 => 0
  | i + 1 => match behindAll i (ds.drop i) with
    | true => splitAtD ds i
    | false => i + 1
def directD (P : Program) (ops : Array Oper) : List DOp := (List.range ops.size).map (convD P ops)
/-- what an operation stands behind, and what that stands behind -/
def closeDeps : List (List Nat) → List DOp → List DOp
  | _, [] => []
  | acc, (deps, g, d, m) :: r =>
    ((deps ++ deps.flatMap fun j => acc.getD j []).eraseDups, g, d, m) :: closeDeps (acc ++ [(deps ++ deps.flatMap fun j => acc.getD j []).eraseDups]) r
def allD (P : Program) (ops : Array Oper) : List DOp := closeDeps [] (directD P ops)
def convC (P : Program) : Code → List Ins
  | .skip => []
  | .label _ => []
  | .region _ ops draw =>
    if draw then (if P.follows .mixedOrders && !ops.any isDefer && wellDeps 0 (allD P ops) then
      [.draw ((allD P ops).take (splitAtD (allD P ops) ops.size)) (tailIns ((allD P ops).drop (splitAtD (allD P ops) ops.size)))] else [.bad])
    else (List.range ops.size).map (convI P ops)
  | .seq a b => convC P a ++ convC P b
  | .cond c x y => [.cond c (convC P x) (convC P y)]
  | .block id b => [.block id (convC P b)]
  | .loop b => [.loop (convC P b)]
  | .rangeFunc f ps a b => [.rangeF f ps (convC P a) (convC P b)]
  | .exit id => [.exit id]
  | .ret => [.ret]
  | _ => [.bad]
mutual
def denI (P : Program) (rd : Option Nat) : Ins → (Act → World → Prop) → (Exit → Act → World → Prop) → Act → World → Prop
  | .op g d m, next, Q, a, w => stepOp P rd g d m next Q a w
  | .cond x t e, next, Q, a, w =>
    match a.eval x with
    | .bool true => denL P rd t (Exit.then next Q) a w
    | .bool false => denL P rd e (Exit.then next Q) a w
    | _ => False
  | .block id b, next, Q, a, w => denL P rd b (Exit.inBlock id (Exit.then next Q)) a w
  | .loop b, _, Q, a, w => ∃ I : Nat → Act → World → Prop, (∃ m, I m a w) ∧
      ∀ m a w, I m a w → denL P rd b (Exit.then (fun a' w' => ∃ m', m' < m ∧ I m' a' w') Q) a w
  | .exit id, _, Q, a, w => Q (.exit id) a w
  | .ret, _, Q, a, w => Q .ret a w
  | .draw fr tl, next, Q, a, w => ∀ ops : Array Oper, (allD P ops).take (splitAtD (allD P ops) ops.size) = fr → tailIns ((allD P ops).drop (splitAtD (allD P ops) ops.size)) = tl →
      ops.any isDefer = false → wellDeps 0 (allD P ops) = true →
      wpAnyIn (FW rd) 0 P .any ops (Exit.then next Q) ops.size (Array.replicate ops.size false) a { w with drawn := w.drawn + 1 }
  | .rangeF f ps ca cb, next, Q, a, w => ∀ xa xb : Code, convC P xa = ca → convC P xb = cb → (Code.rangeFunc f ps xa xb).wpIn (FW rd) 0 P (Exit.then next Q) a w
  | .bad, _, _, _, _ => False
def denL (P : Program) (rd : Option Nat) : List Ins → (Exit → Act → World → Prop) → Act → World → Prop
  | [], Q, a, w => Q .normal a w
  | i :: is, Q, a, w => denI P rd i (denL P rd is Q) Q a w
end
theorem thenthen (n N : Act → World → Prop) (Q : Exit → Act → World → Prop) : Exit.then n (Exit.then N Q) = Exit.then n Q := by
  funext e a w; cases e <;> rfl
theorem upon_then {P : Program} {F : Fence} {n : Nat} {o : Oper} {a : Act} {next N : Act → World → Prop} {Q : Exit → Act → World → Prop} {r : Result Next} :
    o.uponIn F n P a next (Exit.then N Q) r = o.uponIn F n P a next Q r := by
  cases r with
  | ok x w => cases x <;> rfl
  | halt h w => cases h <;> rfl
theorem denI_then {P : Program} {rd : Option Nat} (x : Ins) (next N : Act → World → Prop) (Q : Exit → Act → World → Prop) (a : Act) (w : World) :
    denI P rd x next (Exit.then N Q) a w = denI P rd x next Q a w := by
  cases x with
  | op g d m => simp only [denI, stepOp, upon_then]
  | cond x t e => simp only [denI, thenthen]
  | block id b => simp only [denI, thenthen]
  | loop b => simp only [denI, thenthen]
  | exit id => simp only [denI]; rfl
  | ret => simp only [denI]; rfl
  | draw fr tl => simp only [denI, thenthen]
  | rangeF f ps ca cb => simp only [denI, thenthen]
  | bad => simp only [denI]
theorem denL_append {P : Program} {rd : Option Nat} : ∀ (xs ys : List Ins) (Q : Exit → Act → World → Prop) (a : Act) (w : World),
    denL P rd (xs ++ ys) Q a w = denL P rd xs (Exit.then (denL P rd ys Q) Q) a w := by
  intro xs
  induction xs with
  | nil => intro ys Q a w; simp only [List.nil_append, denL]; rfl
  | cons x xs ih =>
    intro ys Q a w
    simp only [List.cons_append, denL]
    rw [denI_then]
    have : denL P rd (xs ++ ys) Q = denL P rd xs (Exit.then (denL P rd ys Q) Q) := by
      funext a w; exact ih ys Q a w
    rw [this]
theorem gOK_wanted (ops : Array Oper) (o : Oper) (tmps : Array Value) : gOK (convG ops o) tmps = Region.wanted o (yielded ops tmps) := by
  unfold gOK convG Region.wanted yielded
  cases o.guard with
  | none => rfl
  | some p =>
    obtain ⟨j, b⟩ := p
    simp only [Option.map_some]
    cases h : ((ops[j]?).bind (·.dst)).bind (tmps[·]?) with
    | none => rfl
    | some v => cases v <;> simp
theorem semAt_eq {rd : Option Nat} {ρ : Operand → Value} {o : Oper} (h : isDefer o = false) : o.semAt rd ρ = execOp ρ o := by
  refine Oper.semAt_eq rd ρ o ?_
  intro c hc
  simp [isDefer, hc] at h
theorem upon_dst {F : Fence} {n : Nat} {P : Program} {o : Oper} {a : Act} {next : Act → World → Prop} {Q : Exit → Act → World → Prop} {r : Result Next} :
    (dummy o.dst).uponIn F n P a next Q r = o.uponIn F n P a next Q r := by
  cases r with
  | ok x w => cases x <;> rfl
  | halt h w => cases h <;> rfl
theorem stepOp_op {P : Program} {rd : Option Nat} {ops : Array Oper} {o : Oper} {a : Act} {w : World} {next : Act → World → Prop} {Q : Exit → Act → World → Prop} (hd : isDefer o = false)
    (h : stepOp P rd (convG ops o) o.dst (convO P o) next Q a w) :
    if Region.wanted o (yielded ops a.tmps) then o.wpIn (FW rd) 0 P a w next Q else (∀ f, o.about P w a.eval = some f → (FW rd).fn f) ∧ next (a.put o.dst undef) w := by
  unfold stepOp at h
  rw [gOK_wanted] at h
  by_cases hw : Region.wanted o (yielded ops a.tmps) = true
  · simp only [hw, if_true] at h ⊢
    refine ⟨fun _ _ => trivial, ?_⟩
    show o.uponIn (FW rd) 0 P a next Q ((o.semAt rd a.eval).run P w)
    rw [semAt_eq hd]
    rw [upon_dst] at h
    rcases convO_ok P o a w with ⟨s, w', hs⟩ | hs
    · rw [hs] at h; exact h.elim
    · rw [hs]; exact h
  · simp only [hw, if_false, Bool.false_eq_true] at h ⊢
    exact ⟨fun _ _ => trivial, h⟩
theorem region_ok {P : Program} {rd : Option Nat} {ops : Array Oper} {Q : Exit → Act → World → Prop} : ∀ (l : List Nat) (a : Act) (w : World),
    denL P rd (l.map (convI P ops)) Q a w → wpOpsIn (FW rd) 0 P ops Q l a w := by
  intro l
  induction l with
  | nil => intro a w h; exact h
  | cons i l ih =>
    intro a w h
    simp only [List.map_cons, denL] at h
    unfold wpOpsIn
    cases ho : ops[i]? with
    | none => simp only [convI, ho, denI] at h
    | some o =>
      simp only [convI, ho] at h
      cases hd : isDefer o with
      | true => simp only [hd, if_true, denI] at h
      | false =>
        simp only [hd, Bool.false_eq_true, if_false, denI] at h
        have h2 := stepOp_op hd h
        have hn : ∀ a w, denL P rd (l.map (convI P ops)) Q a w → wpOpsIn (FW rd) 0 P ops Q l a w := ih
        by_cases hw : Region.wanted o (yielded ops a.tmps) = true
        · simp only [hw, if_true] at h2 ⊢
          exact Oper.wpIn_mono hn h2
        · simp only [hw, if_false, Bool.false_eq_true] at h2 ⊢
          exact ⟨h2.1, hn _ _ h2.2⟩
theorem code_ok {P : Program} {rd : Option Nat} : ∀ (c : Code) (Q : Exit → Act → World → Prop) (a : Act) (w : World),
    denL P rd (convC P c) Q a w → c.wpIn (FW rd) 0 P Q a w := by
  intro c
  induction c with
  | skip => intro Q a w h; exact wpIn_skip h
  | label l => intro Q a w h; exact wpIn_label h
  | region id ops draw =>
    intro Q a w h
    cases draw with
    | false =>
      simp only [convC, Bool.false_eq_true, if_false] at h
      exact wpIn_region (region_ok _ _ _ h)
    | true =>
      simp only [convC, if_true] at h
      split at h
      · rename_i hm
        simp only [Bool.and_eq_true, Bool.not_eq_true'] at hm
        obtain ⟨⟨hm1, hm2⟩, hm3⟩ := hm
        simp only [denL, denI] at h
        have h2 := h ops rfl rfl hm2 hm3
        refine wpIn_region_any hm1 ?_
        have e' : Exit.then (fun a w => Q .normal a w) Q = Q := by funext e a w; cases e <;> rfl
        rw [e'] at h2
        exact h2
      · simp only [denL, denI] at h
  | seq x y ihx ihy =>
    intro Q a w h
    simp only [convC] at h
    rw [denL_append] at h
    refine wpIn_seq ?_
    have := ihx _ _ _ h
    refine wpIn_mono this ?_
    intro e a w hq
    cases e with
    | normal => exact ihy _ _ _ hq
    | _ => exact hq
  | cond c x y ihx ihy =>
    intro Q a w h
    simp only [convC, denL, denI] at h
    have e'' : Exit.then (fun a w => Q .normal a w) Q = Q := by funext e a w; cases e <;> rfl
    rw [e''] at h
    cases hc : a.eval c with
    | bool b =>
      rw [hc] at h
      cases b with
      | true => exact wpIn_cond_true hc (ihx _ _ _ h)
      | false => exact wpIn_cond_false hc (ihy _ _ _ h)
    | _ => rw [hc] at h; exact h.elim
  | block id b ih =>
    intro Q a w h
    have e'' : Exit.then (fun a w => Q .normal a w) Q = Q := by funext e a w; cases e <;> rfl
    simp only [convC, denL, denI] at h
    rw [e''] at h
    exact wpIn_block (ih _ _ _ h)
  | loop b ih =>
    intro Q a w h
    simp only [convC, denL, denI] at h
    obtain ⟨I, ⟨m0, h0⟩, hr⟩ := h
    refine wpIn_loop (fun a w => ∃ m, I m a w) (fun a w => leastOf fun m => I m a w) ⟨m0, h0⟩ ?_
    rintro a w ⟨m, hm⟩
    have hl := (leastOf_spec (p := fun m => I m a w) hm).1
    refine wpIn_mono (ih _ _ _ (hr _ a w hl)) ?_
    intro e a' w' hq
    cases e with
    | normal =>
      obtain ⟨m', hlt, hI⟩ := hq
      exact ⟨⟨m', hI⟩, Nat.lt_of_le_of_lt (leastOf_spec (p := fun m => I m a' w') hI).2 hlt⟩
    | _ => exact hq
  | rangeFunc f ps ca cb _ _ =>
    intro Q a w h
    have e'' : Exit.then (fun a w => Q .normal a w) Q = Q := by funext e a w; cases e <;> rfl
    simp only [convC, denL, denI] at h
    rw [e''] at h
    exact h ca cb rfl rfl
  | exit id => intro Q a w h; simp only [convC, denL, denI] at h; exact wpIn_exit h
  | ret => intro Q a w h; simp only [convC, denL, denI] at h; exact wpIn_ret h
  | scope b _ => intro Q a w h; simp only [convC, denL, denI] at h
  | goto l => intro Q a w h; simp only [convC, denL, denI] at h
  | refuse s => intro Q a w h; simp only [convC, denL, denI] at h
/-! ### more asked, more had -/
theorem uponMono {F : Fence} {n : Nat} {P : Program} {o : Oper} {a : Act} {next next' : Act → World → Prop} {Q Q' : Exit → Act → World → Prop} {r : Result Next}
    (hn : ∀ a w, next a w → next' a w) (hq : ∀ e a w, Q e a w → Q' e a w) (h : o.uponIn F n P a next Q r) : o.uponIn F n P a next' Q' r := by
  have hl : LetsOut Q → LetsOut Q' := fun ⟨a, w, h⟩ => ⟨a, w, hq _ _ _ h⟩
  cases r with
  | ok x w =>
    cases x <;> simp only [Oper.uponIn] at h ⊢ <;> first
      | exact hn _ _ h
      | exact ⟨h.1, h.2.1, fun cs hr => let ⟨e, w', fr, r, s⟩ := h.2.2 cs hr; ⟨e, w', fr, by cases e <;> first | exact hn _ _ r | exact hq _ _ _ r | exact hl r, s⟩⟩
      | exact ⟨h.1, RowsIn.mono h.2 fun _ _ r => hn _ _ r⟩
      | exact ⟨h.1, RoundIn.mono h.2 fun e _ r => by cases e <;> first | exact hn _ _ r | exact hq _ _ _ r | exact hl r⟩
      | exact h
  | halt x w => cases x <;> simp only [Oper.uponIn] at h ⊢ <;> first | exact hq _ _ _ h | exact h
theorem stepMono {P : Program} {rd : Option Nat} {g : Option (Option Nat × Bool)} {d : Option Nat} {m : MOp} {a : Act} {w : World} {next next' : Act → World → Prop} {Q Q' : Exit → Act → World → Prop}
    (hn : ∀ a w, next a w → next' a w) (hq : ∀ e a w, Q e a w → Q' e a w) (h : stepOp P rd g d m next Q a w) : stepOp P rd g d m next' Q' a w := by
  unfold stepOp at h ⊢
  split
  · rename_i hg; rw [if_pos hg] at h; exact uponMono hn hq h
  · rename_i hg; rw [if_neg hg] at h; exact hn _ _ h
theorem wpOpMono {P : Program} {rd : Option Nat} {ops : Array Oper} {Q Q' : Exit → Act → World → Prop} {i : Nat} {K K' : Act → World → Prop} {a : Act} {w : World}
    (hk : ∀ a w, K a w → K' a w) (hq : ∀ e a w, Q e a w → Q' e a w) (h : wpOpIn (FW rd) 0 P ops Q i K a w) : wpOpIn (FW rd) 0 P ops Q' i K' a w := by
  unfold wpOpIn at h ⊢
  cases ho : ops[i]? with
  | none => simp only [ho] at h ⊢; exact hk _ _ h
  | some o =>
    simp only [ho] at h ⊢
    split
    · rename_i hw; rw [if_pos hw] at h; exact ⟨h.1, uponMono hk hq h.2⟩
    · rename_i hw; rw [if_neg hw] at h; exact ⟨h.1, hk _ _ h.2⟩
theorem wpAnyMono {P : Program} {rd : Option Nat} {ops : Array Oper} {Q Q' : Exit → Act → World → Prop} (hq : ∀ e a w, Q e a w → Q' e a w) : ∀ (fuel : Nat) (listed : Array Bool) (a : Act) (w : World),
    wpAnyIn (FW rd) 0 P .any ops Q fuel listed a w → wpAnyIn (FW rd) 0 P .any ops Q' fuel listed a w := by
  intro fuel
  induction fuel with
  | zero => intro l a w h; exact ⟨h.1, hq _ _ _ h.2⟩
  | succ fuel ih => intro l a w h; exact ⟨fun hr => hq _ _ _ (h.1 hr), fun i hi => wpOpMono (ih _) hq (h.2 i hi)⟩
theorem thenMono {N N' : Act → World → Prop} {Q Q' : Exit → Act → World → Prop} (hn : ∀ a w, N a w → N' a w) (hq : ∀ e a w, Q e a w → Q' e a w) : ∀ e a w, Exit.then N Q e a w → Exit.then N' Q' e a w := by
  intro e a w h; cases e <;> first | exact hn _ _ h | exact hq _ _ _ h
theorem blockMono {id : Nat} {Q Q' : Exit → Act → World → Prop} (hq : ∀ e a w, Q e a w → Q' e a w) : ∀ e a w, Exit.inBlock id Q e a w → Exit.inBlock id Q' e a w := by
  intro e a w h
  cases e with
  | exit id' =>
    simp only [Exit.inBlock] at h ⊢
    split
    · rename_i hi; rw [if_pos hi] at h; exact hq _ _ _ h
    · rename_i hi; rw [if_neg hi] at h; exact hq _ _ _ h
  | _ => exact hq _ _ _ h
mutual
theorem denI_mono {P : Program} {rd : Option Nat} : ∀ (i : Ins) {next next' : Act → World → Prop} {Q Q' : Exit → Act → World → Prop} {a : Act} {w : World},
    (∀ a w, next a w → next' a w) → (∀ e a w, Q e a w → Q' e a w) → denI P rd i next Q a w → denI P rd i next' Q' a w
  | .op g d m, _, _, _, _, _, _, hn, hq, h => by simp only [denI] at h ⊢; exact stepMono hn hq h
  | .cond x t e, _, _, _, _, a, _, hn, hq, h => by
    simp only [denI] at h ⊢
    split at h
    · exact denL_mono t (thenMono hn hq) h
    · exact denL_mono e (thenMono hn hq) h
    · exact h.elim
  | .block id b, _, _, _, _, _, _, hn, hq, h => by simp only [denI] at h ⊢; exact denL_mono b (blockMono (thenMono hn hq)) h
  | .loop b, _, _, _, _, _, _, hn, hq, h => by
    simp only [denI] at h ⊢
    obtain ⟨I, h0, hr⟩ := h
    exact ⟨I, h0, fun m a w hI => denL_mono b (thenMono (fun _ _ h => h) hq) (hr m a w hI)⟩
  | .exit id, _, _, _, _, _, _, hn, hq, h => by simp only [denI] at h ⊢; exact hq _ _ _ h
  | .ret, _, _, _, _, _, _, hn, hq, h => by simp only [denI] at h ⊢; exact hq _ _ _ h
  | .draw fr tl, _, _, _, _, _, _, hn, hq, h => by
    simp only [denI] at h ⊢
    exact fun ops h1 h2 h3 h4 => wpAnyMono (thenMono hn hq) _ _ _ _ (h ops h1 h2 h3 h4)
  | .rangeF f ps ca cb, _, _, _, _, _, _, hn, hq, h => by
    simp only [denI] at h ⊢
    exact fun xa xb h1 h2 => wpIn_mono (h xa xb h1 h2) (thenMono hn hq)
  | .bad, _, _, _, _, _, _, hn, hq, h => by simp only [denI] at h
theorem denL_mono {P : Program} {rd : Option Nat} : ∀ (is : List Ins) {Q Q' : Exit → Act → World → Prop} {a : Act} {w : World},
    (∀ e a w, Q e a w → Q' e a w) → denL P rd is Q a w → denL P rd is Q' a w
  | [], _, _, _, _, hq, h => by simp only [denL] at h ⊢; exact hq _ _ _ h
  | i :: is, _, _, _, _, hq, h => by
    simp only [denL] at h ⊢
    exact denI_mono i (fun a w h => denL_mono is hq h) hq h
end
end Go.Sp

namespace Go.Sp
def rle : List (Nat × Value) → Array Value
  | [] => #[]
  | (n, v) :: r => (List.replicate n v).toArray ++ rle r
abbrev Env := List (Nat × Value)
def Env.get : Env → Nat → Option Value
  | [], _ => none
  | (s, v) :: e, t => match Nat.beq s t with
    | true => some v
    | false => Env.get e t
def Env.ev (e : Env) : Operand → Option Value
  | .tmp t => e.get t
  | .const v => some v
  | .global g => some (.pointer (some ⟨g, 0, none⟩))
  | .func f => some (.func (.func f) #[] #[])
def Env.evs (e : Env) : List Operand → Option (List Value)
  | [] => some []
  | x :: xs => match e.ev x with
    | some v => match Env.evs e xs with
      | some vs => some (v :: vs)
      | none => none
    | none => none
def Env.ok (e : Env) (tm : Array Value) : Prop := ∀ t v, e.get t = some v → tm[t]? = some v
/-- e' says no more than e. -/
def Env.sub : Env → Env → Prop
  | [], _ => True
  | (t, v) :: r, e => e.get t = some v ∧ Env.sub r e
theorem Env.sub_get : ∀ (e' e : Env), Env.sub e' e → ∀ t v, e'.get t = some v → e.get t = some v := by
  intro e'
  induction e' with
  | nil => intro e _ t v h; simp [Env.get] at h
  | cons p r ih =>
    obtain ⟨s, u⟩ := p
    intro e h t v hg
    simp only [Env.get] at hg
    split at hg
    · rename_i hb
      have : s = t := Nat.eq_of_beq_eq_true hb
      subst this
      cases hg
      exact h.1
    · exact ih e h.2 t v hg
theorem Env.ok_sub {e' e : Env} {tm : Array Value} (h : Env.sub e' e) (hk : e.ok tm) : e'.ok tm := fun t v hg => hk t v (Env.sub_get e' e h t v hg)
theorem Env.ok_set {e : Env} {tm : Array Value} {d : Nat} {v : Value} (hk : e.ok tm) (hd : d < tm.size) : Env.ok ((d, v) :: e) (tm.setIfInBounds d v) := by
  intro t u hg
  simp only [Env.get] at hg
  split at hg
  · rename_i hb
    have : d = t := Nat.eq_of_beq_eq_true hb
    subst this
    cases hg
    simp [hd]
  · rename_i hb
    have hne : d ≠ t := fun h => by subst h; simp at hb
    rw [Array.getElem?_setIfInBounds_ne hne]
    exact hk t u hg
theorem Env.ok_ev {e : Env} {a : Act} (hk : e.ok a.tmps) {x : Operand} {v : Value} (h : e.ev x = some v) : a.eval x = v := by
  cases x with
  | tmp t =>
    have := hk t v h
    simp [Act.eval, Array.getD_eq_getD_getElem?, this]
  | const u => cases h; rfl
  | global g => cases h; rfl
  | func f => cases h; rfl
theorem Env.ok_evs {e : Env} {a : Act} (hk : e.ok a.tmps) : ∀ {xs : List Operand} {vs : List Value}, e.evs xs = some vs → xs.map a.eval = vs := by
  intro xs
  induction xs with
  | nil => intro vs h; cases h; rfl
  | cons x xs ih =>
    intro vs h
    simp only [Env.evs] at h
    cases hx : e.ev x with
    | none => simp [hx] at h
    | some v =>
      cases hxs : e.evs xs with
      | none => simp [hx, hxs] at h
      | some us =>
        simp [hx, hxs] at h
        subst h
        simp [Env.ok_ev hk hx, ih hxs]
structure Ctx where
  rd : Option Nat
  Q : Exit → Act → World → Prop
inductive Kont where
  | done
  | seq (is : List Ins) (k : Kont)
  | blk (id : Nat) (k : Kont)
  | stop (R : Act → World → Prop) (k : Kont)
def Kont.sem (P : Program) (c : Ctx) : Kont → Exit → Act → World → Prop
  | .done => c.Q
  | .seq is k => Exit.then (denL P c.rd is (k.sem P c)) (k.sem P c)
  | .blk id k => Exit.inBlock id (k.sem P c)
  | .stop R k => Exit.then R (k.sem P c)
structure Exec (P : Program) (n : Nat) (c : Ctx) (D : List Deferred) (is : List Ins) (k : Kont) (e : Env) (w : World) : Prop where
  intro ::
  run : ∀ a : Act, a.tmps.size = n → e.ok a.tmps → a.defers = D → denL P c.rd is (k.sem P c) a w
section rules
variable {P : Program} {n : Nat} {c : Ctx} {D : List Deferred} {is : List Ins} {k : Kont} {e : Env} {w : World}
theorem xen (e' : Env) (h : Env.sub e' e) (hx : Exec P n c D is k e' w) : Exec P n c D is k e w :=
  .intro fun a hn hk hd => hx.run a hn (Env.ok_sub h hk) hd
theorem xsq (hx : Exec P n c D is k e w) : Exec P n c D [] (.seq is k) e w := .intro fun a hn hk hd => by
  simp only [denL, Kont.sem, Exit.then]; exact (hx).run a hn hk hd
theorem xbl {id : Nat} (hx : Exec P n c D [] k e w) : Exec P n c D [] (.blk id k) e w := .intro fun a hn hk hd => by
  have := (hx).run a hn hk hd
  simp only [denL, Kont.sem, Exit.inBlock] at this ⊢
  exact this
theorem exec_stop {R : Act → World → Prop} (h : ∀ a : Act, a.tmps.size = n → e.ok a.tmps → a.defers = D → R a w) : Exec P n c D [] (.stop R k) e w := .intro fun a hn hk hd => by
  simp only [denL, Kont.sem, Exit.then]; exact h a hn hk hd
theorem xbk {id : Nat} {b : List Ins} (hx : Exec P n c D b (.blk id (.seq is k)) e w) : Exec P n c D (.block id b :: is) k e w := .intro fun a hn hk hd => by
  have := (hx).run a hn hk hd
  simp only [denL, denI, Kont.sem] at this ⊢
  exact this
theorem exec_cond {x : Operand} {t f : List Ins} {b : Bool} (hv : e.ev x = some (.bool b)) (ht : b = true → Exec P n c D t (.seq is k) e w)
    (hf : b = false → Exec P n c D f (.seq is k) e w) : Exec P n c D (.cond x t f :: is) k e w := .intro fun a hn hk hd => by
  simp only [denL, denI, Env.ok_ev hk hv]
  cases b with
  | true => exact (ht rfl).run a hn hk hd
  | false => exact (hf rfl).run a hn hk hd
theorem xct {x : Operand} {t f : List Ins} (hv : e.ev x = some (.bool true)) (ht : Exec P n c D t (.seq is k) e w) : Exec P n c D (.cond x t f :: is) k e w :=
  exec_cond hv (fun _ => ht) (fun h => by cases h)
theorem xcf {x : Operand} {t f : List Ins} (hv : e.ev x = some (.bool false)) (hf : Exec P n c D f (.seq is k) e w) : Exec P n c D (.cond x t f :: is) k e w :=
  exec_cond hv (fun h => by cases h) (fun _ => hf)
/-- which stack an exit leads to -/
def Kont.unwind (id : Nat) : Kont → Option Kont
  | .done => none
  | .seq _ k => k.unwind id
  | .blk id' k => match Nat.beq id id' with
    | true => some k
    | false => k.unwind id
  | .stop _ k => k.unwind id
theorem unwind_sem {id : Nat} {a : Act} : ∀ (k k' : Kont), k.unwind id = some k' → k'.sem P c .normal a w → k.sem P c (.exit id) a w := by
  intro k
  induction k with
  | done => intro k' h; simp [Kont.unwind] at h
  | seq is k ih => intro k' h hs; exact ih k' h hs
  | blk id' k ih =>
    intro k' h hs
    simp only [Kont.unwind] at h
    simp only [Kont.sem, Exit.inBlock]
    split at h
    · rename_i hb
      have := Nat.eq_of_beq_eq_true hb
      cases h
      rw [if_pos this]; exact hs
    · rename_i hb
      have : id ≠ id' := fun h => by subst h; simp at hb
      rw [if_neg this]; exact ih k' h hs
  | stop R k ih => intro k' h hs; exact ih k' h hs
theorem xex {id : Nat} {k' : Kont} (h : k.unwind id = some k') (hx : Exec P n c D [] k' e w) : Exec P n c D (.exit id :: is) k e w := .intro fun a hn hk hd => by
  have := (hx).run a hn hk hd
  simp only [denL, denI] at this ⊢
  exact unwind_sem k k' h this
theorem ret_sem {a : Act} : ∀ k : Kont, c.Q .ret a w → k.sem P c .ret a w := by
  intro k
  induction k with
  | done => exact id
  | seq is k ih => exact ih
  | blk id' k ih => exact ih
  | stop R k ih => exact ih
theorem exec_ret (h : ∀ a : Act, a.tmps.size = n → e.ok a.tmps → a.defers = D → c.Q .ret a w) : Exec P n c D (.ret :: is) k e w := .intro fun a hn hk hd => by
  simp only [denL, denI]
  exact ret_sem k (h a hn hk hd)
/-- splitting on a slot that holds a Bool -/
theorem exec_split (j : Nat) {b : Bool} (hv : e.get j = some (.bool b)) (ht : b = true → Exec P n c D is k ((j, .bool true) :: e) w)
    (hf : b = false → Exec P n c D is k ((j, .bool false) :: e) w) : Exec P n c D is k e w := by
  have key : ∀ (x : Bool), e.get j = some (.bool x) → ∀ tm, e.ok tm → Env.ok ((j, .bool x) :: e) tm := by
    intro x hx tm hk t v hg
    simp only [Env.get] at hg
    split at hg
    · rename_i hb
      have := Nat.eq_of_beq_eq_true hb
      subst this
      cases hg
      exact hk _ _ hx
    · exact hk t v hg
  cases b with
  | true => exact .intro fun a hn hk hd => (ht rfl).run a hn (key _ hv _ hk) hd
  | false => exact .intro fun a hn hk hd => (hf rfl).run a hn (key _ hv _ hk) hd
theorem xgr {j : Nat} {b : Bool} {d : Option Nat} {m : MOp} (hv : e.get j = some (.bool b)) (hx : Exec P n c D (.op none d m :: is) k e w) :
    Exec P n c D (.op (some (some j, b)) d m :: is) k e w := .intro fun a hn hk hd => by
  have := (hx).run a hn hk hd
  simp only [denL, denI, stepOp, gOK, if_true] at this ⊢
  simp only [Option.bind_some, hk j _ hv, BEq.rfl, if_true]
  exact this
theorem xgs {j : Nat} {b : Bool} {d : Nat} {m : MOp} (hv : e.get j = some (.bool !b)) (hd' : Nat.blt d n = true) (hx : Exec P n c D is k ((d, undef) :: e) w) :
    Exec P n c D (.op (some (some j, b)) (some d) m :: is) k e w := .intro fun a hn hk hd => by
  simp only [denL, denI, stepOp, gOK]
  have hb : (!b) == b ↔ False := by cases b <;> simp
  simp only [Option.bind_some, hk j _ hv, hb, if_false]
  refine hx.run (a.put (some d) undef) ?_ ?_ hd
  · simp [Act.put, hn]
  · exact Env.ok_set hk (by rw [hn]; simpa using hd')
theorem xg0 {j : Nat} {b : Bool} {m : MOp} (hv : e.get j = some (.bool !b)) (hx : Exec P n c D is k e w) :
    Exec P n c D (.op (some (some j, b)) none m :: is) k e w := .intro fun a hn hk hd => by
  simp only [denL, denI, stepOp, gOK]
  have hb : (!b) == b ↔ False := by cases b <;> simp
  simp only [Option.bind_some, hk j _ hv, hb, if_false]
  exact (hx).run a hn hk hd
/-- an operation that gives a value -/
theorem exec_val {d : Nat} {m : MOp} {v : Value} {w' : World} (hd' : Nat.blt d n = true) (h : ∀ a : Act, e.ok a.tmps → (m.sem a.eval).run P w = .ok (.value v) w')
    (hx : Exec P n c D is k ((d, v) :: e) w') : Exec P n c D (.op none (some d) m :: is) k e w := .intro fun a hn hk hd => by
  simp only [denL, denI, stepOp, gOK, if_true, h a hk]
  refine hx.run (a.put (some d) v) ?_ ?_ hd
  · simp [Act.put, hn]
  · exact Env.ok_set hk (by rw [hn]; simpa using hd')
/-- an operation that gives none -/
theorem exec_skip {m : MOp} {w' : World} (h : ∀ a : Act, e.ok a.tmps → (m.sem a.eval).run P w = .ok .skip w') (hx : Exec P n c D is k e w') :
    Exec P n c D (.op none none m :: is) k e w := .intro fun a hn hk hd => by
  simp only [denL, denI, stepOp, gOK, if_true, h a hk]
  exact (hx).run a hn hk hd
end rules
end Go.Sp

namespace Go.Sp
/-! ### plain values -/
def intV (op : BinOp) (k : IntKind) (x y : Int) : Option Value :=
  match op with
  | .add => some (.int k (k.wrap (x + y)))
  | .sub => some (.int k (k.wrap (x - y)))
  | .mul => some (.int k (k.wrap (x * y)))
  | .and => some (.int k (k.wrap (BitVec.ofInt k.bits x &&& BitVec.ofInt k.bits y).toNat))
  | .or => some (.int k (k.wrap (BitVec.ofInt k.bits x ||| BitVec.ofInt k.bits y).toNat))
  | .xor => some (.int k (k.wrap (BitVec.ofInt k.bits x ^^^ BitVec.ofInt k.bits y).toNat))
  | .andNot => some (.int k (k.wrap (BitVec.ofInt k.bits x &&& ~~~ BitVec.ofInt k.bits y).toNat))
  | .eql => some (.bool (x == y))
  | .neq => some (.bool (x != y))
  | .lss => some (.bool (decide (x < y)))
  | .leq => some (.bool (decide (x ≤ y)))
  | .gtr => some (.bool (decide (x > y)))
  | .geq => some (.bool (decide (x ≥ y)))
  | _ => none
def strV (op : BinOp) (x y : ByteArray) : Option Value :=
  match op with
  | .eql => some (.bool (x.toList == y.toList))
  | .neq => some (.bool !(x.toList == y.toList))
  | _ => none
def binV (op : BinOp) : Value → Value → Option Value
  | .int k x, .int k' y => match decide (k = k') with
    | true => intV op k x y
    | false => none
  | .string x, .string y => strV op x y
  | _, _ => none
def unV (op : UnOp) : Value → Option Value
  | .bool b => match op with
    | .not => some (.bool !b)
    | _ => none
  | .int k x => match op with
    | .neg => some (.int k (k.wrap (0 - x)))
    | .xor => some (.int k (k.wrap (BitVec.ofInt k.bits (if k.signed then -1 else k.max) ^^^ BitVec.ofInt k.bits x).toNat))
    | _ => none
  | _ => none
def pureV (e : Env) : MOp → Option Value
  | .mov x => e.ev x
  | .pick c a b => match e.ev c with
    | some (.bool true) => e.ev a
    | some (.bool false) => e.ev b
    | _ => none
  | .nilc x => match e.ev x with
    | some (.pointer (some a)) => some (.pointer (some a))
    | _ => none
  | .bin op _ x y => match e.ev x with
    | some u => match e.ev y with
      | some v => binV op u v
      | none => none
    | none => none
  | .ibin op x y => match e.ev x with
    | some u => match e.ev y with
      | some v => binV op u v
      | none => none
    | none => none
  | .un op x => match e.ev x with
    | some u => unV op u
    | none => none
  | .toInt k x => match e.ev x with
    | some (.int _ n) => some (.int k (k.wrap n))
    | _ => none
  | .fn f first cap => match e.evs first.toList with
    | some fs => match e.evs cap.toList with
      | some cs => some (.func (.func f) fs.toArray cs.toArray)
      | none => none
    | none => none
  | .faddr off x => match e.ev x with
    | some (.pointer (some ⟨b, o, none⟩)) => some (.pointer (some ⟨b, o + off, none⟩))
    | _ => none
  | .fld true off size x => match e.ev x with
    | some (.agg cs) => some (.agg (cs.extract off (off + size)))
    | _ => none
  | .fld false off _ x => match e.ev x with
    | some (.agg cs) => cs[off]?
    | _ => none
  | .ext x i => match e.ev x with
    | some (.tuple vs) => vs[i]?
    | _ => none
  | .lenS x => match e.ev x with
    | some (.slice _ n _) => some (.int .i64 n)
    | _ => none
  | _ => none
theorem add_mk (b o n : Nat) : (⟨b, o, none⟩ : Addr).add n = ⟨b, o + n, none⟩ := by
  unfold Addr.add; split
  · rename_i h; subst h; rfl
  · rfl
theorem binV_ok {op : BinOp} {u v r : Value} (h : binV op u v = some r) (P : Program) (t : TypeId) (w : World) : (binOp op t u v).run P w = .ok r w := by
  cases u <;> cases v <;> simp only [binV] at h <;> first | (cases h; done) | skip
  · rename_i k x k' y
    split at h
    · rename_i hk
      have hk' : k = k' := of_decide_eq_true hk
      subst hk'
      cases op <;> simp [intV] at h <;> subst h <;> simp [binOp, Op.intArith, Op.intBits, Op.intCmp]
    · simp at h
  · rename_i x y
    cases op <;> simp [strV] at h <;> subst h <;> simp [binOp, Op.stringOp]
theorem unV_ok {op : UnOp} {u r : Value} (h : unV op u = some r) (P : Program) (w : World) : (Op.unary op u).run P w = .ok r w := by
  unfold unV at h
  split at h
  · cases op <;> simp at h; subst h; simp [Op.unary]
  · cases op <;> simp at h <;> subst h <;> simp [Op.unary, Op.intArith, Op.intBits]
  · simp at h
theorem eqGuard_ok {op : BinOp} {u v r : Value} (h : binV op u v = some r) (P : Program) (t : TypeId) (x y : Operand) (w : World) : (eqGuard op t x y u v).run P w = .ok () w := by
  cases u <;> cases v <;> simp only [binV] at h <;> first | (cases h; done) | skip
  all_goals (cases op <;> simp [eqGuard])
theorem pureV_ok {e : Env} {m : MOp} {v : Value} (h : pureV e m = some v) (P : Program) (a : Act) (hk : e.ok a.tmps) (w : World) : (m.sem a.eval).run P w = .ok (.value v) w := by
  cases m <;> simp only [pureV] at h <;> first | (cases h; done) | skip
  case mov x => simp [MOp.sem, Env.ok_ev hk h]
  case pick x y z =>
    split at h
    · rename_i hc; simp [MOp.sem, Env.ok_ev hk hc, asBool, Env.ok_ev hk h]
    · rename_i hc; simp [MOp.sem, Env.ok_ev hk hc, asBool, Env.ok_ev hk h]
    · cases h
  case nilc x =>
    split at h
    · rename_i ad hc; simp at h; subst h; simp [MOp.sem, Env.ok_ev hk hc]
    · simp at h
  case bin op t x y =>
    split at h
    · rename_i u hu
      split at h
      · rename_i u' hu'
        simp [MOp.sem, Env.ok_ev hk hu, Env.ok_ev hk hu', eqGuard_ok h, binV_ok h]
      · simp at h
    · simp at h
  case ibin op x y =>
    split at h
    · rename_i u hu
      split at h
      · rename_i u' hu'
        have hb := binV_ok h P 0 w
        cases u <;> cases u' <;> simp only [binV] at h <;> first | (cases h; done) | skip
        all_goals simp [MOp.sem, Env.ok_ev hk hu, Env.ok_ev hk hu', hb]
      · simp at h
    · simp at h
  case un op x =>
    split at h
    · rename_i u hu; simp [MOp.sem, Env.ok_ev hk hu, unV_ok h]
    · simp at h
  case toInt k x =>
    split at h
    · rename_i k' n hu; simp at h; subst h; simp [MOp.sem, Env.ok_ev hk hu, Conv.intToInt]
    · simp at h
  case fn f first cap =>
    split at h
    · rename_i fs hf
      split at h
      · rename_i cs hc
        simp at h; subst h
        have h1 := Env.ok_evs hk hf
        have h2 := Env.ok_evs hk hc
        have e1 : first.map a.eval = fs.toArray := by rw [← h1, ← Array.toList_map]
        have e2 : cap.map a.eval = cs.toArray := by rw [← h2, ← Array.toList_map]
        simp [MOp.sem, e1, e2]
      · simp at h
    · simp at h
  case faddr off x =>
    split at h
    · rename_i b o hu; simp at h; subst h; simp [MOp.sem, Env.ok_ev hk hu, Instr.sureAddr, add_mk]
    · simp at h
  case fld agg off size x =>
    cases agg with
    | true =>
      simp only at h
      split at h
      · rename_i cs hu; simp at h; subst h; simp [MOp.sem, Env.ok_ev hk hu, asAgg]
      · simp at h
    | false =>
      simp only at h
      split at h
      · rename_i cs hu; simp [MOp.sem, Env.ok_ev hk hu, asAgg, h]
      · simp at h
  case ext x i =>
    split at h
    · rename_i vs hu; simp [MOp.sem, Env.ok_ev hk hu, Instr.extract, h]
    · simp at h
  case lenS x =>
    split at h
    · rename_i a' n' c' hu; simp at h; subst h; simp [MOp.sem, Env.ok_ev hk hu, goInt]
    · simp at h
section rules
variable {P : Program} {n : Nat} {c : Ctx} {D : List Deferred} {is : List Ins} {k : Kont} {e : Env} {w : World}
theorem xpu {d : Nat} {m : MOp} {v : Value} (hv : pureV e m = some v) (hd' : Nat.blt d n = true)
    (hx : Exec P n c D is k ((d, v) :: e) w) : Exec P n c D (.op none (some d) m :: is) k e w :=
  exec_val hd' (fun a hk => pureV_ok hv P a hk w) hx
/-! ### calls -/
def Ret (P : Program) (f : FuncId) (args : List Value) (w : World) (R : Value → World → Prop) : Prop :=
  Calls P f args.toArray w fun e w' => ∃ v, e = .returned v ∧ R v w'
theorem Ret.mono {f : FuncId} {args : List Value} {R R' : Value → World → Prop} (h : Ret P f args w R) (hr : ∀ v w', R v w' → R' v w') : Ret P f args w R' :=
  Calls.mono h fun _ _ ⟨v, he, hR⟩ => ⟨v, he, hr _ _ hR⟩
theorem callsIn_FW {rd : Option Nat} {f : FuncId} {args : Array Value} {R : Ending → World → Prop} (h : Calls P f args w R) : CallsIn (FW rd) 0 P f args w R :=
  (callsIn_wide (n := 0)).2 h
theorem xca {f : FuncId} {args : Array Operand} {d : Nat} {vs : List Value} {R : Value → World → Prop} (hv : e.evs args.toList = some vs) (hd' : Nat.blt d n = true)
    (hc : Ret P f vs w R) (hx : ∀ v w', R v w' → Exec P n c D is k ((d, v) :: e) w') : Exec P n c D (.op none (some d) (.call f args) :: is) k e w := .intro fun a hn hk hd => by
  have e1 : args.map a.eval = vs.toArray := by rw [← Env.ok_evs hk hv, ← Array.toList_map]
  simp only [denL, denI, stepOp, gOK, if_true, MOp.sem, Sem.run_pure, e1, Oper.uponIn]
  refine ⟨fun h => by simp [FW, Fence.wide] at h, ?_⟩
  refine callsIn_FW (Calls.mono hc ?_)
  rintro e' w' ⟨v, rfl, hR⟩
  refine (hx v w' hR).run (a.put (some d) v) ?_ ?_ hd
  · simp [Act.put, hn]
  · exact Env.ok_set hk (by rw [hn]; simpa using hd')
/-- P's function f may be entered. -/
def Enters (P : Program) (f : FuncId) : Prop := ∃ fn, P.funcs[f]? = some fn ∧ fn.body.isSome = true ∧ fn.name ≠ "runtime.NumGoroutine"
theorem Enters.run {f : FuncId} (h : Enters P f) (args : Array Value) (w : World) : (callFunc f args).run P w = .ok (.enter f args) w := by
  obtain ⟨fn, hf, hb, hn⟩ := h
  have hb' : fn.body ≠ none := by cases h : fn.body <;> simp [h] at hb ⊢
  simp [callFunc, hf, hn, hb']
/-- a call of a function value -/
theorem exec_callv {x : Operand} {args : Array Operand} {d : Nat} {vs : List Value} {f : FuncId} {fs cs : Array Value} {R : Value → World → Prop} (hx : e.ev x = some (.func (.func f) fs cs))
    (hv : e.evs args.toList = some vs) (hd' : Nat.blt d n = true) (hf : Enters P f)
    (hc : Ret P f (fs.toList ++ vs ++ cs.toList) w R) (hx : ∀ v w', R v w' → Exec P n c D is k ((d, v) :: e) w') : Exec P n c D (.op none (some d) (.callv x args) :: is) k e w := .intro fun a hn hk hd => by
  have e1 : args.map a.eval = vs.toArray := by rw [← Env.ok_evs hk hv, ← Array.toList_map]
  have e2 : (fs.toList ++ vs ++ cs.toList).toArray = fs ++ vs.toArray ++ cs := by simp
  simp only [denL, denI, stepOp, gOK, if_true, MOp.sem, e1, Env.ok_ev hk ‹_›, Deferred.ofValue, Sem.run_bind, Sem.run_pure, Result.andThen_ok, invoke, hf.run, Oper.uponIn]
  refine ⟨fun h => by simp [FW, Fence.wide] at h, ?_⟩
  refine callsIn_FW (Calls.mono (by unfold Ret at hc; rw [e2] at hc; exact hc) ?_)
  rintro e' w' ⟨v, rfl, hR⟩
  refine (hx v w' hR).run (a.put (some d) v) ?_ ?_ hd
  · simp [Act.put, hn]
  · exact Env.ok_set hk (by rw [hn]; simpa using hd')
/-! ### what an operation does, said once -/
/-- in each frame that e tells of, m gives a value, and R holds of it and of the world behind it -/
def OpOK (P : Program) (m : MOp) (e : Env) (w : World) (R : Value → World → Prop) : Prop :=
  ∀ a : Act, e.ok a.tmps → ∀ (rd : Option Nat) (d : Option Nat) (next : Act → World → Prop) (Q : Exit → Act → World → Prop),
    (∀ v w', R v w' → next (a.put d v) w') → (dummy d).uponIn (FW rd) 0 P a next Q ((m.sem a.eval).run P w)
theorem OpOK.mono {m : MOp} {R R' : Value → World → Prop} (h : OpOK P m e w R) (hr : ∀ v w', R v w' → R' v w') : OpOK P m e w R' :=
  fun a hk rd d next Q hn => h a hk rd d next Q fun v w' hv => hn v w' (hr v w' hv)
theorem ok_val {m : MOp} {v : Value} {w' : World} (h : ∀ a : Act, e.ok a.tmps → (m.sem a.eval).run P w = .ok (.value v) w') : OpOK P m e w fun u W => u = v ∧ W = w' :=
  fun a hk rd d next Q hn => by rw [h a hk]; exact hn v w' ⟨rfl, rfl⟩
theorem ok_pure {m : MOp} {v : Value} (hv : pureV e m = some v) : OpOK P m e w fun u W => u = v ∧ W = w :=
  ok_val fun a hk => pureV_ok hv P a hk w
theorem ok_call {f : FuncId} {args : Array Operand} {vs : List Value} {R : Value → World → Prop} (hv : e.evs args.toList = some vs) (hc : Ret P f vs w R) : OpOK P (.call f args) e w R :=
  fun a hk rd d next Q hn => by
    have e1 : args.map a.eval = vs.toArray := by rw [← Env.ok_evs hk hv, ← Array.toList_map]
    simp only [MOp.sem, Sem.run_pure, e1, Oper.uponIn]
    refine ⟨fun h => by simp [FW, Fence.wide] at h, ?_⟩
    refine callsIn_FW (Calls.mono hc ?_)
    rintro e' w' ⟨v, rfl, hR⟩
    exact hn v w' hR
theorem exec_ok {d : Nat} {m : MOp} {R : Value → World → Prop} (h : OpOK P m e w R) (hd' : Nat.blt d n = true) (hx : ∀ v w', R v w' → Exec P n c D is k ((d, v) :: e) w') :
    Exec P n c D (.op none (some d) m :: is) k e w := .intro fun a hn hk hd => by
  simp only [denL, denI, stepOp, gOK, if_true]
  refine h a hk _ _ _ _ fun v w' hR => (hx v w' hR).run (a.put (some d) v) ?_ ?_ hd
  · simp [Act.put, hn]
  · exact Env.ok_set hk (by rw [hn]; simpa using hd')
/-! ### loops -/
def Again (n : Nat) (D : List Deferred) {S : Type} (I : S → World → Prop) (en : S → Env) (μ : S → Nat) (s : S) (a : Act) (w : World) : Prop :=
  ∃ s', I s' w ∧ μ s' < μ s ∧ a.tmps.size = n ∧ (en s').ok a.tmps ∧ a.defers = D
theorem xlo {S : Type} {b : List Ins} (I : S → World → Prop) (en : S → Env) (μ : S → Nat) (s0 : S) (h0 : I s0 w) (he : Env.sub (en s0) e)
    (hr : ∀ s w, I s w → Exec P n c D b (.stop (Again n D I en μ s) k) (en s) w) : Exec P n c D (.loop b :: is) k e w := .intro fun a hn hk hd => by
  simp only [denL, denI]
  refine ⟨fun m a w => ∃ s, I s w ∧ a.tmps.size = n ∧ (en s).ok a.tmps ∧ a.defers = D ∧ μ s = m, ⟨μ s0, s0, h0, hn, Env.ok_sub he hk, hd, rfl⟩, ?_⟩
  rintro m a w ⟨s, hI, hn, hk, hd, rfl⟩
  have h := (hr s w hI).run a hn hk hd
  have hq : (Kont.stop (Again n D I en μ s) k).sem P c = Exit.then (Again n D I en μ s) (k.sem P c) := rfl
  rw [hq] at h
  have hA : Again n D I en μ s = fun a' w' => ∃ m', m' < μ s ∧ ∃ s', I s' w' ∧ a'.tmps.size = n ∧ (en s').ok a'.tmps ∧ a'.defers = D ∧ μ s' = m' := by
    funext a' w'
    refine propext ⟨?_, ?_⟩
    · rintro ⟨s', h1, h2, h3, h4, h5⟩; exact ⟨_, h2, s', h1, h3, h4, h5, rfl⟩
    · rintro ⟨m', h2, s', h1, h3, h4, h5, rfl⟩; exact ⟨s', h1, h2, h3, h4, h5⟩
  rw [hA] at h
  exact h
theorem xag {S : Type} {I : S → World → Prop} {en : S → Env} {μ : S → Nat} {s : S} (s' : S) (hI : I s' w) (hlt : μ s' < μ s) (he : Env.sub (en s') e) :
    Exec P n c D [] (.stop (Again n D I en μ s) k) e w :=
  exec_stop fun _ hn hk hd => ⟨s', hI, hlt, hn, Env.ok_sub he hk, hd⟩
/-- a loop in whose rounds deferred calls' marks may come -/
def AgainD (n : Nat) {S : Type} (De : S → List Deferred) (I : S → World → Prop) (en : S → Env) (μ : S → Nat) (s : S) (a : Act) (w : World) : Prop :=
  ∃ s', I s' w ∧ μ s' < μ s ∧ a.tmps.size = n ∧ (en s').ok a.tmps ∧ a.defers = De s'
theorem exec_loopD {S : Type} {b : List Ins} (De : S → List Deferred) (I : S → World → Prop) (en : S → Env) (μ : S → Nat) (s0 : S) (hD : D = De s0) (h0 : I s0 w) (he : Env.sub (en s0) e)
    (hr : ∀ s w, I s w → Exec P n c (De s) b (.stop (AgainD n De I en μ s) k) (en s) w) : Exec P n c D (.loop b :: is) k e w := .intro fun a hn hk hd => by
  simp only [denL, denI]
  refine ⟨fun m a w => ∃ s, I s w ∧ a.tmps.size = n ∧ (en s).ok a.tmps ∧ a.defers = De s ∧ μ s = m, ⟨μ s0, s0, h0, hn, Env.ok_sub he hk, hd.trans hD, rfl⟩, ?_⟩
  rintro m a w ⟨s, hI, hn, hk, hd, rfl⟩
  have h := (hr s w hI).run a hn hk hd
  have hq : (Kont.stop (AgainD n De I en μ s) k).sem P c = Exit.then (AgainD n De I en μ s) (k.sem P c) := rfl
  rw [hq] at h
  have hA : AgainD n De I en μ s = fun a' w' => ∃ m', m' < μ s ∧ ∃ s', I s' w' ∧ a'.tmps.size = n ∧ (en s').ok a'.tmps ∧ a'.defers = De s' ∧ μ s' = m' := by
    funext a' w'
    refine propext ⟨?_, ?_⟩
    · rintro ⟨s', h1, h2, h3, h4, h5⟩; exact ⟨_, h2, s', h1, h3, h4, h5, rfl⟩
    · rintro ⟨m', h2, s', h1, h3, h4, h5, rfl⟩; exact ⟨s', h1, h2, h3, h4, h5⟩
  rw [hA] at h
  exact h
theorem exec_againD {S : Type} {De : S → List Deferred} {I : S → World → Prop} {en : S → Env} {μ : S → Nat} {s : S} (s' : S) (hI : I s' w) (hlt : μ s' < μ s) (hD : D = De s') (he : Env.sub (en s') e) :
    Exec P n c D [] (.stop (AgainD n De I en μ s) k) e w :=
  exec_stop fun _ hn hk hd => ⟨s', hI, hlt, hn, Env.ok_sub he hk, hd.trans hD⟩
/-! ### where ways meet again -/
def Join (n : Nat) (D : List Deferred) {S : Type} (J : S → World → Prop) (en : S → Env) (a : Act) (w : World) : Prop :=
  ∃ s, J s w ∧ a.tmps.size = n ∧ (en s).ok a.tmps ∧ a.defers = D
/-- whatever stands ahead of 'is2' ends in J: then on from J alone -/
theorem exec_join {S : Type} {is2 : List Ins} (J : S → World → Prop) (en : S → Env) (h1 : Exec P n c D is (.stop (Join n D J en) k) e w)
    (h2 : ∀ s w', J s w' → Exec P n c D is2 k (en s) w') : Exec P n c D is (.seq is2 k) e w := .intro fun a hn hk hd => by
  have := (h1).run a hn hk hd
  refine denL_mono is ?_ this
  refine thenMono ?_ (fun _ _ _ h => h)
  rintro a' w' ⟨s, hJ, hn', hk', hd'⟩
  exact (h2 s w' hJ).run a' hn' hk' hd'
theorem exec_meet {S : Type} {J : S → World → Prop} {en : S → Env} (s : S) (hJ : J s w) (he : Env.sub (en s) e) : Exec P n c D [] (.stop (Join n D J en) k) e w :=
  exec_stop fun _ hn hk hd => ⟨s, hJ, hn, Env.ok_sub he hk, hd⟩
/-- both arms of a test end in J -/
theorem exec_cond_join {S : Type} {x : Operand} {t f : List Ins} {b : Bool} (J : S → World → Prop) (en : S → Env) (hv : e.ev x = some (.bool b))
    (ht : b = true → Exec P n c D t (.stop (Join n D J en) k) e w) (hf : b = false → Exec P n c D f (.stop (Join n D J en) k) e w)
    (h2 : ∀ s w', J s w' → Exec P n c D is k (en s) w') : Exec P n c D (.cond x t f :: is) k e w :=
  exec_cond hv (fun h => exec_join J en (ht h) h2) (fun h => exec_join J en (hf h) h2)
end rules
end Go.Sp

namespace Go.Sp
/-- w' is w with new blocks; of the old ones none has turned but those of l -/
structure Upd (l : List Nat) (w w' : World) : Prop where
  os : w'.os = w.os
  tape : w'.tape = w.tape
  output : w'.output = w.output
  size : w.heap.size ≤ w'.heap.size
  block : ∀ k, k < w.heap.size → k ∉ l → w'.heap[k]? = w.heap[k]?
  drawn : w.drawn ≤ w'.drawn
abbrev Ext := Upd []
theorem Upd.refl (l : List Nat) (w : World) : Upd l w w := ⟨rfl, rfl, rfl, Nat.le_refl _, fun _ _ _ => rfl, Nat.le_refl _⟩
theorem Upd.trans {l m : List Nat} {a b c : World} (h : Upd l a b) (k : Upd m b c) (hm : ∀ x ∈ m, x ∈ l ∨ a.heap.size ≤ x := by simp) : Upd l a c :=
  ⟨k.os.trans h.os, k.tape.trans h.tape, k.output.trans h.output, Nat.le_trans h.size k.size, fun i hi hl =>
    (k.block i (Nat.lt_of_lt_of_le hi h.size) fun hmem => by rcases hm i hmem with h1 | h1; exact hl h1; omega).trans (h.block i hi hl), Nat.le_trans h.drawn k.drawn⟩
theorem Upd.mono {l m : List Nat} {a b : World} (h : Upd l a b) (hm : ∀ x ∈ l, x ∈ m) : Upd m a b :=
  ⟨h.os, h.tape, h.output, h.size, fun i hi hl => h.block i hi fun hmem => hl (hm i hmem), h.drawn⟩
theorem Upd.drew (l : List Nat) (w : World) (n : Nat) (h : w.drawn ≤ n := by omega) : Upd l w { w with drawn := n } := ⟨rfl, rfl, rfl, Nat.le_refl _, fun _ _ _ => rfl, h⟩
theorem Upd.alloc (l : List Nat) (w : World) (o : Obj) : Upd l w (w.alloc o) :=
  ⟨rfl, rfl, rfl, by simp, fun k hk _ => RowKit.Below.heap_alloc w o k hk, Nat.le_refl _⟩
/-- block b holds these cells, and may be written -/
def Blk (w : World) (b : Nat) (cs : List Value) : Prop := ∃ T, w.heap[b]? = some (.cells cs.toArray T (0, 0))
theorem Blk.lt {w : World} {b : Nat} {cs : List Value} (h : Blk w b cs) : b < w.heap.size := by
  obtain ⟨T, h⟩ := h
  exact (Array.getElem?_eq_some_iff.1 h).1
theorem Blk.upd {w w' : World} {b : Nat} {cs : List Value} {l : List Nat} (h : Blk w b cs) (hu : Upd l w w') (hl : b ∉ l := by simp) : Blk w' b cs := by
  have hb := h.lt
  obtain ⟨T, h⟩ := h
  exact ⟨T, (hu.block b hb hl).trans h⟩
/-- these cells lie from o on in block b -/
def Mem (w : World) (b o : Nat) (vs : List Value) : Prop := ∀ i v, vs[i]? = some v → w.cell? ⟨b, o + i, none⟩ = some v
theorem Mem.lt {w : World} {b o : Nat} {vs : List Value} (h : Mem w b o vs) (hne : vs ≠ []) : b < w.heap.size := by
  cases vs with
  | nil => exact absurd rfl hne
  | cons v vs =>
    have := h 0 v rfl
    exact World.block_lt_of_cell? (w := w) (a := ⟨b, o + 0, none⟩) this
theorem Mem.upd {w w' : World} {b o : Nat} {vs : List Value} {l : List Nat} (h : Mem w b o vs) (hu : Upd l w w') (hl : b ∉ l := by simp) : Mem w' b o vs := fun i v hv => by
  have h1 := h i v hv
  have hb := World.block_lt_of_cell? (w := w) (a := ⟨b, o + i, none⟩) h1
  rw [← h1]
  exact World.cell?_of_block (w := w) (a := ⟨b, o + i, none⟩) (hu.block b hb hl)
theorem Blk.cell {w : World} {b : Nat} {cs : List Value} (h : Blk w b cs) {o : Nat} {v : Value} (hv : cs[o]? = some v) : w.cell? ⟨b, o, none⟩ = some v := by
  obtain ⟨T, h⟩ := h
  simp [World.cell?, h, hv]
theorem Blk.mem {w : World} {b : Nat} {cs : List Value} (h : Blk w b cs) (o : Nat) {vs : List Value} (hv : ∀ i v, vs[i]? = some v → cs[o + i]? = some v) : Mem w b o vs :=
  fun i v hi => h.cell (hv i v hi)
theorem Blk.memAll {w : World} {b : Nat} {cs : List Value} (h : Blk w b cs) : Mem w b 0 cs := h.mem 0 (by simp)
theorem Mem.sub {w : World} {b o : Nat} {vs us : List Value} (h : Mem w b o vs) (j : Nat) (hs : ∀ i v, us[i]? = some v → vs[j + i]? = some v) : Mem w b (o + j) us :=
  fun i v hv => by have := h (j + i) v (hs i v hv); rwa [← Nat.add_assoc] at this
theorem loadCells_run {P : Program} {w : World} {b o : Nat} : ∀ (vs : List Value) (i : Nat) (acc : Array Value), Mem w b (o + i) vs →
    (loadCellsFrom ⟨b, o, none⟩ i vs.length acc).run P w = .ok (acc ++ vs.toArray) w := by
  intro vs
  induction vs with
  | nil => intro i acc _; simp [loadCellsFrom]
  | cons v vs ih =>
    intro i acc h
    have h0 := h 0 v rfl
    have h1 : Mem w b (o + (i + 1)) vs := fun j u hj => by
      have := h (j + 1) u hj
      rw [show o + (i + 1) + j = o + i + (j + 1) from by omega]; exact this
    simp only [List.length_cons, loadCellsFrom, Sem.run_bind, add_mk, run_load]
    simp only [Nat.add_zero] at h0
    simp only [h0, Result.andThen_ok, ih (i + 1) _ h1]
    congr 1
    simp
section rules
variable {P : Program} {n : Nat} {c : Ctx} {D : List Deferred} {is : List Ins} {k : Kont} {e : Env} {w : World}
theorem exec_load1 {d b o : Nat} {x : Operand} {v : Value} (hx : e.ev x = some (.pointer (some ⟨b, o, none⟩))) (hd : Nat.blt d n = true) (hc : w.cell? ⟨b, o, none⟩ = some v)
    (next : Exec P n c D is k ((d, v) :: e) w) : Exec P n c D (.op none (some d) (.load1 x) :: is) k e w :=
  exec_val hd (fun a hk => by simp [MOp.sem, Env.ok_ev hk hx, Instr.sureAddr, hc]) next
theorem exec_loadN {d b o N : Nat} {x : Operand} {vs : List Value} (hx : e.ev x = some (.pointer (some ⟨b, o, none⟩))) (hd : Nat.blt d n = true) (hc : Mem w b o vs) (hl : vs.length = N)
    (next : Exec P n c D is k ((d, .agg vs.toArray) :: e) w) : Exec P n c D (.op none (some d) (.loadN N x) :: is) k e w :=
  exec_val hd (fun a hk => by
    subst hl
    have := loadCells_run (P := P) vs 0 #[] (by simpa using hc)
    simp [MOp.sem, Env.ok_ev hk hx, Instr.sureAddr, loadCells, this]) next
theorem alloc_blk (w : World) (cs : List Value) (T : TypeId) : Blk (w.alloc (.cells cs.toArray T)) w.heap.size cs := ⟨T, by
  show (w.heap.push _)[w.heap.size]? = _
  simp⟩
theorem exec_new {d : Nat} {T : TypeId} {z : Array Value} (hd : Nat.blt d n = true)
    (next : ∀ b w', b = w.heap.size → w'.heap.size = w.heap.size + 1 → Ext w w' → Blk w' b z.toList → Exec P n c D is k ((d, .pointer (some ⟨b, 0, none⟩)) :: e) w') :
    Exec P n c D (.op none (some d) (.new T z) :: is) k e w :=
  exec_val (w' := w.alloc (.cells z T)) hd (fun a hk => by simp [MOp.sem, newRow])
    (next _ _ rfl (by simp) (Upd.alloc _ _ _) (alloc_blk w z.toList T))
theorem exec_box {d : Nat} {T : TypeId} {x : Operand} {v : Value} (hx : e.ev x = some v) (hd : Nat.blt d n = true)
    (next : ∀ b w', b = w.heap.size → w'.heap.size = w.heap.size + 1 → Ext w w' → Blk w' b v.cells.toList → Exec P n c D is k ((d, .pointer (some ⟨b, 0, none⟩)) :: e) w') :
    Exec P n c D (.op none (some d) (.box T x) :: is) k e w :=
  exec_val (w' := w.alloc (.cells v.cells T)) hd (fun a hk => by simp [MOp.sem, newVar, newRow, Env.ok_ev hk hx])
    (next _ _ rfl (by simp) (Upd.alloc _ _ _) (alloc_blk w v.cells.toList T))
theorem exec_mkMap {d : Nat} (hd : Nat.blt d n = true)
    (next : ∀ b w', b = w.heap.size → w'.heap.size = w.heap.size + 1 → Ext w w' → w'.heap[b]? = some (.map #[] 0) → Exec P n c D is k ((d, .map (some b)) :: e) w') :
    Exec P n c D (.op none (some d) .mkMap :: is) k e w :=
  exec_val (w' := w.alloc (.map #[] 0)) hd (fun a hk => by simp [MOp.sem])
    (next _ _ rfl (by simp) (Upd.alloc _ _ _) (by show (w.heap.push _)[w.heap.size]? = _; simp))
/-- the cells of cs, vs laid over them from o on -/
def splice (cs : List Value) (o : Nat) (vs : List Value) : List Value := cs.take o ++ vs ++ cs.drop (o + vs.length)
theorem splice_cons (cs : List Value) (o : Nat) (v : Value) (vs : List Value) (h : o < cs.length) : splice (cs.set o v) (o + 1) vs = splice cs o (v :: vs) := by
  simp only [splice, List.length_cons]
  rw [show o + 1 + vs.length = o + (vs.length + 1) from by omega]
  rw [List.drop_set_of_lt (by omega)]
  rw [List.take_set, List.take_succ_eq_append_getElem h]
  rw [List.set_append_right _ _ (by simp; omega)]
  simp [Nat.min_eq_left (Nat.le_of_lt h)]
def cellValue : Value → Bool
  | .agg _ | .tuple _ => false
  | _ => true
theorem setCell_blk {w : World} {b : Nat} {cs : List Value} (h : Blk w b cs) (o : Nat) (v : Value) : Blk (w.setCell ⟨b, o, none⟩ v) b (cs.set o v) := by
  obtain ⟨T, h⟩ := h
  refine ⟨T, ?_⟩
  simp only [World.setCell]
  rw [Array.getElem?_modify]
  simp [h]
theorem setCell_upd {w : World} {b : Nat} (o : Nat) (v : Value) : Upd [b] w (w.setCell ⟨b, o, none⟩ v) :=
  ⟨rfl, rfl, rfl, by simp [World.setCell], fun k _ hk => RowKit.Below.heap_setCell w ⟨b, o, none⟩ v k (by simpa using hk), Nat.le_refl _⟩
theorem storeCells_run {P : Program} {b o : Nat} : ∀ (vs : List Value) (i : Nat) (w : World) (cs : List Value), Blk w b cs → o + i + vs.length ≤ cs.length → vs.all cellValue = true →
    ∃ w', (storeCells ⟨b, o, none⟩ vs i).run P w = .ok () w' ∧ Upd [b] w w' ∧ w'.heap.size = w.heap.size ∧ Blk w' b (splice cs (o + i) vs) := by
  intro vs
  induction vs with
  | nil =>
    intro i w cs h _ _
    exact ⟨w, by simp [storeCells], Upd.refl _ _, rfl, by simpa [splice] using h⟩
  | cons v vs ih =>
    intro i w cs h hl hall
    simp only [List.all_cons, Bool.and_eq_true] at hall
    simp only [List.length_cons] at hl
    have h1 := setCell_blk h (o + i) v
    obtain ⟨w', hr, hu, hs, hb⟩ := ih (i + 1) _ _ h1 (by simp; omega) hall.2
    have hcell : w.cell? ⟨b, o + i, none⟩ = some cs[o + i] := h.cell (List.getElem?_eq_getElem (by omega))
    have hfz : w.frozen? ⟨b, o + i, none⟩ = false := by
      obtain ⟨T, h⟩ := h
      simp [World.frozen?, h]
    refine ⟨w', ?_, (setCell_upd (o + i) v).trans hu, by rw [hs]; simp, ?_⟩
    · simp only [storeCells, Sem.run_bind, add_mk]
      rw [run_store P w ⟨b, o + i, none⟩ v .plain (by cases v <;> simp_all [Value.oneCell', cellValue])]
      simp only [hcell, hfz, Bool.false_eq_true, if_false, Result.andThen_ok, hr]
    · rw [show o + (i + 1) = o + i + 1 from by omega] at hb
      rw [splice_cons _ _ _ _ (by omega)] at hb
      exact hb
theorem exec_store {N b o : Nat} {x y : Operand} {v : Value} {cs : List Value} (hx : e.ev x = some (.pointer (some ⟨b, o, none⟩))) (hy : e.ev y = some v)
    (hb : Blk w b cs) (hl : v.cells.size = N) (hle : o + N ≤ cs.length) (hv : v.cells.toList.all cellValue = true)
    (next : ∀ w', Upd [b] w w' → w'.heap.size = w.heap.size → Blk w' b (splice cs o v.cells.toList) → Exec P n c D is k e w') :
    Exec P n c D (.op none none (.store N x y) :: is) k e w := by
  obtain ⟨w', hr, hu, hs, hb'⟩ := storeCells_run (P := P) (o := o) v.cells.toList 0 w cs hb (by simp [hl]; omega) hv
  refine exec_skip (w' := w') (fun a hk => ?_) (next w' hu hs hb')
  simp [MOp.sem, Env.ok_ev hk hx, Env.ok_ev hk hy, Instr.sureAddr, hl, hr]
/-- a new block, filled at once -/
theorem exec_new_store {N d : Nat} {T : TypeId} {z : Array Value} {y : Operand} {v : Value} (hy : e.ev y = some v) (hd : Nat.blt d n = true) (hne' : (match y with | .tmp t => !(Nat.beq t d) | _ => true) = true)
    (hl : v.cells.size = N) (hz : z.size = N) (hv : v.cells.toList.all cellValue = true)
    (next : ∀ b w', b = w.heap.size → w'.heap.size = w.heap.size + 1 → Ext w w' → Blk w' b v.cells.toList → Exec P n c D is k ((d, .pointer (some ⟨b, 0, none⟩)) :: e) w') :
    Exec P n c D (.op none (some d) (.new T z) :: .op none none (.store N (.tmp d) y) :: is) k e w := by
  have hne : ∀ t, y = .tmp t → t ≠ d := by
    intro t ht h
    subst ht
    subst h
    simp at hne'
  refine exec_new hd ?_
  intro b w1 hb hs1 hu hB
  have hy' : Env.ev ((d, .pointer (some ⟨b, 0, none⟩)) :: e) y = some v := by
    cases y with
    | tmp t =>
      have := hne t rfl
      simp only [Env.ev, Env.get]
      split
      · rename_i h; exact absurd (Nat.eq_of_beq_eq_true h).symm this
      · exact hy
    | const u => exact hy
    | global g => exact hy
    | func f => exact hy
  refine exec_store (b := b) (o := 0) (v := v) (by simp [Env.ev, Env.get]) hy' hB hl (by simp [hz]) hv ?_
  intro w2 hu2 hs2 hB2
  have e1 : splice z.toList 0 v.cells.toList = v.cells.toList := by simp [splice, hl, hz]
  rw [e1] at hB2
  exact next b w2 hb (by rw [hs2, hs1]) (hu.trans hu2 (by simp [hb])) hB2
end rules
end Go.Sp

namespace Go.Sp
inductive RV where
  | tmp (t : Nat)
  | cell (agg : Bool) (size : Nat) (t : Nat)
structure Body where
  n : Nat
  res : List RV
  code : List Ins
def convR (P : Program) : ResultVar → Option RV
  | .tmp t => some (.tmp t)
  | .cell a t => match P.underlying t, P.info? t with
    | some d, some i => some (.cell (aggD d) i.size a)
    | _, _ => none
def bodyOf (P : Program) (f : FuncId) : Option Body :=
  match P.funcs[f]? with
  | none => none
  | some fn => match fn.body with
    | none => none
    | some c => if fn.name != "runtime.NumGoroutine" then (fn.results.toList.mapM (convR P)).map fun r => ⟨fn.ntmps, r, convC P c⟩ else none
/-- P's function f has this body -/
def Has (P : Program) (f : FuncId) (B : Body) : Prop := bodyOf P f = some B
theorem Has.out {P : Program} {f : FuncId} {B : Body} (h : Has P f B) :
    ∃ fn cd, P.funcs[f]? = some fn ∧ fn.body = some cd ∧ fn.name ≠ "runtime.NumGoroutine" ∧ fn.ntmps = B.n ∧ fn.results.toList.mapM (convR P) = some B.res ∧ convC P cd = B.code := by
  unfold Has bodyOf at h
  split at h
  · cases h
  · rename_i fn hf
    split at h
    · cases h
    · rename_i cd hc
      split at h
      · rename_i hn
        cases hr : fn.results.toList.mapM (convR P) with
        | none => simp [hr] at h
        | some r =>
          simp [hr] at h
          subst h
          exact ⟨fn, cd, hf, hc, by simpa using hn, rfl, hr, rfl⟩
      · cases h
theorem Has.enters {P : Program} {f : FuncId} {B : Body} (h : Has P f B) : Enters P f := by
  obtain ⟨fn, cd, hf, hb, hn, _⟩ := h.out
  exact ⟨fn, hf, by simp [hb], hn⟩
/-- a result variable holds a value -/
def RV.holds (e : Env) (w : World) : RV → Value → Prop
  | .tmp t, v => e.get t = some v
  | .cell false _ t, v => ∃ b o, e.get t = some (.pointer (some ⟨b, o, none⟩)) ∧ w.cell? ⟨b, o, none⟩ = some v
  | .cell true N t, v => ∃ b o vs, e.get t = some (.pointer (some ⟨b, o, none⟩)) ∧ Mem w b o vs ∧ vs.length = N ∧ v = .agg vs.toArray
def resultsHold (e : Env) (w : World) : List RV → List Value → Prop
  | [], [] => True
  | r :: rs, v :: vs => r.holds e w v ∧ resultsHold e w rs vs
  | _, _ => False
def single (vs : List Value) : Value := match vs with
  | [v] => v
  | vs => .tuple vs.toArray
def rvSem (tm : Array Value) : ResultVar → Sem Value
  | .tmp t => pure (tm.getD t undef)
  | .cell a t => do loadVar t (← asAddr (tm.getD a undef))
theorem result_run {P : Program} {e : Env} {w : World} {tm : Array Value} (hk : e.ok tm) {rv : ResultVar} {r : RV} {v : Value} (hr : convR P rv = some r) (hv : r.holds e w v) :
    (rvSem tm rv).run P w = .ok v w := by
  cases rv with
  | tmp t =>
    simp [convR] at hr; subst hr
    have := hk t v hv
    simp [rvSem, Array.getD_eq_getD_getElem?, this]
  | cell a t =>
    simp only [convR] at hr
    split at hr
    · rename_i d i hd hi
      simp at hr; subst hr
      cases hag : aggD d with
      | false =>
        rw [hag] at hv
        obtain ⟨b, o, hg, hc⟩ := hv
        have := hk a _ hg
        simp [rvSem, Array.getD_eq_getD_getElem?, this, asAddr, loadVar, run_aggq hd, hag, hc]
      | true =>
        rw [hag] at hv
        obtain ⟨b, o, vs, hg, hm, hl, rfl⟩ := hv
        have := hk a _ hg
        have hlc := loadCells_run (P := P) vs 0 #[] (by simpa using hm)
        simp [rvSem, Array.getD_eq_getD_getElem?, this, asAddr, loadVar, run_aggq hd, hag, run_size hi, ← hl, loadCells, hlc]
    · cases hr
theorem results_run {P : Program} {e : Env} {w : World} {tm : Array Value} (hk : e.ok tm) : ∀ (rvs : List ResultVar) (rs : List RV) (vs : List Value), rvs.mapM (convR P) = some rs → resultsHold e w rs vs →
    (rvs.mapM (rvSem tm)).run P w = .ok vs w := by
  intro rvs
  induction rvs with
  | nil =>
    intro rs vs h hv
    simp at h; subst h
    cases vs with
    | nil => simp
    | cons v vs => exact hv.elim
  | cons rv rvs ih =>
    intro rs vs h hv
    simp only [List.mapM_cons] at h
    cases hr : convR P rv with
    | none => simp [hr] at h
    | some r =>
      cases hrs : rvs.mapM (convR P) with
      | none => simp [hr, hrs] at h
      | some rs' =>
        simp [hr, hrs] at h
        subst h
        cases vs with
        | nil => exact hv.elim
        | cons v vs =>
          simp only [List.mapM_cons, Sem.run_bind]
          rw [result_run hk hr hv.1]
          simp only [Result.andThen_ok, Sem.run_bind]
          rw [ih rs' vs hrs hv.2]
          simp
theorem resultsFn_run {P : Program} {e : Env} {w : World} {tm : Array Value} {fn : Func} {rs : List RV} {vs : List Value} (hk : e.ok tm) (hr : fn.results.toList.mapM (convR P) = some rs) (hv : resultsHold e w rs vs) :
    (results fn tm).run P w = .ok (single vs) w := by
  have e1 : results fn tm = (do
      let vs ← fn.results.mapM (rvSem tm)
      pure (if h : vs.size = 1 then vs[0] else .tuple vs)) := rfl
  rw [e1, Array.mapM_eq_mapM_toList]
  simp only [Sem.run_bind, Sem.run_map]
  have := results_run (P := P) hk _ _ _ hr hv
  rw [this]
  simp only [Result.andThen_ok, Sem.run_pure]
  congr 1
  unfold single
  match vs with
  | [] => rfl
  | [v] => rfl
  | v :: u :: vs => simp
def markOf (r : Nat) : Deferred := { target := .collected r, args := #[] }
/-- the blocks of deferred calls are shut, one by one -/
def Shut : List Nat → World → World → Prop
  | [], w, w' => w' = w
  | r :: ms, w, w' => w.heap[r]? = some (.deferred (some [])) ∧ Shut ms (w.putObj r (.deferred none)) w'
/-- what a function's context asks where it is left -/
structure FnCtx (P : Program) (B : Body) (R : Value → World → Prop) (c : Ctx) : Prop where
  rd : c.rd = none
  ret : ∀ (a : Act) (w w' : World) (e : Env) (vs : List Value) (ms : List Nat), e.ok a.tmps → a.defers = ms.map markOf → Shut ms w w' → resultsHold e w' B.res vs → R (single vs) w' → c.Q .ret a w
  norm : ∀ (a : Act) (w w' : World) (e : Env) (vs : List Value) (ms : List Nat), e.ok a.tmps → a.defers = ms.map markOf → Shut ms w w' → resultsHold e w' B.res vs → R (single vs) w' → c.Q .normal a w
theorem putObj_upd (w : World) (l : Nat) (o : Obj) : Upd [l] w (w.putObj l o) :=
  ⟨rfl, rfl, rfl, by simp, fun k _ hk => World.putObj_heap_other (by simpa using hk), Nat.le_refl _⟩
theorem shut_all : ∀ (ms : List Nat) (w : World), ms.Nodup → (∀ r ∈ ms, w.heap[r]? = some (.deferred (some []))) → ∃ w', Shut ms w w' ∧ Upd ms w w' ∧ w'.heap.size = w.heap.size := by
  intro ms
  induction ms with
  | nil => intro w _ _; exact ⟨w, rfl, Upd.refl _ _, rfl⟩
  | cons r ms ih =>
    intro w hn h
    obtain ⟨w', h1, h2, h3⟩ := ih (w.putObj r (.deferred none)) (List.nodup_cons.1 hn).2 (fun r' hr' => by
      rw [World.putObj_heap_other (fun (e : r' = r) => (List.nodup_cons.1 hn).1 (e ▸ hr'))]
      exact h r' (List.mem_cons_of_mem _ hr'))
    refine ⟨w', ⟨h r List.mem_cons_self, h1⟩, ?_, by rw [h3]; simp⟩
    exact ((putObj_upd w r _).mono (by simp)).trans h2 (fun x hx => .inl (List.mem_cons_of_mem _ hx))
theorem leaves_marks {P : Program} {F : Fence} {n : Nat} {fn : Func} {tmps : Array Value} {R : Ending → World → Prop} : ∀ (ms : List Nat) (w w' : World), Shut ms w w' → LeavesInM F n P fn tmps R [] .returning w' → LeavesInM F n P fn tmps R (ms.map markOf) .returning w := by
  intro ms
  induction ms with
  | nil => intro w w' h hl; cases h; exact hl
  | cons r ms ih =>
    intro w w' h hl
    exact ⟨by simp, .inl ⟨r, _, rfl, run_takeDeferred h.1, ih _ _ h.2 hl⟩⟩
def argEnv : Nat → List Value → Env
  | _, [] => []
  | i, v :: vs => (i, v) :: argEnv (i + 1) vs
theorem argEnv_get : ∀ (vs : List Value) (i t : Nat) (v : Value), (argEnv i vs).get t = some v → i ≤ t ∧ vs[t - i]? = some v := by
  intro vs
  induction vs with
  | nil => intro i t v h; simp [argEnv, Env.get] at h
  | cons u vs ih =>
    intro i t v h
    simp only [argEnv, Env.get] at h
    split at h
    · rename_i hb
      have := Nat.eq_of_beq_eq_true hb
      subst this
      exact ⟨Nat.le_refl _, by simpa using h⟩
    · rename_i hb
      obtain ⟨h1, h2⟩ := ih (i + 1) t v h
      refine ⟨by omega, ?_⟩
      rw [show t - i = (t - (i + 1)) + 1 from by omega]
      simpa using h2
theorem Ret.of_exec {P : Program} {f : FuncId} {B : Body} {args : List Value} {w : World} {R : Value → World → Prop} (h : Has P f B) (ha : args.length ≤ B.n)
    (hx : ∀ c, FnCtx P B R c → Exec P B.n c [] B.code .done (argEnv 0 args) w) : Ret P f args w R := by
  obtain ⟨fn, cd, hf, hb, hn, hnt, hres, hcode⟩ := h.out
  unfold Ret
  refine (callsIn_wide (n := 0)).1 ?_
  refine callsIn_of_wp_marks hf hb trivial ?_
  have e1 : Fence.wide = FW none := rfl
  rw [e1]
  refine code_ok _ _ _ _ ?_
  rw [hcode]
  refine (hx ⟨none, bodyPostM (FW none) 0 P fn fun e w' => ∃ v, e = .returned v ∧ R v w'⟩ ⟨rfl, ?_, ?_⟩).run _ ?_ ?_ rfl
  · intro a w w' e vs ms hk hd hs hv hR
    show LeavesInM _ _ _ _ _ _ _ _ _
    rw [hd]
    exact leaves_marks ms w w' hs ⟨_, resultsFn_run hk hres hv, _, rfl, hR⟩
  · intro a w w' e vs ms hk hd hs hv hR
    show LeavesInM _ _ _ _ _ _ _ _ _
    rw [hd]
    exact leaves_marks ms w w' hs ⟨_, resultsFn_run hk hres hv, _, rfl, hR⟩
  · simp [hnt]; omega
  · intro t v hg
    obtain ⟨_, h2⟩ := argEnv_get args 0 t v hg
    simp only [Nat.sub_zero] at h2
    have hlt : t < args.length := (List.getElem?_eq_some_iff.1 h2).1
    show (args.toArray ++ _)[t]? = some v
    rw [Array.getElem?_append_left (by simpa using hlt)]
    simpa using h2
section rules
variable {P : Program} {c : Ctx} {D : List Deferred} {is : List Ins} {k : Kont} {e : Env} {w : World} {B : Body} {R : Value → World → Prop}
theorem xre (hc : FnCtx P B R c) (vs : List Value) (hv : resultsHold e w B.res vs) (hR : R (single vs) w) : Exec P B.n c [] (.ret :: is) k e w :=
  exec_ret fun a _ hk hd => hc.ret a w w e vs [] hk hd rfl hv hR
theorem exec_end (hc : FnCtx P B R c) (vs : List Value) (hv : resultsHold e w B.res vs) (hR : R (single vs) w) : Exec P B.n c [] [] .done e w := .intro fun a hn hk hd => by
  simp only [denL, Kont.sem]
  exact hc.norm a w w e vs [] hk hd rfl hv hR
/-- a return behind ranges over functions -/
theorem exec_returnM (hc : FnCtx P B R c) (ms : List Nat) (hD : D = ms.map markOf) (hn : ms.Nodup) (hm : ∀ r ∈ ms, w.heap[r]? = some (.deferred (some [])))
    (vs : List Value) (h : ∀ w', Upd ms w w' → w'.heap.size = w.heap.size → resultsHold e w' B.res vs ∧ R (single vs) w') : Exec P B.n c D (.ret :: is) k e w := by
  obtain ⟨w', h1, h2, h3⟩ := shut_all ms w hn hm
  obtain ⟨h4, h5⟩ := h w' h2 h3
  exact exec_ret fun a _ hk hd => hc.ret a w w' e vs ms hk (hd.trans hD) h1 h4 h5
end rules
section rules
variable {P : Program} {n : Nat} {c : Ctx} {D : List Deferred} {is : List Ins} {k : Kont} {e : Env} {w : World}
end rules
end Go.Sp

namespace Go.Sp
def stepR (n : Nat) : List Ins → Kont → Env → Option (List Ins × Kont × Env)
  | .op none (some d) m :: is, k, e => match pureV e m with
    | some v => match Nat.blt d n with
      | true => some (is, k, (d, v) :: e)
      | false => none
    | none => none
  | .op (some (some j, b)) d m :: is, k, e => match e.get j with
    | some (.bool true) => match b with
      | true => some (.op none d m :: is, k, e)
      | false => match d with
        | some d => match Nat.blt d n with
          | true => some (is, k, (d, undef) :: e)
          | false => none
        | none => some (is, k, e)
    | some (.bool false) => match b with
      | false => some (.op none d m :: is, k, e)
      | true => match d with
        | some d => match Nat.blt d n with
          | true => some (is, k, (d, undef) :: e)
          | false => none
        | none => some (is, k, e)
    | some (.tuple _) => match d with
      | some d => match Nat.blt d n with
        | true => some (is, k, (d, undef) :: e)
        | false => none
      | none => none
    | _ => none
  | .cond x t f :: is, k, e => match e.ev x with
    | some (.bool true) => some (t, .seq is k, e)
    | some (.bool false) => some (f, .seq is k, e)
    | _ => none
  | .block id b :: is, k, e => some (b, .blk id (.seq is k), e)
  | .exit id :: _, k, e => match k.unwind id with
    | some k' => some ([], k', e)
    | none => none
  | [], .seq is k, e => some (is, k, e)
  | [], .blk _ k, e => some ([], k, e)
  | _, _, _ => none
def runR (n : Nat) : Nat → List Ins → Kont → Env → Option (List Ins × Kont × Env)
  | 0, is, k, e => some (is, k, e)
  | f + 1, is, k, e => match stepR n is k e with
    | some (is', k', e') => runR n f is' k' e'
    | none => none
section
variable {P : Program} {n : Nat} {c : Ctx} {D : List Deferred} {w : World}
theorem exec_g_any {is : List Ins} {k : Kont} {e : Env} {j : Nat} {b : Bool} {d : Nat} {m : MOp} {vs : Array Value} (hv : e.get j = some (.tuple vs)) (hd' : Nat.blt d n = true) (hx : Exec P n c D is k ((d, undef) :: e) w) :
    Exec P n c D (.op (some (some j, b)) (some d) m :: is) k e w := .intro fun a hn hk hd => by
  have hq : gOK (some (some j, b)) a.tmps = false := by
    simp only [gOK, Option.bind_some, hk j _ hv]
  simp only [denL, denI, stepOp, hq, Bool.false_eq_true, if_false]
  refine hx.run (a.put (some d) undef) ?_ ?_ hd
  · simp [Act.put, hn]
  · exact Env.ok_set hk (by rw [hn]; simpa using hd')
theorem stepR_ok {is is' : List Ins} {k k' : Kont} {e e' : Env} (h : stepR n is k e = some (is', k', e')) (hx : Exec P n c D is' k' e' w) : Exec P n c D is k e w := by
  unfold stepR at h
  split at h
  · split at h
    · rename_i hv
      split at h
      · rename_i hd
        cases h
        exact xpu hv hd hx
      · cases h
    · cases h
  · split at h
    · rename_i hg
      split at h
      · cases h; exact xgr hg hx
      · split at h
        · split at h
          · rename_i hd
            cases h; exact xgs hg hd hx
          · cases h
        · cases h; exact xg0 hg hx
    · rename_i hg
      split at h
      · cases h; exact xgr hg hx
      · split at h
        · split at h
          · rename_i hd
            cases h; exact xgs hg hd hx
          · cases h
        · cases h; exact xg0 hg hx
    · rename_i hg
      split at h
      · split at h
        · rename_i hd
          cases h; exact exec_g_any hg hd hx
        · cases h
      · cases h
    · cases h
  · split at h
    · rename_i hv
      cases h; exact xct hv hx
    · rename_i hv
      cases h; exact xcf hv hx
    · cases h
  · cases h; exact xbk hx
  · split at h
    · rename_i hv
      cases h; exact xex hv hx
    · cases h
  · cases h; exact xsq hx
  · cases h; exact xbl hx
  · cases h
/-- f steps -/
theorem xr {is' : List Ins} {k' : Kont} {e' : Env} : ∀ (f : Nat) {is : List Ins} {k : Kont} {e : Env}, runR n f is k e = some (is', k', e') → Exec P n c D is' k' e' w → Exec P n c D is k e w := by
  intro f
  induction f with
  | zero => intro is k e h hx; cases h; exact hx
  | succ f ih =>
    intro is k e h hx
    simp only [runR] at h
    split at h
    · rename_i hs
      exact stepR_ok hs (ih h hx)
    · cases h
end
end Go.Sp

namespace Go.Sp
/-- the slots that the operations of 'deps' have written -/
def dEnv (ds : List DOp) (vs : Nat → Value) : List Nat → Env
  | [] => []
  | j :: deps => match ds[j]? with
    | some (_, _, some d, _) => (d, vs j) :: dEnv ds vs deps
    | _ => dEnv ds vs deps
/-- may slot t still hold what it held, when operation i runs? -/
def stays (i t : Nat) : List DOp → Bool
  | [] => true
  | (deps, _, d, _) :: r => (match d with
    | none => true
    | some s => match Nat.beq s t with
      | true => deps.contains i
      | false => true) && stays i t r
def keepEnv (ds : List DOp) (i : Nat) : Env → Env
  | [] => []
  | (t, v) :: e => match stays i t ds with
    | true => (t, v) :: keepEnv ds i e
    | false => keepEnv ds i e
def put (vs : Nat → Value) (i : Nat) (v : Value) : Nat → Value := fun x => if x = i then v else vs x
/-- what one operation owes -/
def DStep (P : Program) (Rel : World → World → Prop) (g : Option (Option Nat × Bool)) (m : MOp) (e : Env) (W : World) (R : World → Value → Prop) : Prop :=
  match g with
  | none => OpOK P m e W fun v W' => Rel W W' ∧ R W' v
  | some (none, _) => False
  | some (some s, b) => (e.get s = some (.bool b) ∧ OpOK P m e W fun v W' => Rel W W' ∧ R W' v) ∨ ((e.get s = some (.bool !b) ∨ e.get s = some undef) ∧ R W undef)
/-- what the operations from number i on owe -/
def DSteps (P : Program) (Rel : World → World → Prop) (ds : List DOp) (Rs : Nat → World → (Nat → Value) → Prop) (e : Env) (w : World) : Nat → List DOp → Prop
  | _, [] => True
  | i, (deps, g, _, m) :: r => (∀ (vs : Nat → Value) (W : World), Rel w W → (∀ j ∈ deps, Rs j W vs) → DStep P Rel g m (dEnv ds vs deps ++ keepEnv ds i e) W fun W' v => Rs i W' (put vs i v)) ∧ DSteps P Rel ds Rs e w (i + 1) r
theorem DSteps.get {P : Program} {Rel : World → World → Prop} {ds : List DOp} {Rs : Nat → World → (Nat → Value) → Prop} {e : Env} {w : World} : ∀ (l : List DOp) (i : Nat), DSteps P Rel ds Rs e w i l →
    ∀ (j : Nat) deps g d m, l[j]? = some (deps, g, d, m) → ∀ (vs : Nat → Value) (W : World), Rel w W → (∀ j ∈ deps, Rs j W vs) → DStep P Rel g m (dEnv ds vs deps ++ keepEnv ds (i + j) e) W fun W' v => Rs (i + j) W' (put vs (i + j) v) := by
  intro l
  induction l with
  | nil => intro i _ j deps g d m h; simp at h
  | cons x l ih =>
    obtain ⟨deps0, g0, d0, m0⟩ := x
    intro i h j deps g d m hj
    cases j with
    | zero =>
      simp at hj
      obtain ⟨rfl, rfl, rfl, rfl⟩ := hj
      exact h.1
    | succ j =>
      have := ih (i + 1) h.2 j deps g d m (by simpa using hj)
      rw [show i + (j + 1) = i + 1 + j from by omega]
      exact this
/-- the slots behind the free part -/
def outEnv (vs : Nat → Value) : Nat → List DOp → Env
  | _, [] => []
  | i, (_, _, d, _) :: r => match d with
    | some d => (d, vs i) :: outEnv vs (i + 1) r
    | none => outEnv vs (i + 1) r
theorem closeDeps_spec (x0 : Nat) : ∀ (l : List DOp) (acc : List (List Nat)) (C : List DOp), (∀ (j : Nat) (c : List Nat), acc[j]? = some c → ∃ g d m, C[j]? = some (c, g, d, m)) →
    C = C.take acc.length ++ closeDeps acc l → C.length = acc.length + l.length →
    ∀ (k : Nat) c g d m, (closeDeps acc l)[k]? = some (c, g, d, m) → ∃ deps, l[k]? = some (deps, g, d, m) ∧ (∀ x ∈ deps, x ∈ c) ∧
      (∀ x ∈ c, x ∈ deps ∨ ∃ j ∈ deps, ∃ c' g' d' m', C[j]? = some (c', g', d', m') ∧ x ∈ c') := by
  intro l
  induction l with
  | nil => intro acc C _ _ _ k c g d m h; simp [closeDeps] at h
  | cons p l ih =>
    obtain ⟨deps, g0, d0, m0⟩ := p
    intro acc C hacc hC hlen k c g d m h
    simp only [closeDeps] at h hC
    generalize hc : (deps ++ deps.flatMap fun j => acc.getD j []).eraseDups = c0 at h hC
    have hmem : ∀ x, x ∈ c0 ↔ x ∈ deps ∨ ∃ j ∈ deps, x ∈ acc.getD j [] := by
      intro x; rw [← hc]; simp
    cases k with
    | zero =>
      simp at h
      obtain ⟨rfl, rfl, rfl, rfl⟩ := h
      refine ⟨deps, by simp, fun x hx => (hmem x).2 (.inl hx), fun x hx => ?_⟩
      rcases (hmem x).1 hx with h1 | ⟨j, hj, hx⟩
      · exact .inl h1
      · refine .inr ⟨j, hj, ?_⟩
        cases ha : acc[j]? with
        | none => simp [List.getD_eq_getElem?_getD, ha] at hx
        | some c' =>
          obtain ⟨g', d', m', hC'⟩ := hacc j c' ha
          exact ⟨c', g', d', m', hC', by simpa [List.getD_eq_getElem?_getD, ha] using hx⟩
    | succ k =>
      have hget : C[acc.length]? = some (c0, g0, d0, m0) := by
        rw [hC]
        have : (C.take acc.length).length = acc.length := by simp at hlen ⊢; omega
        rw [List.getElem?_append_right (by omega)]
        simp [this]
      have := ih (acc ++ [c0]) C ?_ ?_ ?_ k c g d m (by simpa using h)
      · obtain ⟨deps', h1, h2, h3⟩ := this
        exact ⟨deps', by simpa using h1, h2, h3⟩
      · intro j c' hj
        rcases Nat.lt_or_ge j acc.length with hlt | hge
        · rw [List.getElem?_append_left hlt] at hj; exact hacc j c' hj
        · rw [List.getElem?_append_right hge] at hj
          have : j = acc.length := by
            rcases Nat.eq_or_lt_of_le hge with he | he
            · exact he.symm
            · have : 1 ≤ j - acc.length := by omega
              simp [List.getElem?_eq_none (show [c0].length ≤ j - acc.length from this)] at hj
          subst this
          simp at hj; subst hj
          exact ⟨g0, d0, m0, hget⟩
      · have e1 : C.take (acc ++ [c0]).length = C.take acc.length ++ [(c0, g0, d0, m0)] := by
          have hlt : acc.length < C.length := (List.getElem?_eq_some_iff.1 hget).1
          simp only [List.length_append, List.length_cons, List.length_nil, Nat.zero_add]
          rw [List.take_succ_eq_append_getElem hlt]
          congr 1
          simp [(List.getElem?_eq_some_iff.1 hget).2]
        rw [e1, List.append_assoc]
        simpa using hC
      · simp at hlen ⊢; omega
theorem closeDeps_length : ∀ (l : List DOp) (acc : List (List Nat)), (closeDeps acc l).length = l.length := by
  intro l
  induction l with
  | nil => intro acc; rfl
  | cons p l ih => obtain ⟨deps, g0, d0, m0⟩ := p; intro acc; simp [closeDeps, ih]
/-- the closed list, an operation at a time -/
theorem allD_get {P : Program} {ops : Array Oper} {k : Nat} {c : List Nat} {g : Option (Option Nat × Bool)} {d : Option Nat} {m : MOp} (h : (allD P ops)[k]? = some (c, g, d, m)) :
    ∃ o, ops[k]? = some o ∧ g = convG ops o ∧ d = o.dst ∧ m = convO P o ∧ (∀ e ∈ o.after, Region.binds .any e = true → e.on ∈ c) ∧
      (∀ x ∈ c, (∃ e ∈ o.after, Region.binds .any e = true ∧ (x = e.on ∨ ∃ c' g' d' m', (allD P ops)[e.on]? = some (c', g', d', m') ∧ x ∈ c'))) := by
  obtain ⟨deps, h1, h2, h3⟩ := closeDeps_spec 0 (directD P ops) [] (allD P ops) (by simp) (by simp [allD]) (by simp [allD, closeDeps_length]) k c g d m h
  unfold directD at h1
  rw [List.getElem?_map] at h1
  cases hr : (List.range ops.size)[k]? with
  | none => simp [hr] at h1
  | some k' =>
    have hk : k < ops.size ∧ k' = k := by
      have := List.getElem?_eq_some_iff.1 hr
      obtain ⟨hlt, he⟩ := this
      simp at hlt he
      exact ⟨hlt, he.symm⟩
    obtain ⟨hlt, rfl⟩ := hk
    rw [hr] at h1
    simp only [Option.map_some, Option.some.injEq] at h1
    have ho : ops[k']? = some ops[k'] := Array.getElem?_eq_getElem hlt
    simp only [convD, ho, Prod.mk.injEq] at h1
    obtain ⟨rfl, rfl, rfl, rfl⟩ := h1
    refine ⟨_, ho, rfl, rfl, rfl, fun e he hb => h2 _ ?_, fun x hx => ?_⟩
    · exact List.mem_map.2 ⟨e, List.mem_filter.2 ⟨Array.mem_toList_iff.2 he, hb⟩, rfl⟩
    · rcases h3 x hx with hx | ⟨j, hj, c', g', d', m', hC, hx'⟩
      · obtain ⟨e, he, rfl⟩ := List.mem_map.1 hx
        obtain ⟨he1, he2⟩ := List.mem_filter.1 he
        exact ⟨e, Array.mem_toList_iff.1 he1, he2, .inl rfl⟩
      · obtain ⟨e, he, rfl⟩ := List.mem_map.1 hj
        obtain ⟨he1, he2⟩ := List.mem_filter.1 he
        exact ⟨e, Array.mem_toList_iff.1 he1, he2, .inr ⟨c', g', d', m', hC, hx'⟩⟩
theorem allD_length (P : Program) (ops : Array Oper) : (allD P ops).length = ops.size := by simp [allD, closeDeps_length, directD]
theorem wellDeps_get : ∀ (l : List DOp) (i : Nat), wellDeps i l = true → ∀ (k : Nat) c g d m, l[k]? = some (c, g, d, m) → ∀ x ∈ c, x < i + k := by
  intro l
  induction l with
  | nil => intro i _ k c g d m h; simp at h
  | cons p l ih =>
    obtain ⟨deps, g0, d0, m0⟩ := p
    intro i h k c g d m hk x hx
    simp only [wellDeps, Bool.and_eq_true] at h
    cases k with
    | zero =>
      simp at hk
      obtain ⟨rfl, rfl, rfl, rfl⟩ := hk
      have := List.all_eq_true.1 h.1 x hx
      simpa using this
    | succ k =>
      have := ih (i + 1) h.2 k c g d m (by simpa using hk) x hx
      omega
theorem behindAll_get : ∀ (l : List DOp) (i : Nat), behindAll i l = true → ∀ (k : Nat) c g d m, l[k]? = some (c, g, d, m) → ∀ x, x < i + k → x ∈ c := by
  intro l
  induction l with
  | nil => intro i _ k c g d m h; simp at h
  | cons p l ih =>
    obtain ⟨deps, g0, d0, m0⟩ := p
    intro i h k c g d m hk x hx
    simp only [behindAll, Bool.and_eq_true] at h
    cases k with
    | zero =>
      simp at hk
      obtain ⟨rfl, rfl, rfl, rfl⟩ := hk
      have := List.all_eq_true.1 h.1 x (by simpa using hx)
      simpa using this
    | succ k => exact ih (i + 1) h.2 k c g d m (by simpa using hk) x (by omega)
theorem splitAtD_spec (ds : List DOp) : ∀ n, behindAll n (ds.drop n) = true → behindAll (splitAtD ds n) (ds.drop (splitAtD ds n)) = true ∧ splitAtD ds n ≤ n := by
  intro n
  induction n with
  | zero => intro h; exact ⟨h, Nat.le_refl _⟩
  | succ n ih =>
    intro h
    simp only [splitAtD]
    split
    · rename_i hb
      obtain ⟨h1, h2⟩ := ih hb
      exact ⟨h1, by omega⟩
    · exact ⟨h, Nat.le_refl _⟩
def dsts : List DOp → List Nat
  | [] => []
  | (_, _, d, _) :: r => match d with
    | some d => d :: dsts r
    | none => dsts r
def nodupB : List Nat → Bool
  | [] => true
  | x :: xs => !xs.contains x && nodupB xs
theorem stays_get {i t : Nat} : ∀ (l : List DOp), stays i t l = true → ∀ (j : Nat) deps g m, l[j]? = some (deps, g, some t, m) → i ∈ deps := by
  intro l
  induction l with
  | nil => intro _ j deps g m h; simp at h
  | cons p l ih =>
    obtain ⟨deps0, g0, d0, m0⟩ := p
    intro h j deps g m hj
    simp only [stays, Bool.and_eq_true] at h
    cases j with
    | zero =>
      simp at hj
      obtain ⟨rfl, rfl, rfl, rfl⟩ := hj
      have := h.1
      simp only [Nat.beq_refl] at this
      simpa using this
    | succ j => exact ih h.2 j deps g m (by simpa using hj)
theorem keepEnv_get {ds : List DOp} {i : Nat} : ∀ (e : Env) (t : Nat) (v : Value), (keepEnv ds i e).get t = some v → stays i t ds = true ∧ ∃ u, e.get t = some u ∧ (u = v ∨ True) := by
  intro e
  induction e with
  | nil => intro t v h; simp [keepEnv, Env.get] at h
  | cons p e ih =>
    obtain ⟨s, u⟩ := p
    intro t v h
    simp only [keepEnv] at h
    split at h
    · rename_i hs
      simp only [Env.get] at h ⊢
      split at h
      · rename_i hb
        have := Nat.eq_of_beq_eq_true hb
        subst this
        exact ⟨hs, by simp⟩
      · rename_i hb
        obtain ⟨h1, u', h2, h3⟩ := ih t v h
        refine ⟨h1, ?_⟩
        exact ⟨u', by simp [hb, h2], .inr trivial⟩
    · obtain ⟨h1, u', h2, h3⟩ := ih t v h
      refine ⟨h1, ?_⟩
      simp only [Env.get]
      split
      · exact ⟨_, rfl, .inr trivial⟩
      · exact ⟨u', h2, .inr trivial⟩
theorem keepEnv_eq {ds : List DOp} {i : Nat} : ∀ (e : Env) (t : Nat), stays i t ds = true → (keepEnv ds i e).get t = e.get t := by
  intro e
  induction e with
  | nil => intro t h; rfl
  | cons p e ih =>
    obtain ⟨s, u⟩ := p
    intro t h
    simp only [keepEnv]
    split
    · simp only [Env.get]
      split
      · rfl
      · exact ih t h
    · rename_i hs
      rw [ih t h]
      simp only [Env.get]
      split
      · rename_i hb
        have := Nat.eq_of_beq_eq_true hb
        subst this
        rw [h] at hs; cases hs
      · rfl
theorem append_get {e1 e2 : Env} {t : Nat} : Env.get (e1 ++ e2) t = (e1.get t).or (e2.get t) := by
  induction e1 with
  | nil => simp [Env.get]
  | cons p e1 ih =>
    obtain ⟨s, u⟩ := p
    simp only [List.cons_append, Env.get]
    split
    · rfl
    · exact ih
theorem dEnv_get {ds : List DOp} {vs : Nat → Value} : ∀ (deps : List Nat) (t : Nat) (v : Value), (dEnv ds vs deps).get t = some v → ∃ j ∈ deps, v = vs j ∧ ∃ c g m, ds[j]? = some (c, g, some t, m) := by
  intro deps
  induction deps with
  | nil => intro t v h; simp [dEnv, Env.get] at h
  | cons j deps ih =>
    intro t v h
    simp only [dEnv] at h
    split at h
    · rename_i c g d m hj
      simp only [Env.get] at h
      split at h
      · rename_i hb
        have := Nat.eq_of_beq_eq_true hb
        subst this
        cases h
        exact ⟨j, List.mem_cons_self, rfl, c, g, m, hj⟩
      · obtain ⟨j', h1, h2⟩ := ih t v h
        exact ⟨j', List.mem_cons_of_mem _ h1, h2⟩
    · obtain ⟨j', h1, h2⟩ := ih t v h
      exact ⟨j', List.mem_cons_of_mem _ h1, h2⟩
theorem outEnv_get {vs : Nat → Value} : ∀ (l : List DOp) (i t : Nat) (v : Value), (outEnv vs i l).get t = some v → ∃ j c g m, l[j]? = some (c, g, some t, m) ∧ v = vs (i + j) := by
  intro l
  induction l with
  | nil => intro i t v h; simp [outEnv, Env.get] at h
  | cons p l ih =>
    obtain ⟨deps0, g0, d0, m0⟩ := p
    intro i t v h
    simp only [outEnv] at h
    split at h
    · rename_i d
      simp only [Env.get] at h
      split at h
      · rename_i hb
        have := Nat.eq_of_beq_eq_true hb
        subst this
        cases h
        exact ⟨0, deps0, g0, m0, by simp, rfl⟩
      · obtain ⟨j, c, g, m, h1, h2⟩ := ih (i + 1) t v h
        exact ⟨j + 1, c, g, m, by simpa using h1, by rw [h2]; congr 1; omega⟩
    · obtain ⟨j, c, g, m, h1, h2⟩ := ih (i + 1) t v h
      exact ⟨j + 1, c, g, m, by simpa using h1, by rw [h2]; congr 1; omega⟩
theorem outEnv_none {vs : Nat → Value} : ∀ (l : List DOp) (i t : Nat), (outEnv vs i l).get t = none → ∀ (j : Nat) c g d m, l[j]? = some (c, g, d, m) → d ≠ some t := by
  intro l
  induction l with
  | nil => intro i t _ j c g d m h; simp at h
  | cons p l ih =>
    obtain ⟨deps0, g0, d0, m0⟩ := p
    intro i t h j c g d m hj
    simp only [outEnv] at h
    cases d0 with
    | none =>
      simp only at h
      cases j with
      | zero => simp at hj; obtain ⟨_, _, rfl, _⟩ := hj; simp
      | succ j => exact ih (i + 1) t h j c g d m (by simpa using hj)
    | some d0 =>
      simp only [Env.get] at h
      split at h
      · cases h
      · rename_i hb
        cases j with
        | zero =>
          simp at hj
          obtain ⟨_, _, rfl, _⟩ := hj
          intro he; cases he; simp at hb
        | succ j => exact ih (i + 1) t h j c g d m (by simpa using hj)
theorem mem_dsts : ∀ (l : List DOp) (j t : Nat) c g m, l[j]? = some (c, g, some t, m) → t ∈ dsts l := by
  intro l
  induction l with
  | nil => intro j t c g m h; simp at h
  | cons p l ih =>
    obtain ⟨deps0, g0, d0, m0⟩ := p
    intro j t c g m h
    cases j with
    | zero =>
      simp at h
      obtain ⟨_, _, rfl, _⟩ := h
      simp [dsts]
    | succ j =>
      have := ih j t c g m (by simpa using h)
      simp only [dsts]
      split
      · exact List.mem_cons_of_mem _ this
      · exact this
/-- two operations do not write one slot -/
theorem dsts_uniq : ∀ (l : List DOp), nodupB (dsts l) = true → ∀ (j j' t : Nat) c g m c' g' m', l[j]? = some (c, g, some t, m) → l[j']? = some (c', g', some t, m') → j = j' := by
  intro l
  induction l with
  | nil => intro _ j j' t c g m c' g' m' h; simp at h
  | cons p l ih =>
    obtain ⟨deps0, g0, d0, m0⟩ := p
    intro h j j' t c g m c' g' m' hj hj'
    have hl : nodupB (dsts l) = true := by
      simp only [dsts] at h
      split at h
      · simp only [nodupB, Bool.and_eq_true] at h; exact h.2
      · exact h
    have hno : ∀ (k : Nat) c g m, d0 = some t → l[k]? = some (c, g, some t, m) → False := by
      intro k c g m hd hk
      subst hd
      simp only [dsts, nodupB, Bool.and_eq_true] at h
      have := mem_dsts l k t c g m hk
      simp [this] at h
    cases j with
    | zero =>
      cases j' with
      | zero => rfl
      | succ j' =>
        simp at hj hj'
        obtain ⟨_, _, hd, _⟩ := hj
        exact (hno j' c' g' m' hd hj').elim
    | succ j =>
      cases j' with
      | zero =>
        simp at hj hj'
        obtain ⟨_, _, hd, _⟩ := hj'
        exact (hno j c g m hd hj).elim
      | succ j' =>
        rw [ih hl j j' t c g m c' g' m' (by simpa using hj) (by simpa using hj')]
end Go.Sp
