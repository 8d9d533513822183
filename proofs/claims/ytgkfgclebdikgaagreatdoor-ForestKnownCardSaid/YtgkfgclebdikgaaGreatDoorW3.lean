/- spinneylaw14.ForestKnown returns true for every input, and its arguments read afterwards as before: the card. No condition. This text: part 3 of 10. -/
import Derived.Test.YtgkfgclebdikgaaGreatDoorW2
set_option linter.unusedVariables false
set_option linter.unusedSimpArgs false
set_option linter.unusedSectionVars false
namespace Go.Sp
set_option linter.unusedSectionVars false
abbrev u64V (n : Nat) : Value := .int .u64 (n : Int)
abbrev intV' (n : Nat) : Value := .int .i64 (n : Int)
abbrev byteV (b : UInt8) : Value := .int .u8 (b.toNat : Int)
abbrev Hash := { l : List UInt8 // l.length = 32 }
def hC (h : Hash) : List Value := h.1.map byteV
def hV (h : Hash) : Value := .agg (hC h).toArray
theorem hC_length (h : Hash) : (hC h).length = 32 := by simp [hC, h.2]
theorem hV_cells (h : Hash) : (hV h).cells.toList = hC h := by simp [hV, Value.cells]
theorem hV_size (h : Hash) : (hV h).cells.size = 32 := by simp [hV, Value.cells, hC_length]
theorem hC_cell (h : Hash) : (hC h).all cellValue = true := by
  rw [List.all_eq_true]; intro v hv; simp only [hC, List.mem_map] at hv; obtain ⟨b, _, rfl⟩ := hv; rfl
/-- T is an array of n bytes -/
structure TyBytes (P : Program) (T : TypeId) (n : Nat) : Prop where
  ex : ∃ e i, P.underlying T = some (.array n e) ∧ P.underlying e = some (.int .u8) ∧ P.info? e = some i ∧ i.size = 1
  guard : P.eqGuardType P.depth T = false
section
variable {P : Program} {T : TypeId} {w : World}
theorem run_part1 {e : TypeId} {k : IntKind} (he : P.underlying e = some (.int k)) {xs : Array Value} {off : Nat} {v : Value} (hx : xs[off]? = some v) : (part e xs off).run P w = .ok v w := by
  simp [part, isAgg, run_underlying he, hx]
theorem eqItems_bytes (d : Nat) {e : TypeId} (he : P.underlying e = some (.int .u8)) (xs ys : List UInt8) (hl : xs.length = ys.length) : ∀ (m i : Nat), i + m = xs.length → (∀ j, j < i → xs[j]? = ys[j]?) →
    (Op.eqItems (d + 1) e 1 (xs.map byteV).toArray (ys.map byteV).toArray (List.range' i m)).run P w = .ok (decide (xs = ys)) w := by
  intro m
  induction m with
  | zero =>
    intro i hi hpre
    have : xs = ys := by
      apply List.ext_getElem? ; intro j
      rcases Nat.lt_or_ge j i with h | h
      · exact hpre j h
      · rw [List.getElem?_eq_none (by omega), List.getElem?_eq_none (by omega)]
    simp [Op.eqItems, this]
  | succ m ih =>
    intro i hi hpre
    have hx : (xs.map byteV).toArray[i * 1]? = some (byteV (xs[i]'(by omega))) := by simp [show i < xs.length by omega]
    have hy : (ys.map byteV).toArray[i * 1]? = some (byteV (ys[i]'(by omega))) := by simp [show i < ys.length by omega]
    simp only [List.range'_succ, Op.eqItems, Sem.run_bind, run_part1 he hx, run_part1 he hy, Result.andThen_ok, run_equalIn_int w d e .u8 .u8 _ _ he]
    by_cases h : xs[i]'(by omega) = ys[i]'(by omega)
    · have h1 : (((xs[i]'(by omega)).toNat : Int) == ((ys[i]'(by omega)).toNat : Int)) = true := by simp [h]
      simp only [h1, Bool.not_true, Bool.false_eq_true, if_false]
      refine ih (i + 1) (by omega) (fun j hj => ?_)
      rcases Nat.lt_or_ge j i with h' | h'
      · exact hpre j h'
      · have : j = i := by omega
        subst this
        rw [List.getElem?_eq_getElem (by omega), List.getElem?_eq_getElem (by omega), h]
    · have h1 : (((xs[i]'(by omega)).toNat : Int) == ((ys[i]'(by omega)).toNat : Int)) = false := by
        rw [beq_eq_false_iff_ne]
        intro he
        exact h (UInt8.toNat_inj.1 (by omega))
      have h2 : xs ≠ ys := fun he => h (by simp only [he])
      simp [h1, h2]
theorem equal_bytes (hT : ∃ n, TyBytes P T n ∧ True) (xs ys : List UInt8) (hl : xs.length = ys.length) (hn : ∀ n, TyBytes P T n → xs.length = n) (d : Nat) :
    (Op.equalIn (d + 2) T (.agg (xs.map byteV).toArray) (.agg (ys.map byteV).toArray)).run P w = .ok (decide (xs = ys)) w := by
  obtain ⟨n, hT, _⟩ := hT
  have hlen := hn n hT
  obtain ⟨e, i, h1, h2, h3, h4⟩ := hT.ex
  rw [run_equalIn_array w (d + 1) _ _ h1 h3]
  have hc : P.cellsOf e = 1 := by simp [Program.cellsOf, h3, h4]
  rw [hc, List.range_eq_range']
  exact eqItems_bytes d h2 xs ys hl n 0 (by omega) (by omega)
theorem equal_hash (hT : TyBytes P T 32) (a b : Hash) (d : Nat) : (Op.equalIn (d + 2) T (hV a) (hV b)).run P w = .ok (decide (a = b)) w := by
  have := equal_bytes (w := w) (d := d) ⟨32, hT, trivial⟩ a.1 b.1 (by rw [a.2, b.2]) (fun n hn => by
    obtain ⟨e, i, h1, _⟩ := hT.ex
    obtain ⟨e', i', h1', _⟩ := hn.ex
    rw [h1] at h1'; cases h1'; exact a.2)
  simp only [hV, hC, this]
  congr 1
  by_cases h : a = b
  · simp [h]
  · have : a.1 ≠ b.1 := fun h' => h (Subtype.ext h')
    simp [h, this]
theorem checkKey_array (em : Bool) (m : Nat) {e : TypeId} {n : Nat} (cs : Array Value) (h1 : P.underlying T = some (.array n e)) :
    (Instr.checkKey em (m + 1) T (.agg cs)).run P w = (forIn (List.range' 0 n) PUnit.unit fun i _ => do
      let s ← sizeOf e
      let x ← part e cs (i * s)
      Instr.checkKey em m e x
      pure (ForInStep.yield PUnit.unit) : Sem PUnit).run P w := by
  simp only [Instr.checkKey, Sem.run_bind, run_underlying h1, Result.andThen_ok]
  simp only [Std.Legacy.Range.forIn_eq_forIn_range', Std.Legacy.Range.size, Nat.sub_zero, Nat.add_one_sub_one, Nat.div_one]
  generalize (forIn (List.range' 0 n) PUnit.unit fun i _ => do
      let s ← sizeOf e
      let x ← part e cs (i * s)
      Instr.checkKey em m e x
      pure (ForInStep.yield PUnit.unit) : Sem PUnit).run P w = R
  cases R <;> simp [Result.andThen]
theorem checkKey_hash (hT : TyBytes P T 32) (em : Bool) (a : Hash) (d : Nat) : (Instr.checkKey em (d + 2) T (hV a)).run P w = .ok () w := by
  obtain ⟨e, i, h1, h2, h3, h4⟩ := hT.ex
  rw [hV, checkKey_array em (d + 1) _ h1]
  have hb : ∀ (x : UInt8) w, (Instr.checkKey em (d + 1) e (byteV x)).run P w = .ok () w := by
    intro x w
    simp [Instr.checkKey, run_underlying h2]
  have : ∀ (m j : Nat), j + m = 32 → (forIn (List.range' j m) PUnit.unit fun i _ => do
      let s ← sizeOf e
      let x ← part e (hC a).toArray (i * s)
      Instr.checkKey em (d + 1) e x
      pure (ForInStep.yield PUnit.unit) : Sem PUnit).run P w = .ok PUnit.unit w := by
    intro m
    induction m with
    | zero => intro j _; simp
    | succ m ih =>
      intro j hj
      have hx : (hC a).toArray[j * 1]? = some (byteV (a.1[j]'(by have := a.2; omega))) := by
        have := a.2
        simp [hC, show j < a.1.length by omega]
      have hc : P.cellsOf e = 1 := by simp [Program.cellsOf, h3, h4]
      simp only [List.range'_succ, List.forIn_cons, Sem.run_bind, run_sizeOf w h3, hc, Result.andThen_ok, run_part1 h2 hx, hb, Sem.run_pure]
      exact ih (j + 1) (by omega)
  exact this 32 0 (by omega)
theorem sameBits_hash (a : Hash) : Instr.sameBits 10000 (hV a) (hV a) = true := by
  have h1 : ∀ (l : List UInt8) (n : Nat), ((l.map byteV).zip (l.map byteV)).all (fun (x, y) => Instr.sameBits n x y) = true := by
    intro l n
    induction l with
    | nil => rfl
    | cons b l ih =>
      simp only [List.map_cons, List.zip_cons_cons, List.all_cons, ih, Bool.and_true]
      simp [Instr.sameBits]
  simp only [hV, Instr.sameBits, hC, h1]
  simp
theorem keyOK_hash (hT : TyBytes P T 32) : KeyOK P T hV where
  check em a w := checkKey_hash hT em a 9998
  stays a w := by simp [Instr.keyThatStays, sameBits_hash]
  find {β} a es l w h := by
    have hf : ∀ (es : List MapEntry) (l : List (Hash × β)) (i : Nat), es.map (·.key) = l.map (fun p => hV p.1) →
        (Instr.findAsking T (hV a) es i).run P w = .ok ((aidx a l).bind fun j => (es[j]?).map fun e => (i + j, e.val)) w := by
      intro es
      induction es with
      | nil => intro l i h; cases l with
        | nil => simp [Instr.findAsking, aidx]
        | cons p l => simp at h
      | cons x es ih =>
        intro l i h
        cases l with
        | nil => simp at h
        | cons p l =>
          simp only [List.map_cons, List.cons.injEq] at h
          have he := equal_hash (w := w) hT a p.1 9998
          simp only [Instr.findAsking, Op.equal, Op.maxDepth, Sem.run_bind, h.1, he, Result.andThen_ok, aidx]
          by_cases hp : p.1 = a
          · simp [hp]
          · have hp' : ¬ a = p.1 := fun h => hp h.symm
            simp only [hp, hp', decide_false, Bool.false_eq_true, if_false, ih l (i + 1) h.2]
            cases aidx a l with
            | none => simp
            | some j => simp [show i + 1 + j = i + (j + 1) by omega]
    obtain ⟨e, i, h1, _⟩ := hT.ex
    have h2 := hf es l 0 h
    simp only [Nat.zero_add] at h2
    cases es with
    | nil =>
      cases l with
      | nil => simp [Instr.findKey, run_underlying h1, Instr.findNow, aidx]
      | cons p l => simp at h
    | cons x es =>
      simp only [Instr.findKey, Sem.run_bind, run_underlying h1, Result.andThen_ok, Instr.findNow, Instr.sameNow, h2]
theorem keyOK_int {k : IntKind} (hT : P.underlying T = some (.int k)) : KeyOK P T (fun n : Int => .int k n) where
  check em a w := by rw [show (10000 : Nat) = 9999 + 1 from rfl, Instr.checkKey]; simp [run_underlying hT]
  stays a w := by
    have : Instr.sameBits 10000 (.int k a) (.int k a) = true := by rw [Instr.sameBits]; simp
    simp only [Instr.keyThatStays, this, if_true, Sem.run_pure]
  find {β} a es l w h := by
    have hf : ∀ (es : List MapEntry) (l : List (Int × β)) (i : Nat), es.map (·.key) = l.map (fun p => Value.int k p.1) →
        Instr.findNow (.int k) (.int k a) es i = some ((aidx a l).bind fun j => (es[j]?).map fun e => (i + j, e.val)) := by
      intro es
      induction es with
      | nil => intro l i h; cases l with
        | nil => simp [Instr.findNow, aidx]
        | cons p l => simp at h
      | cons x es ih =>
        intro l i h
        cases l with
        | nil => simp at h
        | cons p l =>
          simp only [List.map_cons, List.cons.injEq] at h
          simp only [Instr.findNow, h.1, Instr.sameNow, if_true, aidx]
          by_cases hp : p.1 = a
          · simp [hp]
          · have hp' : (a == p.1) = false := by simpa using fun h : a = p.1 => hp h.symm
            simp only [hp, hp', if_false, ih l (i + 1) h.2]
            cases aidx a l with
            | none => simp
            | some j => simp [show i + 1 + j = i + (j + 1) by omega]
    have h2 := hf es l 0 h
    simp only [Nat.zero_add] at h2
    simp only [Instr.findKey, Sem.run_bind, run_underlying hT, Result.andThen_ok, h2, Sem.run_pure]
/-- with natural numbers as keys -/
theorem keyOK_nat {k : IntKind} (hT : P.underlying T = some (.int k)) : KeyOK P T (fun n : Nat => .int k (n : Int)) where
  check em a w := (keyOK_int hT).check em (a : Int) w
  stays a w := (keyOK_int hT).stays (a : Int) w
  find {β} a es l w h := by
    have h1 := (keyOK_int hT).find (a : Int) es (l.map fun p => ((p.1 : Int), p.2)) w (by rw [h]; simp)
    have h2 : ∀ l : List (Nat × β), aidx (a : Int) (l.map fun p => ((p.1 : Int), p.2)) = aidx a l := by
      intro l
      induction l with
      | nil => rfl
      | cons p l ih =>
        simp only [List.map_cons, aidx, ih]
        by_cases hp : p.1 = a
        · simp [hp]
        · simp [hp, show ¬ (p.1 : Int) = (a : Int) by omega]
    rw [h2] at h1
    exact h1
end
section
variable {P : Program} {n : Nat} {c : Ctx} {D : List Deferred} {is : List Ins} {k : Kont} {e : Env} {w : World} {T : TypeId}
/-- two hashes -/
theorem ok_eq_hash {x y : Operand} {a b : Hash} (hT : TyBytes P T 32) (hx : e.ev x = some (hV a)) (hy : e.ev y = some (hV b)) : OpOK P (.bin .eql T x y) e w (Just (.bool (decide (a = b))) w) :=
  ok_val fun ac hk => by
    have h1 : (eqGuard .eql T x y (hV a) (hV b)).run P w = .ok () w := by simp [eqGuard, hV, hT.guard]
    have h2 : (binOp .eql T (hV a) (hV b)).run P w = .ok (.bool (decide (a = b))) w := by
      have := equal_hash (w := w) hT a b 9998
      simp only [hV] at this
      simp [binOp, hV, Op.equal, Op.maxDepth, this]
    simp only [MOp.sem, Env.ok_ev hk hx, Env.ok_ev hk hy, Sem.run_bind, h1, h2, Result.andThen_ok, Sem.run_pure]
theorem ok_ne_hash {x y : Operand} {a b : Hash} (hT : TyBytes P T 32) (hx : e.ev x = some (hV a)) (hy : e.ev y = some (hV b)) : OpOK P (.bin .neq T x y) e w (Just (.bool (!decide (a = b))) w) :=
  ok_val fun ac hk => by
    have h1 : (eqGuard .neq T x y (hV a) (hV b)).run P w = .ok () w := by simp [eqGuard, hV, hT.guard]
    have h2 : (binOp .neq T (hV a) (hV b)).run P w = .ok (.bool (!decide (a = b))) w := by
      have := equal_hash (w := w) hT a b 9998
      simp only [hV] at this
      simp [binOp, hV, Op.equal, Op.maxDepth, this]
    simp only [MOp.sem, Env.ok_ev hk hx, Env.ok_ev hk hy, Sem.run_bind, h1, h2, Result.andThen_ok, Sem.run_pure]
end
end Go.Sp

namespace Go.Sp
section
variable {P : Program} {n : Nat} {c : Ctx} {D : List Deferred} {is : List Ins} {k : Kont} {e : Env} {w : World} {T : TypeId}
theorem eq_top {u v : Value} {b : Bool} (h : ∀ d : Nat, (Op.equalIn (d + 1) T u v).run P w = .ok b w) : (Op.equal T u v).run P w = .ok b w := h 9999
theorem ok_eq_of {x y : Operand} {u v : Value} {b : Bool} (hx : e.ev x = some u) (hy : e.ev y = some v) (hg : (eqGuard .eql T x y u v).run P w = .ok () w) (hu : ∀ (k : IntKind) (i : Int), u ≠ .int k i) (hs : ∀ s, u ≠ .string s) (hf : ∀ k i, u ≠ .float k i) (hc : ∀ k i j, u ≠ .complex k i j)
    (h : (Op.equal T u v).run P w = .ok b w) : OpOK P (.bin .eql T x y) e w (Just (.bool b) w) :=
  ok_val fun ac hk => by
    have h2 : (binOp .eql T u v).run P w = .ok (.bool b) w := by
      cases u <;> simp_all [binOp]
    simp only [MOp.sem, Env.ok_ev hk hx, Env.ok_ev hk hy, Sem.run_bind, hg, h2, Result.andThen_ok, Sem.run_pure]
theorem ok_ne_of {x y : Operand} {u v : Value} {b : Bool} (hx : e.ev x = some u) (hy : e.ev y = some v) (hg : (eqGuard .neq T x y u v).run P w = .ok () w) (hu : ∀ (k : IntKind) (i : Int), u ≠ .int k i) (hs : ∀ s, u ≠ .string s) (hf : ∀ k i, u ≠ .float k i) (hc : ∀ k i j, u ≠ .complex k i j)
    (h : (Op.equal T u v).run P w = .ok b w) : OpOK P (.bin .neq T x y) e w (Just (.bool (!b)) w) :=
  ok_val fun ac hk => by
    have h2 : (binOp .neq T u v).run P w = .ok (.bool (!b)) w := by
      cases u <;> simp_all [binOp]
    simp only [MOp.sem, Env.ok_ev hk hx, Env.ok_ev hk hy, Sem.run_bind, hg, h2, Result.andThen_ok, Sem.run_pure]
theorem ok_eq_nil {x y : Operand} {p : Option Addr} {E : TypeId} (hT : P.underlying T = some (.pointer E)) (hx : e.ev x = some (.pointer p)) (hy : e.ev y = some (.pointer none)) : OpOK P (.bin .eql T x y) e w (Just (.bool p.isNone) w) := by
  refine ok_eq_of hx hy (by simp [eqGuard]) (by simp) (by simp) (by simp) (by simp) ?_
  refine eq_top fun d => ?_
  cases p <;> simp [Op.equalIn, run_underlying hT]
theorem ok_ne_nil {x y : Operand} {p : Option Addr} {E : TypeId} (hT : P.underlying T = some (.pointer E)) (hx : e.ev x = some (.pointer p)) (hy : e.ev y = some (.pointer none)) : OpOK P (.bin .neq T x y) e w (Just (.bool (!p.isNone)) w) := by
  refine ok_ne_of hx hy (by simp [eqGuard]) (by simp) (by simp) (by simp) (by simp) ?_
  refine eq_top fun d => ?_
  cases p <;> simp [Op.equalIn, run_underlying hT]
theorem ok_ne_nilmap {x y : Operand} {p : Option Nat} {K E : TypeId} (hT : P.underlying T = some (.map K E)) (hx : e.ev x = some (.map p)) (hy : e.ev y = some (.map none)) : OpOK P (.bin .neq T x y) e w (Just (.bool (!p.isNone)) w) := by
  refine ok_ne_of hx hy (by simp [eqGuard]) (by simp) (by simp) (by simp) (by simp) ?_
  refine eq_top fun d => ?_
  cases p <;> simp [Op.equalIn, run_underlying hT]
theorem ok_eq_nilslice {x y : Operand} {p : Option Addr} {l m : Nat} {E : TypeId} (hT : P.underlying T = some (.slice E)) (hx : e.ev x = some (.slice p l m)) (hy : e.ev y = some (.slice none 0 0)) : OpOK P (.bin .eql T x y) e w (Just (.bool p.isNone) w) := by
  refine ok_eq_of hx hy (by simp [eqGuard]) (by simp) (by simp) (by simp) (by simp) ?_
  refine eq_top fun d => ?_
  cases p <;> simp [Op.equalIn, run_underlying hT]
theorem ok_ne_ptr {x y : Operand} {a b : Addr} {E : TypeId} {j : TypeInfo} {ca cb : Array Value} {ta tb : TypeId} (hT : P.underlying T = some (.pointer E)) (hE : P.info? E = some j) (hsz : j.size ≠ 0) (hx : e.ev x = some (.pointer (some a))) (hy : e.ev y = some (.pointer (some b)))
    (ha : w.heap[a.block]? = some (.cells ca ta (0, 0))) (hb : w.heap[b.block]? = some (.cells cb tb (0, 0))) : OpOK P (.bin .neq T x y) e w (Just (.bool (!decide (a = b))) w) := by
  refine ok_ne_of hx hy (by simp [eqGuard]) (by simp) (by simp) (by simp) (by simp) ?_
  refine eq_top fun d => ?_
  by_cases h : a = b
  · subst h; simp [Op.equalIn, run_underlying hT, sizeOf, typeInfo, hE, run_sameAddr_same]
  · simp [Op.equalIn, run_underlying hT, sizeOf, typeInfo, hE, hsz, run_sameAddr_other w h ha hb, h]
end
end Go.Sp

namespace Go.Sp
def b_sha512_Sum256 (f0 f1 : Nat) (T0 T1 : Nat) : Body := { n := 10,res := [.cell true 32 2],code := [yo 2 (.new T0 (rle [(32,.int .u8 0)])),yo 4 (.call f0 #[]),ym 5 0,yo 6 (.call f1 #[(yt 4),(yt 5)]),
 yo 3 (.new T1 (rle [(64,.int .u8 0)])),ys 64 3 6,yo 7 (.slA 64 1 (yt 3) none (some (.const (.int .i64 32)))),yo 8 (.s2arr 32 (yt 7)),yo 9 (.loadN 32 (yt 8)),ys 32 2 9,.ret] }
def b_leaf_Parent (f0 f1 : Nat) (T0 : Nat) : Body := { n := 9,res := [.cell true 32 4],code := [yo 2 (.box T0 (yt 0)),yo 3 (.box T0 (yt 1)),yo 4 (.new T0 (rle [(32,.int .u8 0)])),yo 5 (.loadN 32 (yt 2)),
 yo 6 (.loadN 32 (yt 3)),yo 7 (.call f0 #[(yt 5),(yt 6)]),yo 8 (.call f1 #[(yt 7)]),ys 32 4 8,.ret] }
def b_leaf_PairText (f0 : Nat) (T0 T1 T2 : Nat) : Body := { n := 10,res := [.tmp 4],code := [yo 2 (.box T0 (yt 0)),yo 3 (.box T0 (yt 1)),yo 4 (.mov (.const (.slice none 0 0))),.draw [
 yd [] 5 (.mkSlice T1 1 (rle [(1,.int .u8 0)]) [(0,1,(.const (.int .u8 1)))]),yd [] 6 (.slA 32 1 (yt 2) none none),yd [] 7 (.slA 32 1 (yt 3) none none)] [
 yo 8 (.mkSlice T2 3 (rle [(3,.slice none 0 0)]) [(0,1,(yt 5)),(1,1,(yt 6)),(2,1,(yt 7))]),yo 9 (.call f0 #[(yt 8)]),ym 4 9],.ret] }
def b_sha512_digest (f0 f1 f2 f3 : Nat) (T0 T1 : Nat) : Body := { n := 27,res := [.cell true 64 4],code := [yo 2 (.box T0 (yt 0)),yo 4 (.new T1 (rle [(64,.int .u8 0)])),ym 9 1,yo 10 (.call f0 #[(yt 9)]),
 yo 11 (.call f1 #[(yt 10),(.const (.int .i64 128))]),.block 0 [.rangeF (yt 11) #[12] [ym 5 12] [.block 1 [yo 13 (.loadN 8 (yt 2)),ym 14 5,yo 15 (.call f2 #[(yt 13),(yt 14)]),ys 8 2 15]]],
 yo 6 (.mov (.const (.slice none 0 0))),yo 16 (.loadN 8 (yt 2)),yo 17 (.mov (.const (.int .i64 0))),.block 2 [.loop [yo 18 (.ibin .lss (yt 17) (.const (.int .i64 8))),.cond (yt 18) [] [.exit 2],.block 3 [
 yo 19 (.idx 8 1 false (yt 16) (yt 17)),ym 8 19,ym 20 6,ym 21 8,yo 22 (.call f3 #[(yt 20),(yt 21)]),ym 6 22],yo 23 (.ibin .add (yt 17) (.const (.int .i64 1))),ym 17 23]],ym 24 6,yo 25 (.s2arr 64 (yt 24)),
 yo 26 (.loadN 64 (yt 25)),ys 64 4 26,.ret] }
def b_sha512_Words (g0 g1 : Nat) (f0 f1 : Nat) (T0 T1 T2 : Nat) : Body := { n := 30,res := [.cell true 8 0],code := [yo 0 (.new T0 (rle [(8,.int .u64 0)])),yo 5 (.loadN 8 (.global g0)),
 yo 1 (.new T0 (rle [(8,.int .u64 0)])),ys 8 1 5,yo 6 (.mov (.const (.int .i64 0))),.block 0 [.loop [yo 7 (.ibin .lss (yt 6) (.const (.int .i64 8))),.cond (yt 7) [] [.exit 0],.block 1 [ym 8 6,ym 2 8,ym 9 2,
 yo 10 (.iaddrA 8 1 (yt 1) (yt 9)),yo 11 (.load1 (yt 10)),yo 12 (.ibin .xor (yt 11) (.const (.int .u64 11936128518282651045))),yo 13 (.iaddrA 8 1 (yt 1) (yt 9)),ys 1 13 12],
 yo 14 (.ibin .add (yt 6) (.const (.int .i64 1))),ym 6 14]],yo 15 (.loadN 8 (yt 1)),
 yo 16 (.mkSlice T1 11 (rle [(11,.int .u8 0)]) [(0,1,(.const (.int .u8 83))),(1,1,(.const (.int .u8 72))),(2,1,(.const (.int .u8 65))),(3,1,(.const (.int .u8 45))),(4,1,(.const (.int .u8 53))),(5,1,(.const (.int .u8 49))),(6,1,(.const (.int .u8 50))),(7,1,(.const (.int .u8 47))),(8,1,(.const (.int .u8 50))),(9,1,(.const (.int .u8 53))),(10,1,(.const (.int .u8 54)))]),
 yo 17 (.b2b (yt 16)),yo 18 (.call f0 #[(yt 15),(yt 17)]),yo 3 (.new T2 (rle [(64,.int .u8 0)])),ys 64 3 18,yo 19 (.mov (.const (.int .i64 0))),.block 2 [.loop [yo 20 (.ibin .lss (yt 19) (.const (.int .i64 8))),
 .cond (yt 20) [] [.exit 2],.block 3 [ym 21 19,ym 4 21,ym 22 4,ym 23 4,yo 24 (.ibin .mul (.const (.int .i64 8)) (yt 23)),yo 25 (.slA 64 1 (yt 3) (some (yt 24)) none),yo 26 (.call f1 #[(yt 25)]),
 yo 27 (.iaddrA 8 1 (yt 1) (yt 22)),ys 1 27 26],yo 28 (.ibin .add (yt 19) (.const (.int .i64 1))),ym 19 28]],yo 29 (.loadN 8 (yt 1)),ys 8 0 29,.ret] }
def b_sha512_filled (f0 f1 : Nat) (T0 : Nat) : Body := { n := 26,res := [.tmp 2],code := [yo 2 (.mov (.const (.slice none 0 0))),ym 4 0,yo 5 (.call f0 #[(yt 4)]),
 yo 6 (.mkSlice T0 1 (rle [(1,.int .u8 0)]) [(0,1,(.const (.int .u8 128)))]),yo 7 (.append T0 1 1 (rle [(1,.int .u8 0)]) (yt 5) (yt 6)),ym 3 7,.block 0 [.loop [ym 8 3,yo 9 (.lenS (yt 8)),
 yo 10 (.ibin .rem (yt 9) (.const (.int .i64 128))),yo 11 (.ibin .neq (yt 10) (.const (.int .i64 112))),.cond (yt 11) [] [.exit 0],.block 1 [ym 12 3,
 yo 13 (.mkSlice T0 1 (rle [(1,.int .u8 0)]) [(0,1,(.const (.int .u8 0)))]),yo 14 (.append T0 1 1 (rle [(1,.int .u8 0)]) (yt 12) (yt 13)),ym 3 14]]],ym 15 3,ym 16 0,yo 17 (.lenS (yt 16)),yo 18 (.toInt .u64 (yt 17)),
 yo 19 (.ibin .shr (yt 18) (.const (.int .u64 61))),yo 20 (.call f1 #[(yt 15),(yt 19)]),ym 21 0,yo 22 (.lenS (yt 21)),yo 23 (.toInt .u64 (yt 22)),yo 24 (.ibin .shl (yt 23) (.const (.int .u64 3))),
 yo 25 (.call f1 #[(yt 20),(yt 24)]),ym 2 25,.ret] }
def b_sha512_take (g0 g1 : Nat) (f0 f1 : Nat) (T0 : Nat) : Body := { n := 106,res := [.cell true 8 4],code := [yo 2 (.box T0 (yt 0)),yo 4 (.new T0 (rle [(8,.int .u64 0)])),yo 15 (.loadN 8 (yt 2)),
 yo 5 (.new T0 (rle [(8,.int .u64 0)])),ys 8 5 15,ym 16 1,yo 17 (.call f0 #[(yt 16)]),yo 18 (.mov (.const (.int .i64 0))),.block 0 [.loop [yo 19 (.ibin .lss (yt 18) (.const (.int .i64 80))),.cond (yt 19) [] [.exit 0],
 .block 1 [ym 20 18,yo 21 (.idx 80 1 false (yt 17) (yt 18)),ym 6 20,ym 7 21,.draw [yd [] 22 (.iaddrA 8 1 (yt 5) (.const (.int .i64 0))),yd [0] 23 (.load1 (yt 22)),yd [] 24 (.iaddrA 8 1 (yt 5) (.const (.int .i64 4))),
 yd [2] 25 (.load1 (yt 24)),yd [1,0] 8 (.mov (yt 23))] [ym 9 25],ym 26 9,yo 27 (.call f1 #[(yt 26),(.const (.int .i64 14))]),ym 28 9,yo 29 (.call f1 #[(yt 28),(.const (.int .i64 18))]),yo 30 (.ibin .xor (yt 27) (yt 29)),
 ym 31 9,yo 32 (.call f1 #[(yt 31),(.const (.int .i64 41))]),yo 33 (.ibin .xor (yt 30) (yt 32)),ym 10 33,ym 34 8,yo 35 (.call f1 #[(yt 34),(.const (.int .i64 28))]),ym 36 8,
 yo 37 (.call f1 #[(yt 36),(.const (.int .i64 34))]),yo 38 (.ibin .xor (yt 35) (yt 37)),ym 39 8,yo 40 (.call f1 #[(yt 39),(.const (.int .i64 39))]),yo 41 (.ibin .xor (yt 38) (yt 40)),ym 11 41,.draw [
 yd [] 42 (.iaddrA 8 1 (yt 5) (.const (.int .i64 7))),yd [0] 43 (.load1 (yt 42)),yd [] 44 (.mov (yt 10)),yd [1,2,0] 45 (.ibin .add (yt 43) (yt 44)),yd [] 46 (.mov (yt 9)),
 yd [] 47 (.iaddrA 8 1 (yt 5) (.const (.int .i64 5))),yd [5] 48 (.load1 (yt 47)),yd [4,6,5] 49 (.ibin .and (yt 46) (yt 48)),yd [] 50 (.mov (yt 9)),yd [8] 51 (.un .xor (yt 50)),
 yd [] 52 (.iaddrA 8 1 (yt 5) (.const (.int .i64 6))),yd [10] 53 (.load1 (yt 52)),yd [9,11,8,10] 54 (.ibin .and (yt 51) (yt 53)),yd [7,12,4,6,5,9,11,8,10] 55 (.ibin .xor (yt 49) (yt 54)),
 yd [3,13,1,2,0,7,12,4,6,5,9,11,8,10] 56 (.ibin .add (yt 45) (yt 55)),yd [] 57 (.mov (yt 6)),yd [15] 58 (.iaddrA 80 1 (.global g1) (yt 57)),yd [16,15] 59 (.load1 (yt 58)),
 yd [14,17,3,13,1,2,0,7,12,4,6,5,9,11,8,10,16,15] 60 (.ibin .add (yt 56) (yt 59)),yd [] 61 (.mov (yt 7))] [yo 62 (.ibin .add (yt 60) (yt 61)),ym 12 62],ym 63 11,ym 64 8,yo 65 (.iaddrA 8 1 (yt 5) (.const (.int .i64 1))),
 yo 66 (.load1 (yt 65)),yo 67 (.ibin .and (yt 64) (yt 66)),ym 68 8,yo 69 (.iaddrA 8 1 (yt 5) (.const (.int .i64 2))),yo 70 (.load1 (yt 69)),yo 71 (.ibin .and (yt 68) (yt 70)),yo 72 (.ibin .xor (yt 67) (yt 71)),
 yo 73 (.iaddrA 8 1 (yt 5) (.const (.int .i64 1))),yo 74 (.load1 (yt 73)),yo 75 (.iaddrA 8 1 (yt 5) (.const (.int .i64 2))),yo 76 (.load1 (yt 75)),yo 77 (.ibin .and (yt 74) (yt 76)),yo 78 (.ibin .xor (yt 72) (yt 77)),
 yo 79 (.ibin .add (yt 63) (yt 78)),ym 13 79,.draw [yd [] 80 (.slA 8 1 (yt 5) (some (.const (.int .i64 1))) none),yd [] 81 (.slA 8 1 (yt 5) none (some (.const (.int .i64 7))))] [yo 82 (.copy 1 (yt 80) (yt 81))],
 yo 83 (.iaddrA 8 1 (yt 5) (.const (.int .i64 4))),yo 84 (.load1 (yt 83)),ym 85 12,yo 86 (.ibin .add (yt 84) (yt 85)),yo 87 (.iaddrA 8 1 (yt 5) (.const (.int .i64 4))),ys 1 87 86,ym 88 12,ym 89 13,
 yo 90 (.ibin .add (yt 88) (yt 89)),yo 91 (.iaddrA 8 1 (yt 5) (.const (.int .i64 0))),ys 1 91 90],yo 92 (.ibin .add (yt 18) (.const (.int .i64 1))),ym 18 92]],yo 93 (.mov (.const (.int .i64 0))),.block 2 [.loop [
 yo 94 (.ibin .lss (yt 93) (.const (.int .i64 8))),.cond (yt 94) [] [.exit 2],.block 3 [ym 95 93,ym 14 95,.draw [yd [] 96 (.mov (yt 14)),yd [0] 97 (.iaddrA 8 1 (yt 2) (yt 96)),yd [1,0] 98 (.load1 (yt 97)),
 yd [] 99 (.mov (yt 14)),yd [3] 100 (.iaddrA 8 1 (yt 5) (yt 99)),yd [4,3] 101 (.load1 (yt 100))] [yo 102 (.ibin .add (yt 98) (yt 101)),yo 103 (.iaddrA 8 1 (yt 2) (yt 96)),ys 1 103 102]],
 yo 104 (.ibin .add (yt 93) (.const (.int .i64 1))),ym 93 104]],yo 105 (.loadN 8 (yt 2)),ys 8 4 105,.ret] }
def b_sha512_lay (T0 : Nat) : Body := { n := 20,res := [.tmp 4],code := [yo 4 (.mov (.const (.slice none 0 0))),yo 6 (.mov (.const (.int .i64 0))),.block 0 [.loop [yo 7 (.ibin .lss (yt 6) (.const (.int .i64 8))),
 .cond (yt 7) [] [.exit 0],.block 1 [ym 8 6,ym 5 8,ym 9 0,ym 10 1,ym 11 5,yo 12 (.ibin .mul (.const (.int .i64 8)) (yt 11)),yo 13 (.ibin .sub (.const (.int .i64 56)) (yt 12)),yo 14 (.ibin .shr (yt 10) (yt 13)),
 yo 15 (.toInt .u8 (yt 14)),yo 16 (.mkSlice T0 1 (rle [(1,.int .u8 0)]) [(0,1,(yt 15))]),yo 17 (.append T0 1 1 (rle [(1,.int .u8 0)]) (yt 9) (yt 16)),ym 0 17],yo 18 (.ibin .add (yt 6) (.const (.int .i64 1))),ym 6 18]],
 ym 19 0,ym 4 19,.ret] }
def b_sha512_word : Body := { n := 18,res := [.tmp 2],code := [yo 2 (.mov (.const (.int .u64 0))),yo 3 (.mov (.const (.int .u64 0))),yo 5 (.mov (.const (.int .i64 0))),.block 0 [.loop [
 yo 6 (.ibin .lss (yt 5) (.const (.int .i64 8))),.cond (yt 6) [] [.exit 0],.block 1 [ym 7 5,ym 4 7,ym 8 3,yo 9 (.ibin .shl (yt 8) (.const (.int .u64 8))),ym 10 0,ym 11 4,yo 12 (.iaddr 1 (yt 10) (yt 11)),
 yo 13 (.load1 (yt 12)),yo 14 (.toInt .u64 (yt 13)),yo 15 (.ibin .or (yt 9) (yt 14)),ym 3 15],yo 16 (.ibin .add (yt 5) (.const (.int .i64 1))),ym 5 16]],ym 17 3,ym 2 17,.ret] }
def b_sha512_spread (f0 f1 : Nat) (T0 : Nat) : Body := { n := 65,res := [.cell true 80 2],code := [yo 2 (.new T0 (rle [(80,.int .u64 0)])),yo 3 (.new T0 (rle [(80,.int .u64 0)])),yo 10 (.mov (.const (.int .i64 0))),
 .block 0 [.loop [yo 11 (.ibin .lss (yt 10) (.const (.int .i64 16))),.cond (yt 11) [] [.exit 0],.block 1 [ym 12 10,ym 4 12,ym 13 4,ym 14 0,ym 15 4,yo 16 (.ibin .mul (.const (.int .i64 8)) (yt 15)),
 yo 17 (.slS 1 (yt 14) (some (yt 16)) none),yo 18 (.call f0 #[(yt 17)]),yo 19 (.iaddrA 80 1 (yt 3) (yt 13)),ys 1 19 18],yo 20 (.ibin .add (yt 10) (.const (.int .i64 1))),ym 10 20]],yo 5 (.mov (.const (.int .i64 16))),
 .block 2 [.loop [ym 21 5,yo 22 (.ibin .lss (yt 21) (.const (.int .i64 80))),.cond (yt 22) [] [.exit 2],.block 3 [.draw [yd [] 25 (.mov (yt 5)),yd [0] 26 (.ibin .sub (yt 25) (.const (.int .i64 15))),
 yd [1,0] 27 (.iaddrA 80 1 (yt 3) (yt 26)),yd [2,1,0] 28 (.load1 (yt 27)),yd [] 29 (.mov (yt 5)),yd [4] 30 (.ibin .sub (yt 29) (.const (.int .i64 2))),yd [5,4] 31 (.iaddrA 80 1 (yt 3) (yt 30)),
 yd [6,5,4] 32 (.load1 (yt 31)),yd [3,0,1,2] 6 (.mov (yt 28))] [ym 7 32],ym 33 6,yo 34 (.call f1 #[(yt 33),(.const (.int .i64 1))]),ym 35 6,yo 36 (.call f1 #[(yt 35),(.const (.int .i64 8))]),
 yo 37 (.ibin .xor (yt 34) (yt 36)),ym 38 6,yo 39 (.ibin .shr (yt 38) (.const (.int .u64 7))),yo 40 (.ibin .xor (yt 37) (yt 39)),ym 8 40,ym 41 7,yo 42 (.call f1 #[(yt 41),(.const (.int .i64 19))]),ym 43 7,
 yo 44 (.call f1 #[(yt 43),(.const (.int .i64 61))]),yo 45 (.ibin .xor (yt 42) (yt 44)),ym 46 7,yo 47 (.ibin .shr (yt 46) (.const (.int .u64 6))),yo 48 (.ibin .xor (yt 45) (yt 47)),ym 9 48,.draw [yd [] 49 (.mov (yt 5)),
 yd [] 50 (.mov (yt 9)),yd [] 51 (.mov (yt 5)),yd [2] 52 (.ibin .sub (yt 51) (.const (.int .i64 7))),yd [3,2] 53 (.iaddrA 80 1 (yt 3) (yt 52)),yd [4,3,2] 54 (.load1 (yt 53)),
 yd [1,5,4,3,2] 55 (.ibin .add (yt 50) (yt 54)),yd [] 56 (.mov (yt 8)),yd [6,7,1,5,4,3,2] 57 (.ibin .add (yt 55) (yt 56)),yd [] 58 (.mov (yt 5)),yd [9] 59 (.ibin .sub (yt 58) (.const (.int .i64 16))),
 yd [10,9] 60 (.iaddrA 80 1 (yt 3) (yt 59)),yd [11,10,9] 61 (.load1 (yt 60)),yd [8,12,6,7,1,5,4,3,2,11,10,9] 62 (.ibin .add (yt 57) (yt 61))] [yo 63 (.iaddrA 80 1 (yt 3) (yt 49)),ys 1 63 62]],ym 23 5,
 yo 24 (.ibin .add (yt 23) (.const (.int .i64 1))),ym 5 24]],yo 64 (.loadN 80 (yt 3)),ys 80 2 64,.ret] }
def b_sha512_right (f0 : Nat) : Body := { n := 9,res := [.tmp 4],code := [yo 4 (.mov (.const (.int .u64 0))),ym 5 0,ym 6 1,yo 7 (.un .neg (yt 6)),yo 8 (.call f0 #[(yt 5),(yt 7)]),ym 4 8,.ret] }
end Go.Sp

namespace Go.Sp
def b_pos_Rows (f0 : Nat) : Body := { n := 13,res := [.tmp 2,.tmp 3],code := [yo 2 (.mov (.const (.int .i64 0))),yo 3 (.mov (.const (.bool false))),.block 0 [ym 5 0,
 yo 6 (.ibin .gtr (yt 5) (.const (.int .u64 9223372036854775807))),ym 4 6,.cond (yt 4) [yo 2 (.mov (.const (.int .i64 0))),yo 3 (.mov (.const (.bool false))),.ret] [ym 8 0,yo 9 (.ibin .eql (yt 8) (.const (.int .u64 0))),
 ym 7 9,.cond (yt 7) [yo 2 (.mov (.const (.int .i64 0))),yo 3 (.mov (.const (.bool true))),.ret] []]],ym 10 0,yo 11 (.ibin .sub (yt 10) (.const (.int .u64 1))),yo 12 (.call f0 #[(yt 11)]),ym 2 12,
 yo 3 (.mov (.const (.bool true))),.ret] }
def b_pos_Root (f0 f1 : Nat) : Body := { n := 40,res := [.tmp 4,.tmp 5],code := [yo 4 (.mov (.const (.int .u64 0))),yo 5 (.mov (.const (.bool false))),ym 9 0,yo 10 (.call f0 #[(yt 9)]),ym 8 10,yo 11 (.ext (yt 8) 0),
 yo 12 (.ext (yt 8) 1),ym 6 11,ym 7 12,ym 13 7,yo 14 (.un .not (yt 13)),ym 15 14,yg 15 false 16 (.mov (yt 1)),yg 15 false 17 (.ibin .lss (yt 16) (.const (.int .i64 0))),
 yo 18 (.pick (yt 15) (.const (.bool true)) (yt 17)),ym 19 18,yg 19 false 20 (.mov (yt 1)),yg 19 false 21 (.mov (yt 6)),yg 19 false 22 (.ibin .gtr (yt 20) (yt 21)),yo 23 (.pick (yt 19) (.const (.bool true)) (yt 22)),
 ym 24 23,yg 24 false 25 (.mov (yt 0)),yg 24 false 26 (.mov (yt 1)),yg 24 false 27 (.ibin .shr (yt 25) (yt 26)),yg 24 false 28 (.ibin .and (yt 27) (.const (.int .u64 1))),
 yg 24 false 29 (.ibin .eql (yt 28) (.const (.int .u64 0))),yo 30 (.pick (yt 24) (.const (.bool true)) (yt 29)),.cond (yt 30) [yo 4 (.mov (.const (.int .u64 0))),yo 5 (.mov (.const (.bool false))),.ret] [],.draw [
 yd [] 31 (.mov (yt 1)),yd [] 32 (.mov (yt 6)),yd [0,1] 33 (.call f1 #[(yt 31),(yt 32)]),yd [] 34 (.mov (yt 0)),yd [] 35 (.mov (yt 1)),yd [3,4] 36 (.ibin .shr (yt 34) (yt 35)),
 yd [5,3,4] 37 (.ibin .shr (yt 36) (.const (.int .u64 1))),yd [6,5,3,4] 38 (.ibin .shl (yt 37) (.const (.int .u64 1)))] [yo 39 (.ibin .add (yt 33) (yt 38)),ym 4 39,yo 5 (.mov (.const (.bool true)))],.ret] }
def b_pos_Way (f0 f1 f2 f3 : Nat) (T0 T1 T2 : Nat) : Body := { n := 52,res := [.cell false 1 4],code := [yo 2 (.box T0 (yt 0)),yo 4 (.new T1 (rle [(1,.slice none 0 0)])),yo 13 (.load1 (yt 2)),yo 14 (.call f0 #[(yt 13)]),
 ym 12 14,yo 15 (.ext (yt 12) 0),yo 16 (.ext (yt 12) 1),ym 5 15,ym 6 16,ym 18 1,ym 19 5,yo 20 (.call f1 #[(yt 18),(yt 19)]),ym 17 20,yo 21 (.ext (yt 17) 0),yo 22 (.ext (yt 17) 1),yo 7 (.new T2 (rle [(1,.int .i64 0)])),
 ys 1 7 21,ym 8 22,ym 23 6,yo 24 (.un .not (yt 23)),ym 25 24,yg 25 false 26 (.mov (yt 8)),yg 25 false 27 (.un .not (yt 26)),yo 28 (.pick (yt 25) (.const (.bool true)) (yt 27)),.cond (yt 28) [
 .op none none (.store 1 (yt 4) (.const (.slice none 0 0))),.ret] [],ym 29 1,ym 30 5,yo 31 (.call f2 #[(yt 29),(yt 30)]),.block 0 [.rangeF (yt 31) #[32] [ym 9 32] [.block 1 [yo 33 (.load1 (yt 4)),ym 34 9,
 yo 35 (.mkSlice T0 1 (rle [(1,.int .u64 0)]) [(0,1,(yt 34))]),yo 36 (.append T0 1 8 (rle [(1,.int .u64 0)]) (yt 33) (yt 35)),ys 1 4 36,yo 38 (.load1 (yt 2)),yo 39 (.load1 (yt 7)),yo 40 (.call f3 #[(yt 38),(yt 39)]),
 ym 37 40,yo 41 (.ext (yt 37) 0),yo 42 (.ext (yt 37) 1),ym 10 41,ym 11 42,ym 43 11,ym 44 43,yg 44 true 45 (.mov (yt 10)),yg 44 true 46 (.mov (yt 9)),yg 44 true 47 (.ibin .eql (yt 45) (yt 46)),
 yo 48 (.pick (yt 44) (yt 47) (.const (.bool false))),.cond (yt 48) [yo 49 (.load1 (yt 4)),ys 1 4 49,.ret] [],yo 50 (.load1 (yt 7)),yo 51 (.ibin .add (yt 50) (.const (.int .i64 1))),ys 1 7 51]]],
 .op none none (.store 1 (yt 4) (.const (.slice none 0 0))),.ret] }
def b_pos_Left (f0 : Nat) : Body := { n := 26,res := [.tmp 4,.tmp 5],code := [yo 4 (.mov (.const (.int .u64 0))),yo 5 (.mov (.const (.bool false))),ym 9 0,ym 10 1,yo 11 (.call f0 #[(yt 9),(yt 10)]),ym 8 11,
 yo 12 (.ext (yt 8) 0),yo 13 (.ext (yt 8) 1),ym 6 12,ym 7 13,ym 14 7,yo 15 (.un .not (yt 14)),ym 16 15,yg 16 false 17 (.mov (yt 6)),yg 16 false 18 (.ibin .eql (yt 17) (.const (.int .i64 0))),
 yo 19 (.pick (yt 16) (.const (.bool true)) (yt 18)),.cond (yt 19) [yo 4 (.mov (.const (.int .u64 0))),yo 5 (.mov (.const (.bool false))),.ret] [],ym 20 0,yo 21 (.ibin .shl (yt 20) (.const (.int .u64 1))),ym 22 1,
 yo 23 (.ibin .shl (.const (.int .u64 2)) (yt 22)),yo 24 (.ibin .sub (yt 23) (.const (.int .u64 1))),yo 25 (.ibin .and (yt 21) (yt 24)),ym 4 25,yo 5 (.mov (.const (.bool true))),.ret] }
def b_pos_Sibling (f0 : Nat) : Body := { n := 18,res := [.tmp 4,.tmp 5],code := [yo 4 (.mov (.const (.int .u64 0))),yo 5 (.mov (.const (.bool false))),ym 9 0,ym 10 1,yo 11 (.call f0 #[(yt 9),(yt 10)]),ym 8 11,
 yo 12 (.ext (yt 8) 0),yo 13 (.ext (yt 8) 1),ym 6 12,ym 7 13,ym 14 7,yo 15 (.un .not (yt 14)),.cond (yt 15) [yo 4 (.mov (.const (.int .u64 0))),yo 5 (.mov (.const (.bool false))),.ret] [],ym 16 0,
 yo 17 (.ibin .xor (yt 16) (.const (.int .u64 1))),ym 4 17,yo 5 (.mov (.const (.bool true))),.ret] }
def b_math_bits_Len64 : Body := { n := 25,res := [.tmp 2],code := [yo 2 (.mov (.const (.int .i64 0))),ym 3 0,yo 4 (.ibin .geq (yt 3) (.const (.int .u64 4294967296))),.cond (yt 4) [ym 5 0,
 yo 6 (.ibin .shr (yt 5) (.const (.int .u64 32))),ym 0 6,yo 2 (.mov (.const (.int .i64 32)))] [],ym 7 0,yo 8 (.ibin .geq (yt 7) (.const (.int .u64 65536))),.cond (yt 8) [ym 9 0,
 yo 10 (.ibin .shr (yt 9) (.const (.int .u64 16))),ym 0 10,ym 11 2,yo 12 (.ibin .add (yt 11) (.const (.int .i64 16))),ym 2 12] [],ym 13 0,yo 14 (.ibin .geq (yt 13) (.const (.int .u64 256))),.cond (yt 14) [ym 15 0,
 yo 16 (.ibin .shr (yt 15) (.const (.int .u64 8))),ym 0 16,ym 17 2,yo 18 (.ibin .add (yt 17) (.const (.int .i64 8))),ym 2 18] [],ym 19 2,ym 20 0,yo 21 (.toInt .u8 (yt 20)),
 yo 22 (.sidx (.const (.string ⟨#[0,1,2,2,3,3,3,3,4,4,4,4,4,4,4,4,5,5,5,5,5,5,5,5,5,5,5,5,5,5,5,5,6,6,6,6,6,6,6,6,6,6,6,6,6,6,6,6,6,6,6,6,6,6,6,6,6,6,6,6,6,6,6,6,7,7,7,7,7,7,7,7,7,7,7,7,7,7,7,7,7,7,7,7,7,7,7,7,7,7,7,7,7,7,7,7,7,7,7,7,7,7,7,7,7,7,7,7,7,7,7,7,7,7,7,7,7,7,7,7,7,7,7,7,7,7,7,7,8,8,8,8,8,8,8,8,8,8,8,8,8,8,8,8,8,8,8,8,8,8,8,8,8,8,8,8,8,8,8,8,8,8,8,8,8,8,8,8,8,8,8,8,8,8,8,8,8,8,8,8,8,8,8,8,8,8,8,8,8,8,8,8,8,8,8,8,8,8,8,8,8,8,8,8,8,8,8,8,8,8,8,8,8,8,8,8,8,8,8,8,8,8,8,8,8,8,8,8,8,8,8,8,8,8,8,8,8,8,8,8,8,8,8,8,8,8,8,8,8,8,8,8,8,8,8,8]⟩)) (yt 21)),
 yo 23 (.toInt .i64 (yt 22)),yo 24 (.ibin .add (yt 19) (yt 23)),ym 2 24,.ret] }
def b_pos_begin : Body := { n := 12,res := [.tmp 4],code := [yo 4 (.mov (.const (.int .u64 0))),.draw [yd [] 5 (.mov (yt 1)),yd [0] 6 (.ibin .shl (.const (.int .u64 2)) (yt 5)),yd [] 7 (.mov (yt 1)),
 yd [] 8 (.mov (yt 0)),yd [2,3] 9 (.ibin .sub (yt 7) (yt 8)),yd [4,2,3] 10 (.ibin .shl (.const (.int .u64 2)) (yt 9))] [yo 11 (.ibin .sub (yt 6) (yt 10)),ym 4 11],.ret] }
def b_pos_Row (f0 f1 : Nat) : Body := { n := 22,res := [.tmp 4,.tmp 5],code := [yo 4 (.mov (.const (.int .i64 0))),yo 5 (.mov (.const (.bool false))),ym 6 1,yo 7 (.call f0 #[(yt 6)]),yo 8 (.un .not (yt 7)),ym 9 8,
 yg 9 false 10 (.mov (yt 0)),yg 9 false 11 (.mov (yt 1)),yg 9 false 12 (.ibin .shl (.const (.int .u64 2)) (yt 11)),yg 9 false 13 (.ibin .sub (yt 12) (.const (.int .u64 1))),yg 9 false 14 (.ibin .geq (yt 10) (yt 13)),
 yo 15 (.pick (yt 9) (.const (.bool true)) (yt 14)),.cond (yt 15) [yo 4 (.mov (.const (.int .i64 0))),yo 5 (.mov (.const (.bool false))),.ret] [],ym 16 0,ym 17 1,yo 18 (.ibin .sub (.const (.int .i64 63)) (yt 17)),
 yo 19 (.ibin .shl (yt 16) (yt 18)),yo 20 (.un .xor (yt 19)),yo 21 (.call f1 #[(yt 20)]),ym 4 21,yo 5 (.mov (.const (.bool true))),.ret] }
def b_pos_up (f0 : Nat) (T0 T1 : Nat) : Body := { n := 6,res := [.tmp 4],code := [yo 2 (.box T0 (yt 0)),yo 3 (.box T1 (yt 1)),yo 4 (.mov (.const (.nilFunc))),yo 5 (.fn f0 #[] #[(yt 2),(yt 3)]),ym 4 5,.ret] }
def b_pos_IsLeft : Body := { n := 6,res := [.tmp 2],code := [yo 2 (.mov (.const (.bool false))),ym 3 0,yo 4 (.ibin .and (yt 3) (.const (.int .u64 1))),yo 5 (.ibin .eql (yt 4) (.const (.int .u64 0))),ym 2 5,.ret] }
def b_pos_Tree (f0 f1 f2 : Nat) : Body := { n := 30,res := [.tmp 4,.tmp 5],code := [yo 4 (.mov (.const (.int .i64 0))),yo 5 (.mov (.const (.bool false))),ym 9 0,ym 10 1,yo 11 (.call f0 #[(yt 9),(yt 10)]),ym 6 11,ym 12 6,
 yo 13 (.lenS (yt 12)),yo 14 (.ibin .eql (yt 13) (.const (.int .i64 0))),.cond (yt 14) [yo 4 (.mov (.const (.int .i64 0))),yo 5 (.mov (.const (.bool false))),.ret] [],ym 16 0,yo 17 (.call f1 #[(yt 16)]),ym 15 17,
 yo 18 (.ext (yt 15) 0),yo 19 (.ext (yt 15) 1),ym 7 18,ym 8 19,ym 20 6,ym 21 6,yo 22 (.lenS (yt 21)),yo 23 (.ibin .sub (yt 22) (.const (.int .i64 1))),yo 24 (.iaddr 1 (yt 20) (yt 23)),yo 25 (.load1 (yt 24)),ym 26 7,
 yo 27 (.call f2 #[(yt 25),(yt 26)]),yo 28 (.ext (yt 27) 0),yo 29 (.ext (yt 27) 1),ym 4 28,ym 5 29,.ret] }
def b_pos_Parent (f0 : Nat) : Body := { n := 26,res := [.tmp 4,.tmp 5],code := [yo 4 (.mov (.const (.int .u64 0))),yo 5 (.mov (.const (.bool false))),ym 9 0,ym 10 1,yo 11 (.call f0 #[(yt 9),(yt 10)]),ym 8 11,
 yo 12 (.ext (yt 8) 0),yo 13 (.ext (yt 8) 1),ym 6 12,ym 7 13,ym 14 7,yo 15 (.un .not (yt 14)),ym 16 15,yg 16 false 17 (.mov (yt 6)),yg 16 false 18 (.mov (yt 1)),yg 16 false 19 (.ibin .eql (yt 17) (yt 18)),
 yo 20 (.pick (yt 16) (.const (.bool true)) (yt 19)),.cond (yt 20) [yo 4 (.mov (.const (.int .u64 0))),yo 5 (.mov (.const (.bool false))),.ret] [],ym 21 0,yo 22 (.ibin .shr (yt 21) (.const (.int .u64 1))),ym 23 1,
 yo 24 (.ibin .shl (.const (.int .u64 1)) (yt 23)),yo 25 (.ibin .or (yt 22) (yt 24)),ym 4 25,yo 5 (.mov (.const (.bool true))),.ret] }
def b_pos_may : Body := { n := 9,res := [.tmp 2],code := [yo 2 (.mov (.const (.bool false))),ym 3 0,yo 4 (.ibin .geq (yt 3) (.const (.int .i64 0))),ym 5 4,yg 5 true 6 (.mov (yt 0)),
 yg 5 true 7 (.ibin .leq (yt 6) (.const (.int .i64 63))),yo 8 (.pick (yt 5) (yt 7) (.const (.bool false))),ym 2 8,.ret] }
def b_math_bits_LeadingZeros64 (f0 : Nat) : Body := { n := 6,res := [.tmp 2],code := [yo 2 (.mov (.const (.int .i64 0))),ym 3 0,yo 4 (.call f0 #[(yt 3)]),yo 5 (.ibin .sub (.const (.int .i64 64)) (yt 4)),ym 2 5,.ret] }
def b_pos_up_1 (f0 : Nat) : Body := { n := 17,res := [],code := [yo 4 (.mov (.const (.bool true))),.block 0 [.loop [ym 5 4,ym 6 5,yg 6 true 7 (.mov (yt 0)),yg 6 true 8 (.load1 (yt 1)),
 yg 6 true 9 (.callv (yt 7) #[(yt 8)]),yo 10 (.pick (yt 6) (yt 9) (.const (.bool false))),.cond (yt 10) [] [.exit 0],.block 1 [yo 12 (.load1 (yt 1)),yo 13 (.load1 (yt 2)),yo 14 (.call f0 #[(yt 12),(yt 13)]),ym 11 14,
 yo 15 (.ext (yt 11) 0),yo 16 (.ext (yt 11) 1),ys 1 1 15,ym 4 16]]]] }
def b_math_bits_Len (f0 f1 : Nat) : Body := { n := 8,res := [.tmp 2],code := [yo 2 (.mov (.const (.int .i64 0))),.cond (.const (.bool false)) [ym 3 0,yo 4 (.toInt .u32 (yt 3)),yo 5 (.call f0 #[(yt 4)]),ym 2 5,.ret] [],
 ym 6 0,yo 7 (.call f1 #[(yt 6)]),ym 2 7,.ret] }
def b_math_bits_RotateLeft64 : Body := { n := 17,res := [.tmp 4],code := [yo 4 (.mov (.const (.int .u64 0))),ym 6 1,yo 7 (.toInt .u64 (yt 6)),yo 8 (.ibin .and (yt 7) (.const (.int .u64 63))),ym 5 8,ym 9 0,ym 10 5,
 yo 11 (.ibin .shl (yt 9) (yt 10)),ym 12 0,ym 13 5,yo 14 (.ibin .sub (.const (.int .u64 64)) (yt 13)),yo 15 (.ibin .shr (yt 12) (yt 14)),yo 16 (.ibin .or (yt 11) (yt 15)),ym 4 16,.ret] }
end Go.Sp

namespace Go.Sp
def b_slices_IndexFunc_forest_tree_forest_tree : Body := { n := 19,res := [.tmp 4],code := [yo 4 (.mov (.const (.int .i64 0))),ym 6 0,yo 7 (.lenS (yt 6)),yo 8 (.mov (.const (.int .i64 0))),.block 0 [.loop [
 yo 9 (.ibin .lss (yt 8) (yt 7)),.cond (yt 9) [] [.exit 0],.block 1 [ym 10 8,ym 5 10,ym 11 1,ym 12 0,ym 13 5,yo 14 (.iaddr 3 (yt 12) (yt 13)),yo 15 (.loadN 3 (yt 14)),yo 16 (.callv (yt 11) #[(yt 15)]),.cond (yt 16) [
 ym 17 5,ym 4 17,.ret] []],yo 18 (.ibin .add (yt 8) (.const (.int .i64 1))),ym 8 18]],yo 4 (.mov (.const (.int .i64 (-1)))),.ret] }
def b_slices_Clone_forest_tree_forest_tree (T0 T1 : Nat) : Body := { n := 8,res := [.tmp 2],code := [yo 2 (.mov (.const (.slice none 0 0))),ym 3 0,yo 4 (.bin .eql T0 (yt 3) (.const (.slice none 0 0))),.cond (yt 4) [
 yo 2 (.mov (.const (.slice none 0 0))),.ret] [],yo 5 (.mkSlice T1 0 (rle []) []),ym 6 0,yo 7 (.append T1 3 24 (rle [(1,.pointer none),(1,.int .u64 0),(1,.int .i64 0)]) (yt 5) (yt 6)),ym 2 7,.ret] }
def b_maps_Clone_map_api_Hashuint64_api_Hash_uint64 (f0 : Nat) (T0 T1 : Nat) : Body := { n := 9,res := [.tmp 2],code := [yo 2 (.mov (.const (.map none))),ym 3 0,yo 4 (.bin .eql T0 (yt 3) (.const (.map none))),
 .cond (yt 4) [yo 2 (.mov (.const (.map none))),.ret] [],ym 5 0,yo 6 (.mkIface T0 (yt 5)),yo 7 (.callx f0 #[(yt 6)]),yo 8 (.tassert T1 T0 (yt 7)),ym 2 8,.ret] }
def b_slices_Sorted_uint64 (f0 f1 : Nat) : Body := { n := 9,res := [.tmp 2],code := [yo 2 (.mov (.const (.slice none 0 0))),ym 4 0,yo 5 (.call f0 #[(yt 4)]),ym 3 5,ym 6 3,yo 7 (.call f1 #[(yt 6)]),ym 8 3,ym 2 8,.ret] }
def b_maps_Values_map_api_Hashuint64_api_Hash_uint64 (f0 : Nat) (T0 : Nat) : Body := { n := 4,res := [.tmp 2],code := [yo 1 (.box T0 (yt 0)),yo 2 (.mov (.const (.nilFunc))),yo 3 (.fn f0 #[] #[(yt 1)]),ym 2 3,.ret] }
def b_slices_SortedFunc_api_Hash (f0 f1 : Nat) : Body := { n := 12,res := [.tmp 4],code := [yo 4 (.mov (.const (.slice none 0 0))),ym 6 0,yo 7 (.call f0 #[(yt 6)]),ym 5 7,ym 8 5,ym 9 1,yo 10 (.call f1 #[(yt 8),(yt 9)]),
 ym 11 5,ym 4 11,.ret] }
def b_maps_Keys_map_api_Hashuint64_api_Hash_uint64 (f0 : Nat) (T0 : Nat) : Body := { n := 4,res := [.tmp 2],code := [yo 1 (.box T0 (yt 0)),yo 2 (.mov (.const (.nilFunc))),yo 3 (.fn f0 #[] #[(yt 1)]),ym 2 3,.ret] }
def b_cmp_Compare_uint64 (f0 : Nat) : Body := { n := 20,res := [.tmp 4],code := [yo 4 (.mov (.const (.int .i64 0))),ym 7 0,yo 8 (.call f0 #[(yt 7)]),ym 5 8,ym 9 1,yo 10 (.call f0 #[(yt 9)]),ym 6 10,ym 11 5,
 .cond (yt 11) [ym 12 6,.cond (yt 12) [yo 4 (.mov (.const (.int .i64 0))),.ret] [],yo 4 (.mov (.const (.int .i64 (-1)))),.ret] [],ym 13 6,.cond (yt 13) [yo 4 (.mov (.const (.int .i64 1))),.ret] [],ym 14 0,ym 15 1,
 yo 16 (.ibin .lss (yt 14) (yt 15)),.cond (yt 16) [yo 4 (.mov (.const (.int .i64 (-1)))),.ret] [],ym 17 0,ym 18 1,yo 19 (.ibin .gtr (yt 17) (yt 18)),.cond (yt 19) [yo 4 (.mov (.const (.int .i64 1))),.ret] [],
 yo 4 (.mov (.const (.int .i64 0))),.ret] }
def b_slices_Backward_uint64_uint64 (f0 : Nat) (T0 : Nat) : Body := { n := 4,res := [.tmp 2],code := [yo 1 (.box T0 (yt 0)),yo 2 (.mov (.const (.nilFunc))),yo 3 (.fn f0 #[] #[(yt 1)]),ym 2 3,.ret] }
def b_slices_Concat_byte_byte (f0 : Nat) (T0 T1 : Nat) : Body := { n := 36,res := [.tmp 2],code := [yo 2 (.mov (.const (.slice none 0 0))),yo 3 (.mov (.const (.int .i64 0))),ym 9 0,yo 10 (.lenS (yt 9)),
 yo 11 (.mov (.const (.int .i64 0))),.block 0 [.loop [yo 12 (.ibin .lss (yt 11) (yt 10)),.cond (yt 12) [] [.exit 0],.block 1 [yo 13 (.iaddr 1 (yt 9) (yt 11)),yo 14 (.load1 (yt 13)),ym 5 14,ym 15 3,ym 16 5,
 yo 17 (.lenS (yt 16)),yo 18 (.ibin .add (yt 15) (yt 17)),ym 3 18,ym 19 3,yo 20 (.ibin .lss (yt 19) (.const (.int .i64 0))),.cond (yt 20) [
 yo 21 (.mkIface T0 (.const (.string ⟨#[108,101,110,32,111,117,116,32,111,102,32,114,97,110,103,101]⟩))),.op none none (.trap)] []],yo 22 (.ibin .add (yt 11) (.const (.int .i64 1))),ym 11 22]],ym 23 3,
 yo 24 (.call f0 #[(.const (.slice none 0 0)),(yt 23)]),ym 6 24,ym 25 0,yo 26 (.lenS (yt 25)),yo 27 (.mov (.const (.int .i64 0))),.block 2 [.loop [yo 28 (.ibin .lss (yt 27) (yt 26)),.cond (yt 28) [] [.exit 2],.block 3 [
 yo 29 (.iaddr 1 (yt 25) (yt 27)),yo 30 (.load1 (yt 29)),ym 8 30,ym 31 6,ym 32 8,yo 33 (.append T1 1 1 (rle [(1,.int .u8 0)]) (yt 31) (yt 32)),ym 6 33],yo 34 (.ibin .add (yt 27) (.const (.int .i64 1))),ym 27 34]],
 ym 35 6,ym 2 35,.ret] }
def b_maps_Keys_map_uint64int_uint64_int (f0 : Nat) (T0 : Nat) : Body := { n := 4,res := [.tmp 2],code := [yo 1 (.box T0 (yt 0)),yo 2 (.mov (.const (.nilFunc))),yo 3 (.fn f0 #[] #[(yt 1)]),ym 2 3,.ret] }
def b_slices_BinarySearch_uint64_uint64 (f0 f1 : Nat) : Body := { n := 54,res := [.tmp 4,.tmp 5],code := [yo 4 (.mov (.const (.int .i64 0))),yo 5 (.mov (.const (.bool false))),ym 10 0,yo 11 (.lenS (yt 10)),ym 6 11,
 ym 12 6,yo 7 (.mov (.const (.int .i64 0))),ym 8 12,.block 0 [.loop [ym 13 7,ym 14 8,yo 15 (.ibin .lss (yt 13) (yt 14)),.cond (yt 15) [] [.exit 0],.block 1 [ym 16 7,ym 17 8,yo 18 (.ibin .add (yt 16) (yt 17)),
 yo 19 (.toInt .u64 (yt 18)),yo 20 (.ibin .shr (yt 19) (.const (.int .u64 1))),yo 21 (.toInt .i64 (yt 20)),ym 9 21,ym 22 0,ym 23 9,yo 24 (.iaddr 1 (yt 22) (yt 23)),yo 25 (.load1 (yt 24)),ym 26 1,
 yo 27 (.call f0 #[(yt 25),(yt 26)]),.cond (yt 27) [ym 28 9,yo 29 (.ibin .add (yt 28) (.const (.int .i64 1))),ym 7 29] [ym 30 9,ym 8 30]]]],ym 31 7,ym 32 7,ym 33 6,yo 34 (.ibin .lss (yt 32) (yt 33)),ym 35 34,
 yg 35 true 36 (.mov (yt 0)),yg 35 true 37 (.mov (yt 7)),yg 35 true 38 (.iaddr 1 (yt 36) (yt 37)),yg 35 true 39 (.load1 (yt 38)),yg 35 true 40 (.mov (yt 1)),yg 35 true 41 (.ibin .eql (yt 39) (yt 40)),
 yg 35 true 42 (.mov (yt 41)),yg 42 false 43 (.mov (yt 0)),yg 42 false 44 (.mov (yt 7)),yg 42 false 45 (.iaddr 1 (yt 43) (yt 44)),yg 42 false 46 (.load1 (yt 45)),yg 42 false 47 (.call f1 #[(yt 46)]),
 yg 42 false 48 (.mov (yt 47)),yg 48 true 49 (.mov (yt 1)),yg 48 true 50 (.call f1 #[(yt 49)]),yg 42 false 51 (.pick (yt 48) (yt 50) (.const (.bool false))),yg 35 true 52 (.pick (yt 42) (.const (.bool true)) (yt 51)),
 yo 53 (.pick (yt 35) (yt 52) (.const (.bool false))),ym 4 31,ym 5 53,.ret] }
def b_slices_Collect_uint64 (f0 : Nat) : Body := { n := 5,res := [.tmp 2],code := [yo 2 (.mov (.const (.slice none 0 0))),ym 3 0,yo 4 (.call f0 #[(.const (.slice none 0 0)),(yt 3)]),ym 2 4,.ret] }
def b_slices_Sort_uint64_uint64 (f0 f1 : Nat) : Body := { n := 11,res := [],code := [ym 3 0,yo 4 (.lenS (yt 3)),ym 2 4,ym 5 0,ym 6 2,ym 7 2,yo 8 (.toInt .u64 (yt 7)),yo 9 (.call f0 #[(yt 8)]),
 yo 10 (.call f1 #[(yt 5),(.const (.int .i64 0)),(yt 6),(yt 9)])] }
def b_maps_Values_map_api_Hashuint64_api_Hash_uint64_1 : Body := { n := 15,res := [],code := [yo 5 (.load1 (yt 1)),yo 6 (.range (yt 5)),.block 0 [.loop [yo 7 (.next (yt 6)),yo 8 (.ext (yt 7) 0),.cond (yt 8) [] [.exit 0],
 .block 1 [yo 9 (.entry (yt 6)),yo 10 (.ext (yt 9) 1),ym 4 10,ym 11 0,ym 12 4,yo 13 (.callv (yt 11) #[(yt 12)]),yo 14 (.un .not (yt 13)),.cond (yt 14) [.ret] []]]]] }
def b_maps_Copy_map_api_Hashuint64_map_api_Hashuint64_api_Hash_uint64 (T0 : Nat) : Body := { n := 16,res := [],code := [ym 6 1,yo 7 (.range (yt 6)),.block 0 [.loop [yo 8 (.next (yt 7)),yo 9 (.ext (yt 8) 0),
 .cond (yt 9) [] [.exit 0],.block 1 [yo 10 (.entry (yt 7)),yo 11 (.ext (yt 10) 0),yo 12 (.ext (yt 10) 1),yo 4 (.new T0 (rle [(32,.int .u8 0)])),ys 32 4 11,ym 5 12,ym 13 0,yo 14 (.loadN 32 (yt 4)),ym 15 5,
 .op none none (.mapUpd T0 (yt 13) (yt 14) (yt 15))]]]] }
def b_slices_Collect_api_Hash (f0 : Nat) : Body := { n := 5,res := [.tmp 2],code := [yo 2 (.mov (.const (.slice none 0 0))),ym 3 0,yo 4 (.call f0 #[(.const (.slice none 0 0)),(yt 3)]),ym 2 4,.ret] }
def b_maps_Keys_map_api_Hashuint64_api_Hash_uint64_1 (T0 : Nat) : Body := { n := 14,res := [],code := [yo 4 (.load1 (yt 1)),yo 5 (.range (yt 4)),.block 0 [.loop [yo 6 (.next (yt 5)),yo 7 (.ext (yt 6) 0),.cond (yt 7) [] [
 .exit 0],.block 1 [yo 8 (.entry (yt 5)),yo 9 (.ext (yt 8) 0),yo 3 (.new T0 (rle [(32,.int .u8 0)])),ys 32 3 9,ym 10 0,yo 11 (.loadN 32 (yt 3)),yo 12 (.callv (yt 10) #[(yt 11)]),yo 13 (.un .not (yt 12)),.cond (yt 13) [
 .ret] []]]]] }
def b_cmp_isNaN_uint64 : Body := { n := 6,res := [.tmp 2],code := [yo 2 (.mov (.const (.bool false))),ym 3 0,ym 4 0,yo 5 (.ibin .neq (yt 3) (yt 4)),ym 2 5,.ret] }
def b_slices_Backward_uint64_uint64_1 : Body := { n := 19,res := [],code := [yo 4 (.load1 (yt 1)),yo 5 (.lenS (yt 4)),yo 6 (.ibin .sub (yt 5) (.const (.int .i64 1))),ym 3 6,.block 0 [.loop [ym 7 3,
 yo 8 (.ibin .geq (yt 7) (.const (.int .i64 0))),.cond (yt 8) [] [.exit 0],.block 1 [ym 11 0,ym 12 3,yo 13 (.load1 (yt 1)),ym 14 3,yo 15 (.iaddr 1 (yt 13) (yt 14)),yo 16 (.load1 (yt 15)),
 yo 17 (.callv (yt 11) #[(yt 12),(yt 16)]),yo 18 (.un .not (yt 17)),.cond (yt 18) [.ret] []],ym 9 3,yo 10 (.ibin .sub (yt 9) (.const (.int .i64 1))),ym 3 10]]] }
def b_slices_Chunk_byte_byte (f0 : Nat) (T0 T1 T2 : Nat) : Body := { n := 9,res := [.tmp 4],code := [yo 2 (.box T0 (yt 0)),yo 3 (.box T1 (yt 1)),yo 4 (.mov (.const (.nilFunc))),yo 5 (.load1 (yt 3)),
 yo 6 (.ibin .lss (yt 5) (.const (.int .i64 1))),.cond (yt 6) [yo 7 (.mkIface T2 (.const (.string ⟨#[99,97,110,110,111,116,32,98,101,32,108,101,115,115,32,116,104,97,110,32,49]⟩))),.op none none (.trap)] [],
 yo 8 (.fn f0 #[] #[(yt 2),(yt 3)]),ym 4 8,.ret] }
def b_slices_Grow_byte_byte (T0 T1 : Nat) : Body := { n := 27,res := [.tmp 4],code := [yo 4 (.mov (.const (.slice none 0 0))),ym 5 1,yo 6 (.ibin .lss (yt 5) (.const (.int .i64 0))),.cond (yt 6) [
 yo 7 (.mkIface T0 (.const (.string ⟨#[99,97,110,110,111,116,32,98,101,32,110,101,103,97,116,105,118,101]⟩))),.op none none (.trap)] [],ym 8 1,ym 9 0,yo 10 (.capS (yt 9)),ym 11 0,yo 12 (.lenS (yt 11)),
 yo 13 (.ibin .sub (yt 10) (yt 12)),yo 14 (.ibin .sub (yt 8) (yt 13)),ym 1 14,ym 15 1,yo 16 (.ibin .gtr (yt 15) (.const (.int .i64 0))),.cond (yt 16) [ym 17 0,ym 18 0,yo 19 (.capS (yt 18)),
 yo 20 (.slS 1 (yt 17) none (some (yt 19))),ym 21 1,yo 22 (.growN T1 1 1 (rle [(1,.int .u8 0)]) (yt 20) (yt 21)),ym 23 0,yo 24 (.lenS (yt 23)),yo 25 (.slS 1 (yt 22) none (some (yt 24))),ym 0 25] [],ym 26 0,ym 4 26,
 .ret] }
def b_slices_Values_uint64_uint64 (f0 : Nat) (T0 : Nat) : Body := { n := 4,res := [.tmp 2],code := [yo 1 (.box T0 (yt 0)),yo 2 (.mov (.const (.nilFunc))),yo 3 (.fn f0 #[] #[(yt 1)]),ym 2 3,.ret] }
def b_maps_Keys_map_uint64int_uint64_int_1 : Body := { n := 14,res := [],code := [yo 4 (.load1 (yt 1)),yo 5 (.range (yt 4)),.block 0 [.loop [yo 6 (.next (yt 5)),yo 7 (.ext (yt 6) 0),.cond (yt 7) [] [.exit 0],.block 1 [
 yo 8 (.entry (yt 5)),yo 9 (.ext (yt 8) 0),ym 3 9,ym 10 0,ym 11 3,yo 12 (.callv (yt 10) #[(yt 11)]),yo 13 (.un .not (yt 12)),.cond (yt 13) [.ret] []]]]] }
def b_cmp_Less_uint64 (f0 : Nat) : Body := { n := 17,res := [.tmp 4],code := [yo 4 (.mov (.const (.bool false))),ym 5 0,yo 6 (.call f0 #[(yt 5)]),ym 7 6,yg 7 true 8 (.mov (yt 1)),yg 7 true 9 (.call f0 #[(yt 8)]),
 yg 7 true 10 (.un .not (yt 9)),yo 11 (.pick (yt 7) (yt 10) (.const (.bool false))),ym 12 11,yg 12 false 13 (.mov (yt 0)),yg 12 false 14 (.mov (yt 1)),yg 12 false 15 (.ibin .lss (yt 13) (yt 14)),
 yo 16 (.pick (yt 12) (.const (.bool true)) (yt 15)),ym 4 16,.ret] }
def b_slices_isNaN_uint64 : Body := { n := 6,res := [.tmp 2],code := [yo 2 (.mov (.const (.bool false))),ym 3 0,ym 4 0,yo 5 (.ibin .neq (yt 3) (yt 4)),ym 2 5,.ret] }
def b_slices_AppendSeq_uint64_uint64 (T0 T1 : Nat) : Body := { n := 13,res := [.tmp 4],code := [yo 2 (.box T0 (yt 0)),yo 4 (.mov (.const (.slice none 0 0))),ym 6 1,.block 0 [.rangeF (yt 6) #[7] [ym 5 7] [.block 1 [
 yo 8 (.load1 (yt 2)),ym 9 5,yo 10 (.mkSlice T1 1 (rle [(1,.int .u64 0)]) [(0,1,(yt 9))]),yo 11 (.append T1 1 8 (rle [(1,.int .u64 0)]) (yt 8) (yt 10)),ys 1 2 11]]],yo 12 (.load1 (yt 2)),ym 4 12,.ret] }
def b_slices_AppendSeq_api_Hash_api_Hash (T0 T1 : Nat) : Body := { n := 13,res := [.tmp 4],code := [yo 2 (.box T0 (yt 0)),yo 4 (.mov (.const (.slice none 0 0))),ym 6 1,.block 0 [.rangeF (yt 6) #[7] [
 yo 5 (.new T1 (rle [(32,.int .u8 0)])),ys 32 5 7] [.block 1 [yo 8 (.load1 (yt 2)),yo 9 (.loadN 32 (yt 5)),yo 10 (.mkSlice T1 1 (rle [(32,.int .u8 0)]) [(0,32,(yt 9))]),
 yo 11 (.append T1 32 32 (rle [(32,.int .u8 0)]) (yt 8) (yt 10)),ys 1 2 11]]],yo 12 (.load1 (yt 2)),ym 4 12,.ret] }
def b_slices_Chunk_byte_byte_1 : Body := { n := 31,res := [],code := [yo 4 (.mov (.const (.int .i64 0))),.block 0 [.loop [ym 6 4,yo 7 (.load1 (yt 1)),yo 8 (.lenS (yt 7)),yo 9 (.ibin .lss (yt 6) (yt 8)),.cond (yt 9) [] [
 .exit 0],.block 1 [.draw [yd [] 13 (.load1 (yt 2)),yd [] 14 (.load1 (yt 1)),yd [] 15 (.mov (yt 4)),yd [1,2] 16 (.slS 1 (yt 14) (some (yt 15)) none),yd [3,1,2] 17 (.lenS (yt 16))] [yo 18 (.min2 (yt 13) (yt 17)),ym 5 18],
 ym 19 0,yo 20 (.load1 (yt 1)),ym 21 4,ym 22 4,ym 23 5,yo 24 (.ibin .add (yt 22) (yt 23)),ym 25 4,ym 26 5,yo 27 (.ibin .add (yt 25) (yt 26)),yo 28 (.slS3 1 (yt 20) (some (yt 21)) (some (yt 24)) (some (yt 27))),
 yo 29 (.callv (yt 19) #[(yt 28)]),yo 30 (.un .not (yt 29)),.cond (yt 30) [.ret] []],ym 10 4,yo 11 (.load1 (yt 2)),yo 12 (.ibin .add (yt 10) (yt 11)),ym 4 12]]] }
def b_slices_Clone_byte_byte (T0 T1 : Nat) : Body := { n := 8,res := [.tmp 2],code := [yo 2 (.mov (.const (.slice none 0 0))),ym 3 0,yo 4 (.bin .eql T0 (yt 3) (.const (.slice none 0 0))),.cond (yt 4) [
 yo 2 (.mov (.const (.slice none 0 0))),.ret] [],yo 5 (.mkSlice T1 0 (rle []) []),ym 6 0,yo 7 (.append T1 1 1 (rle [(1,.int .u8 0)]) (yt 5) (yt 6)),ym 2 7,.ret] }
def b_slices_Values_uint64_uint64_1 : Body := { n := 16,res := [],code := [yo 5 (.load1 (yt 1)),yo 6 (.lenS (yt 5)),yo 7 (.mov (.const (.int .i64 0))),.block 0 [.loop [yo 8 (.ibin .lss (yt 7) (yt 6)),.cond (yt 8) [] [
 .exit 0],.block 1 [yo 9 (.iaddr 1 (yt 5) (yt 7)),yo 10 (.load1 (yt 9)),ym 4 10,ym 11 0,ym 12 4,yo 13 (.callv (yt 11) #[(yt 12)]),yo 14 (.un .not (yt 13)),.cond (yt 14) [.ret] []],
 yo 15 (.ibin .add (yt 7) (.const (.int .i64 1))),ym 7 15]]] }
end Go.Sp

namespace Go.Sp
def b_slices_pdqsortOrdered_uint64 (f0 f1 f2 f3 f4 f5 f6 f7 f8 f9 : Nat) : Body := { n := 134,res := [],code := [yo 8 (.mov (.const (.bool true))),yo 9 (.mov (.const (.bool true))),.block 0 [.loop [.block 1 [ym 19 2,
 ym 20 1,yo 21 (.ibin .sub (yt 19) (yt 20)),ym 10 21,ym 22 10,yo 23 (.ibin .leq (yt 22) (.const (.int .i64 12))),.cond (yt 23) [ym 24 0,ym 25 1,ym 26 2,yo 27 (.call f0 #[(yt 24),(yt 25),(yt 26)]),.ret] [],ym 28 3,
 yo 29 (.ibin .eql (yt 28) (.const (.int .i64 0))),.cond (yt 29) [ym 30 0,ym 31 1,ym 32 2,yo 33 (.call f1 #[(yt 30),(yt 31),(yt 32)]),.ret] [],ym 34 8,yo 35 (.un .not (yt 34)),.cond (yt 35) [ym 36 0,ym 37 1,ym 38 2,
 yo 39 (.call f2 #[(yt 36),(yt 37),(yt 38)]),ym 40 3,yo 41 (.ibin .sub (yt 40) (.const (.int .i64 1))),ym 3 41] [],ym 43 0,ym 44 1,ym 45 2,yo 46 (.call f3 #[(yt 43),(yt 44),(yt 45)]),ym 42 46,yo 47 (.ext (yt 42) 0),
 yo 48 (.ext (yt 42) 1),ym 11 47,ym 12 48,ym 49 12,yo 50 (.ibin .eql (yt 49) (.const (.int .i64 2))),.cond (yt 50) [ym 51 0,ym 52 1,ym 53 2,yo 54 (.call f4 #[(yt 51),(yt 52),(yt 53)]),ym 55 2,
 yo 56 (.ibin .sub (yt 55) (.const (.int .i64 1))),ym 57 11,ym 58 1,yo 59 (.ibin .sub (yt 57) (yt 58)),yo 60 (.ibin .sub (yt 56) (yt 59)),ym 11 60,yo 12 (.mov (.const (.int .i64 1)))] [],ym 61 8,ym 62 61,
 yg 62 true 63 (.mov (yt 9)),yo 64 (.pick (yt 62) (yt 63) (.const (.bool false))),ym 65 64,yg 65 true 66 (.mov (yt 12)),yg 65 true 67 (.ibin .eql (yt 66) (.const (.int .i64 1))),
 yo 68 (.pick (yt 65) (yt 67) (.const (.bool false))),.cond (yt 68) [ym 69 0,ym 70 1,ym 71 2,yo 72 (.call f5 #[(yt 69),(yt 70),(yt 71)]),.cond (yt 72) [.ret] []] [],.draw [yd [] 73 (.mov (yt 1)),
 yd [0] 74 (.ibin .gtr (yt 73) (.const (.int .i64 0))),yd [1,0] 75 (.mov (yt 74)),ye [2,1,0] 75 true 76 (.mov (yt 0)),ye [2,1,0] 75 true 77 (.mov (yt 1)),
 ye [4,2,1,0] 75 true 78 (.ibin .sub (yt 77) (.const (.int .i64 1))),ye [3,5,2,1,0,4] 75 true 79 (.iaddr 1 (yt 76) (yt 78)),ye [6,2,3,5,1,0,4] 75 true 80 (.load1 (yt 79)),ye [2,1,0] 75 true 81 (.mov (yt 0)),
 ye [2,1,0] 75 true 82 (.mov (yt 11)),ye [8,9,2,1,0] 75 true 83 (.iaddr 1 (yt 81) (yt 82)),ye [10,2,8,9,1,0] 75 true 84 (.load1 (yt 83))] [yg 75 true 85 (.call f6 #[(yt 80),(yt 84)]),yg 75 true 86 (.un .not (yt 85)),
 yo 87 (.pick (yt 75) (yt 86) (.const (.bool false)))],.cond (yt 87) [ym 88 0,ym 89 1,ym 90 2,ym 91 11,yo 92 (.call f7 #[(yt 88),(yt 89),(yt 90),(yt 91)]),ym 13 92,ym 93 13,ym 1 93,.exit 1] [],ym 95 0,ym 96 1,ym 97 2,
 ym 98 11,yo 99 (.call f8 #[(yt 95),(yt 96),(yt 97),(yt 98)]),ym 94 99,yo 100 (.ext (yt 94) 0),yo 101 (.ext (yt 94) 1),ym 14 100,ym 15 101,ym 102 15,ym 9 102,ym 103 14,ym 104 1,yo 105 (.ibin .sub (yt 103) (yt 104)),
 ym 106 2,ym 107 14,yo 108 (.ibin .sub (yt 106) (yt 107)),ym 16 105,ym 17 108,ym 109 10,yo 110 (.ibin .quo (yt 109) (.const (.int .i64 8))),ym 18 110,ym 111 16,ym 112 17,yo 113 (.ibin .lss (yt 111) (yt 112)),
 .cond (yt 113) [ym 114 16,ym 115 18,yo 116 (.ibin .geq (yt 114) (yt 115)),ym 8 116,ym 117 0,ym 118 1,ym 119 14,ym 120 3,yo 121 (.call f9 #[(yt 117),(yt 118),(yt 119),(yt 120)]),ym 122 14,
 yo 123 (.ibin .add (yt 122) (.const (.int .i64 1))),ym 1 123] [ym 124 17,ym 125 18,yo 126 (.ibin .geq (yt 124) (yt 125)),ym 8 126,ym 127 0,ym 128 14,yo 129 (.ibin .add (yt 128) (.const (.int .i64 1))),ym 130 2,ym 131 3,
 yo 132 (.call f9 #[(yt 127),(yt 129),(yt 130),(yt 131)]),ym 133 14,ym 2 133]]]]] }
def b_slices_insertionSortOrdered_uint64 (f0 : Nat) : Body := { n := 49,res := [],code := [ym 8 1,yo 9 (.ibin .add (yt 8) (.const (.int .i64 1))),ym 6 9,.block 0 [.loop [ym 10 6,ym 11 2,
 yo 12 (.ibin .lss (yt 10) (yt 11)),.cond (yt 12) [] [.exit 0],.block 1 [ym 15 6,ym 7 15,.block 2 [.loop [.draw [yd [] 16 (.mov (yt 7)),yd [] 17 (.mov (yt 1)),yd [0,1] 18 (.ibin .gtr (yt 16) (yt 17)),
 yd [2,0,1] 19 (.mov (yt 18)),ye [3,2,0,1] 19 true 20 (.mov (yt 0)),ye [3,2,0,1] 19 true 21 (.mov (yt 7)),ye [4,5,3,2,0,1] 19 true 22 (.iaddr 1 (yt 20) (yt 21)),ye [6,3,4,5,2,0,1] 19 true 23 (.load1 (yt 22)),
 ye [3,2,0,1] 19 true 24 (.mov (yt 0)),ye [3,2,0,1] 19 true 25 (.mov (yt 7)),ye [9,3,2,0,1] 19 true 26 (.ibin .sub (yt 25) (.const (.int .i64 1))),ye [8,10,3,2,0,1,9] 19 true 27 (.iaddr 1 (yt 24) (yt 26)),
 ye [11,3,8,10,2,0,1,9] 19 true 28 (.load1 (yt 27))] [yg 19 true 29 (.call f0 #[(yt 23),(yt 28)]),yo 30 (.pick (yt 19) (yt 29) (.const (.bool false)))],.cond (yt 30) [] [.exit 2],.block 3 [.draw [yd [] 33 (.mov (yt 0)),
 yd [] 34 (.mov (yt 7)),yd [] 35 (.mov (yt 0)),yd [] 36 (.mov (yt 7)),yd [3] 37 (.ibin .sub (yt 36) (.const (.int .i64 1))),yd [] 38 (.mov (yt 0)),yd [] 39 (.mov (yt 7)),
 yd [6] 40 (.ibin .sub (yt 39) (.const (.int .i64 1))),yd [5,7,6] 41 (.iaddr 1 (yt 38) (yt 40)),yd [8,5,7,6] 42 (.load1 (yt 41)),yd [] 43 (.mov (yt 0)),yd [] 44 (.mov (yt 7)),yd [10,11] 45 (.iaddr 1 (yt 43) (yt 44)),
 yd [12,10,11] 46 (.load1 (yt 45)),yd [0,1,5,6,7,8,9,13,12,10,11] 47 (.iaddr 1 (yt 33) (yt 34)),([14,9,0,1,5,6,7,8,13,12,10,11],none,none,.store 1 (yt 47) (yt 42))] [yo 48 (.iaddr 1 (yt 35) (yt 37)),ys 1 48 46]],ym 31 7,
 yo 32 (.ibin .sub (yt 31) (.const (.int .i64 1))),ym 7 32]]],ym 13 6,yo 14 (.ibin .add (yt 13) (.const (.int .i64 1))),ym 6 14]]] }
def b_slices_heapSortOrdered_uint64 (f0 : Nat) : Body := { n := 56,res := [],code := [ym 11 1,ym 6 11,yo 7 (.mov (.const (.int .i64 0))),ym 12 2,ym 13 1,yo 14 (.ibin .sub (yt 12) (yt 13)),ym 8 14,ym 15 8,
 yo 16 (.ibin .sub (yt 15) (.const (.int .i64 1))),yo 17 (.ibin .quo (yt 16) (.const (.int .i64 2))),ym 9 17,.block 0 [.loop [ym 18 9,yo 19 (.ibin .geq (yt 18) (.const (.int .i64 0))),.cond (yt 19) [] [.exit 0],
 .block 1 [ym 22 0,ym 23 9,ym 24 8,ym 25 6,yo 26 (.call f0 #[(yt 22),(yt 23),(yt 24),(yt 25)])],ym 20 9,yo 21 (.ibin .sub (yt 20) (.const (.int .i64 1))),ym 9 21]],ym 27 8,
 yo 28 (.ibin .sub (yt 27) (.const (.int .i64 1))),ym 10 28,.block 2 [.loop [ym 29 10,yo 30 (.ibin .geq (yt 29) (.const (.int .i64 0))),.cond (yt 30) [] [.exit 2],.block 3 [.draw [yd [] 33 (.mov (yt 0)),
 yd [] 34 (.mov (yt 6)),yd [] 35 (.mov (yt 0)),yd [] 36 (.mov (yt 6)),yd [] 37 (.mov (yt 10)),yd [3,4] 38 (.ibin .add (yt 36) (yt 37)),yd [] 39 (.mov (yt 0)),yd [] 40 (.mov (yt 6)),yd [] 41 (.mov (yt 10)),
 yd [7,8] 42 (.ibin .add (yt 40) (yt 41)),yd [6,9,7,8] 43 (.iaddr 1 (yt 39) (yt 42)),yd [10,6,9,7,8] 44 (.load1 (yt 43)),yd [] 45 (.mov (yt 0)),yd [] 46 (.mov (yt 6)),yd [12,13] 47 (.iaddr 1 (yt 45) (yt 46)),
 yd [14,12,13] 48 (.load1 (yt 47)),yd [0,1,6,7,8,9,10,11,15,14,12,13] 49 (.iaddr 1 (yt 33) (yt 34)),([16,11,0,1,6,7,8,9,10,15,14,12,13],none,none,.store 1 (yt 49) (yt 44))] [yo 50 (.iaddr 1 (yt 35) (yt 38)),ys 1 50 48],
 ym 51 0,ym 52 7,ym 53 10,ym 54 6,yo 55 (.call f0 #[(yt 51),(yt 52),(yt 53),(yt 54)])],ym 31 10,yo 32 (.ibin .sub (yt 31) (.const (.int .i64 1))),ym 10 32]]] }
def b_slices_breakPatternsOrdered_uint64 (f0 f1 : Nat) (T0 : Nat) : Body := { n := 65,res := [],code := [ym 11 2,ym 12 1,yo 13 (.ibin .sub (yt 11) (yt 12)),ym 6 13,ym 14 6,
 yo 15 (.ibin .geq (yt 14) (.const (.int .i64 8))),.cond (yt 15) [ym 16 6,yo 17 (.toInt .u64 (yt 16)),yo 7 (.new T0 (rle [(1,.int .u64 0)])),ys 1 7 17,ym 18 6,yo 19 (.call f0 #[(yt 18)]),ym 8 19,ym 20 1,ym 21 6,
 yo 22 (.ibin .quo (yt 21) (.const (.int .i64 4))),yo 23 (.ibin .mul (yt 22) (.const (.int .i64 2))),yo 24 (.ibin .add (yt 20) (yt 23)),yo 25 (.ibin .sub (yt 24) (.const (.int .i64 1))),ym 9 25,.block 0 [.loop [ym 26 9,
 ym 27 1,ym 28 6,yo 29 (.ibin .quo (yt 28) (.const (.int .i64 4))),yo 30 (.ibin .mul (yt 29) (.const (.int .i64 2))),yo 31 (.ibin .add (yt 27) (yt 30)),yo 32 (.ibin .add (yt 31) (.const (.int .i64 1))),
 yo 33 (.ibin .leq (yt 26) (yt 32)),.cond (yt 33) [] [.exit 0],.block 1 [yo 36 (.call f1 #[(yt 7)]),ym 37 8,yo 38 (.ibin .sub (yt 37) (.const (.int .u64 1))),yo 39 (.ibin .and (yt 36) (yt 38)),
 yo 40 (.toInt .i64 (yt 39)),ym 10 40,ym 41 10,ym 42 6,yo 43 (.ibin .geq (yt 41) (yt 42)),.cond (yt 43) [ym 44 10,ym 45 6,yo 46 (.ibin .sub (yt 44) (yt 45)),ym 10 46] [],.draw [yd [] 47 (.mov (yt 0)),
 yd [] 48 (.mov (yt 9)),yd [] 49 (.mov (yt 0)),yd [] 50 (.mov (yt 1)),yd [] 51 (.mov (yt 10)),yd [3,4] 52 (.ibin .add (yt 50) (yt 51)),yd [] 53 (.mov (yt 0)),yd [] 54 (.mov (yt 1)),yd [] 55 (.mov (yt 10)),
 yd [7,8] 56 (.ibin .add (yt 54) (yt 55)),yd [6,9,7,8] 57 (.iaddr 1 (yt 53) (yt 56)),yd [10,6,9,7,8] 58 (.load1 (yt 57)),yd [] 59 (.mov (yt 0)),yd [] 60 (.mov (yt 9)),yd [12,13] 61 (.iaddr 1 (yt 59) (yt 60)),
 yd [14,12,13] 62 (.load1 (yt 61)),yd [0,1,6,7,8,9,10,11,15,14,12,13] 63 (.iaddr 1 (yt 47) (yt 48)),([16,11,0,1,6,7,8,9,10,15,14,12,13],none,none,.store 1 (yt 63) (yt 58))] [yo 64 (.iaddr 1 (yt 49) (yt 52)),ys 1 64 62]],
 ym 34 9,yo 35 (.ibin .add (yt 34) (.const (.int .i64 1))),ym 9 35]]] []] }
def b_slices_choosePivotOrdered_uint64 (f0 f1 : Nat) (T0 : Nat) : Body := { n := 57,res := [.tmp 6,.tmp 7],code := [yo 6 (.mov (.const (.int .i64 0))),yo 7 (.mov (.const (.int .i64 0))),ym 13 2,ym 14 1,
 yo 15 (.ibin .sub (yt 13) (yt 14)),ym 8 15,yo 9 (.new T0 (rle [(1,.int .i64 0)])),ym 16 1,ym 17 8,yo 18 (.ibin .quo (yt 17) (.const (.int .i64 4))),yo 19 (.ibin .mul (yt 18) (.const (.int .i64 1))),
 yo 20 (.ibin .add (yt 16) (yt 19)),ym 10 20,ym 21 1,ym 22 8,yo 23 (.ibin .quo (yt 22) (.const (.int .i64 4))),yo 24 (.ibin .mul (yt 23) (.const (.int .i64 2))),yo 25 (.ibin .add (yt 21) (yt 24)),ym 11 25,ym 26 1,
 ym 27 8,yo 28 (.ibin .quo (yt 27) (.const (.int .i64 4))),yo 29 (.ibin .mul (yt 28) (.const (.int .i64 3))),yo 30 (.ibin .add (yt 26) (yt 29)),ym 12 30,ym 31 8,yo 32 (.ibin .geq (yt 31) (.const (.int .i64 8))),
 .cond (yt 32) [ym 33 8,yo 34 (.ibin .geq (yt 33) (.const (.int .i64 50))),.cond (yt 34) [ym 35 0,ym 36 10,yo 37 (.call f0 #[(yt 35),(yt 36),(yt 9)]),ym 10 37,ym 38 0,ym 39 11,yo 40 (.call f0 #[(yt 38),(yt 39),(yt 9)]),
 ym 11 40,ym 41 0,ym 42 12,yo 43 (.call f0 #[(yt 41),(yt 42),(yt 9)]),ym 12 43] [],ym 44 0,ym 45 10,ym 46 11,ym 47 12,yo 48 (.call f1 #[(yt 44),(yt 45),(yt 46),(yt 47),(yt 9)]),ym 11 48] [],yo 49 (.load1 (yt 9)),
 .block 0 [yo 52 (.ibin .eql (yt 49) (.const (.int .i64 0))),ym 51 52,.cond (yt 51) [ym 53 11,ym 6 53,yo 7 (.mov (.const (.int .i64 1))),.ret] [yo 55 (.ibin .eql (yt 49) (.const (.int .i64 12))),ym 54 55,.cond (yt 54) [
 ym 56 11,ym 6 56,yo 7 (.mov (.const (.int .i64 2))),.ret] [ym 50 11,ym 6 50,yo 7 (.mov (.const (.int .i64 0))),.ret]]]] }
def b_slices_reverseRangeOrdered_uint64 : Body := { n := 32,res := [],code := [ym 8 1,ym 6 8,ym 9 2,yo 10 (.ibin .sub (yt 9) (.const (.int .i64 1))),ym 7 10,.block 0 [.loop [ym 11 6,ym 12 7,
 yo 13 (.ibin .lss (yt 11) (yt 12)),.cond (yt 13) [] [.exit 0],.block 1 [.draw [yd [] 14 (.mov (yt 0)),yd [] 15 (.mov (yt 6)),yd [] 16 (.mov (yt 0)),yd [] 17 (.mov (yt 7)),yd [] 18 (.mov (yt 0)),yd [] 19 (.mov (yt 7)),
 yd [4,5] 20 (.iaddr 1 (yt 18) (yt 19)),yd [6,4,5] 21 (.load1 (yt 20)),yd [] 22 (.mov (yt 0)),yd [] 23 (.mov (yt 6)),yd [8,9] 24 (.iaddr 1 (yt 22) (yt 23)),yd [10,8,9] 25 (.load1 (yt 24)),
 yd [0,1,4,5,6,7,11,10,8,9] 26 (.iaddr 1 (yt 14) (yt 15)),([12,7,0,1,4,5,6,11,10,8,9],none,none,.store 1 (yt 26) (yt 21))] [yo 27 (.iaddr 1 (yt 16) (yt 17)),ys 1 27 25],ym 28 6,
 yo 29 (.ibin .add (yt 28) (.const (.int .i64 1))),ym 6 29,ym 30 7,yo 31 (.ibin .sub (yt 30) (.const (.int .i64 1))),ym 7 31]]]] }
def b_slices_partialInsertionSortOrdered_uint64 (f0 : Nat) : Body := { n := 133,res := [.tmp 6],code := [yo 6 (.mov (.const (.bool false))),ym 11 1,yo 12 (.ibin .add (yt 11) (.const (.int .i64 1))),ym 7 12,
 yo 8 (.mov (.const (.int .i64 0))),.block 0 [.loop [ym 13 8,yo 14 (.ibin .lss (yt 13) (.const (.int .i64 5))),.cond (yt 14) [] [.exit 0],.block 1 [.block 2 [.loop [.draw [yd [] 17 (.mov (yt 7)),yd [] 18 (.mov (yt 2)),
 yd [0,1] 19 (.ibin .lss (yt 17) (yt 18)),yd [2,0,1] 20 (.mov (yt 19)),ye [3,2,0,1] 20 true 21 (.mov (yt 0)),ye [3,2,0,1] 20 true 22 (.mov (yt 7)),ye [4,5,3,2,0,1] 20 true 23 (.iaddr 1 (yt 21) (yt 22)),
 ye [6,3,4,5,2,0,1] 20 true 24 (.load1 (yt 23)),ye [3,2,0,1] 20 true 25 (.mov (yt 0)),ye [3,2,0,1] 20 true 26 (.mov (yt 7)),ye [9,3,2,0,1] 20 true 27 (.ibin .sub (yt 26) (.const (.int .i64 1))),
 ye [8,10,3,2,0,1,9] 20 true 28 (.iaddr 1 (yt 25) (yt 27)),ye [11,3,8,10,2,0,1,9] 20 true 29 (.load1 (yt 28))] [yg 20 true 30 (.call f0 #[(yt 24),(yt 29)]),yg 20 true 31 (.un .not (yt 30)),
 yo 32 (.pick (yt 20) (yt 31) (.const (.bool false)))],.cond (yt 32) [] [.exit 2],.block 3 [ym 33 7,yo 34 (.ibin .add (yt 33) (.const (.int .i64 1))),ym 7 34]]],ym 35 7,ym 36 2,yo 37 (.ibin .eql (yt 35) (yt 36)),
 .cond (yt 37) [yo 6 (.mov (.const (.bool true))),.ret] [],ym 38 2,ym 39 1,yo 40 (.ibin .sub (yt 38) (yt 39)),yo 41 (.ibin .lss (yt 40) (.const (.int .i64 50))),.cond (yt 41) [yo 6 (.mov (.const (.bool false))),.ret] [],
 .draw [yd [] 42 (.mov (yt 0)),yd [] 43 (.mov (yt 7)),yd [] 44 (.mov (yt 0)),yd [] 45 (.mov (yt 7)),yd [3] 46 (.ibin .sub (yt 45) (.const (.int .i64 1))),yd [] 47 (.mov (yt 0)),yd [] 48 (.mov (yt 7)),
 yd [6] 49 (.ibin .sub (yt 48) (.const (.int .i64 1))),yd [5,7,6] 50 (.iaddr 1 (yt 47) (yt 49)),yd [8,5,7,6] 51 (.load1 (yt 50)),yd [] 52 (.mov (yt 0)),yd [] 53 (.mov (yt 7)),yd [10,11] 54 (.iaddr 1 (yt 52) (yt 53)),
 yd [12,10,11] 55 (.load1 (yt 54)),yd [0,1,5,6,7,8,9,13,12,10,11] 56 (.iaddr 1 (yt 42) (yt 43)),([14,9,0,1,5,6,7,8,13,12,10,11],none,none,.store 1 (yt 56) (yt 51))] [yo 57 (.iaddr 1 (yt 44) (yt 46)),ys 1 57 55],ym 58 7,
 ym 59 1,yo 60 (.ibin .sub (yt 58) (yt 59)),yo 61 (.ibin .geq (yt 60) (.const (.int .i64 2))),.cond (yt 61) [ym 62 7,yo 63 (.ibin .sub (yt 62) (.const (.int .i64 1))),ym 9 63,.block 4 [.loop [ym 64 9,
 yo 65 (.ibin .geq (yt 64) (.const (.int .i64 1))),.cond (yt 65) [] [.exit 4],.block 5 [.draw [yd [] 68 (.mov (yt 0)),yd [] 69 (.mov (yt 9)),yd [0,1] 70 (.iaddr 1 (yt 68) (yt 69)),yd [2,0,1] 71 (.load1 (yt 70)),
 yd [] 72 (.mov (yt 0)),yd [] 73 (.mov (yt 9)),yd [5] 74 (.ibin .sub (yt 73) (.const (.int .i64 1))),yd [4,6,5] 75 (.iaddr 1 (yt 72) (yt 74)),yd [7,4,6,5] 76 (.load1 (yt 75))] [yo 77 (.call f0 #[(yt 71),(yt 76)]),
 yo 78 (.un .not (yt 77))],.cond (yt 78) [.exit 4] [],.draw [yd [] 79 (.mov (yt 0)),yd [] 80 (.mov (yt 9)),yd [] 81 (.mov (yt 0)),yd [] 82 (.mov (yt 9)),yd [3] 83 (.ibin .sub (yt 82) (.const (.int .i64 1))),
 yd [] 84 (.mov (yt 0)),yd [] 85 (.mov (yt 9)),yd [6] 86 (.ibin .sub (yt 85) (.const (.int .i64 1))),yd [5,7,6] 87 (.iaddr 1 (yt 84) (yt 86)),yd [8,5,7,6] 88 (.load1 (yt 87)),yd [] 89 (.mov (yt 0)),
 yd [] 90 (.mov (yt 9)),yd [10,11] 91 (.iaddr 1 (yt 89) (yt 90)),yd [12,10,11] 92 (.load1 (yt 91)),yd [0,1,5,6,7,8,9,13,12,10,11] 93 (.iaddr 1 (yt 79) (yt 80)),
 ([14,9,0,1,5,6,7,8,13,12,10,11],none,none,.store 1 (yt 93) (yt 88))] [yo 94 (.iaddr 1 (yt 81) (yt 83)),ys 1 94 92]],ym 66 9,yo 67 (.ibin .sub (yt 66) (.const (.int .i64 1))),ym 9 67]]] [],ym 95 2,ym 96 7,
 yo 97 (.ibin .sub (yt 95) (yt 96)),yo 98 (.ibin .geq (yt 97) (.const (.int .i64 2))),.cond (yt 98) [ym 99 7,yo 100 (.ibin .add (yt 99) (.const (.int .i64 1))),ym 10 100,.block 6 [.loop [ym 101 10,ym 102 2,
 yo 103 (.ibin .lss (yt 101) (yt 102)),.cond (yt 103) [] [.exit 6],.block 7 [.draw [yd [] 106 (.mov (yt 0)),yd [] 107 (.mov (yt 10)),yd [0,1] 108 (.iaddr 1 (yt 106) (yt 107)),yd [2,0,1] 109 (.load1 (yt 108)),
 yd [] 110 (.mov (yt 0)),yd [] 111 (.mov (yt 10)),yd [5] 112 (.ibin .sub (yt 111) (.const (.int .i64 1))),yd [4,6,5] 113 (.iaddr 1 (yt 110) (yt 112)),yd [7,4,6,5] 114 (.load1 (yt 113))] [
 yo 115 (.call f0 #[(yt 109),(yt 114)]),yo 116 (.un .not (yt 115))],.cond (yt 116) [.exit 6] [],.draw [yd [] 117 (.mov (yt 0)),yd [] 118 (.mov (yt 10)),yd [] 119 (.mov (yt 0)),yd [] 120 (.mov (yt 10)),
 yd [3] 121 (.ibin .sub (yt 120) (.const (.int .i64 1))),yd [] 122 (.mov (yt 0)),yd [] 123 (.mov (yt 10)),yd [6] 124 (.ibin .sub (yt 123) (.const (.int .i64 1))),yd [5,7,6] 125 (.iaddr 1 (yt 122) (yt 124)),
 yd [8,5,7,6] 126 (.load1 (yt 125)),yd [] 127 (.mov (yt 0)),yd [] 128 (.mov (yt 10)),yd [10,11] 129 (.iaddr 1 (yt 127) (yt 128)),yd [12,10,11] 130 (.load1 (yt 129)),
 yd [0,1,5,6,7,8,9,13,12,10,11] 131 (.iaddr 1 (yt 117) (yt 118)),([14,9,0,1,5,6,7,8,13,12,10,11],none,none,.store 1 (yt 131) (yt 126))] [yo 132 (.iaddr 1 (yt 119) (yt 121)),ys 1 132 130]],ym 104 10,
 yo 105 (.ibin .add (yt 104) (.const (.int .i64 1))),ym 10 105]]] []],ym 15 8,yo 16 (.ibin .add (yt 15) (.const (.int .i64 1))),ym 8 16]],yo 6 (.mov (.const (.bool false))),.ret] }
def b_slices_partitionEqualOrdered_uint64 (f0 : Nat) : Body := { n := 84,res := [.tmp 8],code := [yo 8 (.mov (.const (.int .i64 0))),.draw [yd [] 11 (.mov (yt 0)),yd [] 12 (.mov (yt 1)),yd [] 13 (.mov (yt 0)),
 yd [] 14 (.mov (yt 3)),yd [] 15 (.mov (yt 0)),yd [] 16 (.mov (yt 3)),yd [4,5] 17 (.iaddr 1 (yt 15) (yt 16)),yd [6,4,5] 18 (.load1 (yt 17)),yd [] 19 (.mov (yt 0)),yd [] 20 (.mov (yt 1)),
 yd [8,9] 21 (.iaddr 1 (yt 19) (yt 20)),yd [10,8,9] 22 (.load1 (yt 21)),yd [0,1,4,5,6,7,11,10,8,9] 23 (.iaddr 1 (yt 11) (yt 12)),([12,7,0,1,4,5,6,11,10,8,9],none,none,.store 1 (yt 23) (yt 18))] [
 yo 24 (.iaddr 1 (yt 13) (yt 14)),ys 1 24 22],ym 25 1,yo 26 (.ibin .add (yt 25) (.const (.int .i64 1))),ym 27 2,yo 28 (.ibin .sub (yt 27) (.const (.int .i64 1))),ym 9 26,ym 10 28,.block 0 [.loop [.block 1 [.block 2 [
 .loop [.draw [yd [] 29 (.mov (yt 9)),yd [] 30 (.mov (yt 10)),yd [0,1] 31 (.ibin .leq (yt 29) (yt 30)),yd [2,0,1] 32 (.mov (yt 31)),ye [3,2,0,1] 32 true 33 (.mov (yt 0)),ye [3,2,0,1] 32 true 34 (.mov (yt 1)),
 ye [4,5,3,2,0,1] 32 true 35 (.iaddr 1 (yt 33) (yt 34)),ye [6,3,4,5,2,0,1] 32 true 36 (.load1 (yt 35)),ye [3,2,0,1] 32 true 37 (.mov (yt 0)),ye [3,2,0,1] 32 true 38 (.mov (yt 9)),
 ye [8,9,3,2,0,1] 32 true 39 (.iaddr 1 (yt 37) (yt 38)),ye [10,3,8,9,2,0,1] 32 true 40 (.load1 (yt 39))] [yg 32 true 41 (.call f0 #[(yt 36),(yt 40)]),yg 32 true 42 (.un .not (yt 41)),
 yo 43 (.pick (yt 32) (yt 42) (.const (.bool false)))],.cond (yt 43) [] [.exit 2],.block 3 [ym 44 9,yo 45 (.ibin .add (yt 44) (.const (.int .i64 1))),ym 9 45]]],.block 4 [.loop [.draw [yd [] 46 (.mov (yt 9)),
 yd [] 47 (.mov (yt 10)),yd [0,1] 48 (.ibin .leq (yt 46) (yt 47)),yd [2,0,1] 49 (.mov (yt 48)),ye [3,2,0,1] 49 true 50 (.mov (yt 0)),ye [3,2,0,1] 49 true 51 (.mov (yt 1)),
 ye [4,5,3,2,0,1] 49 true 52 (.iaddr 1 (yt 50) (yt 51)),ye [6,3,4,5,2,0,1] 49 true 53 (.load1 (yt 52)),ye [3,2,0,1] 49 true 54 (.mov (yt 0)),ye [3,2,0,1] 49 true 55 (.mov (yt 10)),
 ye [8,9,3,2,0,1] 49 true 56 (.iaddr 1 (yt 54) (yt 55)),ye [10,3,8,9,2,0,1] 49 true 57 (.load1 (yt 56))] [yg 49 true 58 (.call f0 #[(yt 53),(yt 57)]),yo 59 (.pick (yt 49) (yt 58) (.const (.bool false)))],
 .cond (yt 59) [] [.exit 4],.block 5 [ym 60 10,yo 61 (.ibin .sub (yt 60) (.const (.int .i64 1))),ym 10 61]]],ym 62 9,ym 63 10,yo 64 (.ibin .gtr (yt 62) (yt 63)),.cond (yt 64) [.exit 0] [],.draw [yd [] 65 (.mov (yt 0)),
 yd [] 66 (.mov (yt 9)),yd [] 67 (.mov (yt 0)),yd [] 68 (.mov (yt 10)),yd [] 69 (.mov (yt 0)),yd [] 70 (.mov (yt 10)),yd [4,5] 71 (.iaddr 1 (yt 69) (yt 70)),yd [6,4,5] 72 (.load1 (yt 71)),yd [] 73 (.mov (yt 0)),
 yd [] 74 (.mov (yt 9)),yd [8,9] 75 (.iaddr 1 (yt 73) (yt 74)),yd [10,8,9] 76 (.load1 (yt 75)),yd [0,1,4,5,6,7,11,10,8,9] 77 (.iaddr 1 (yt 65) (yt 66)),([12,7,0,1,4,5,6,11,10,8,9],none,none,.store 1 (yt 77) (yt 72))] [
 yo 78 (.iaddr 1 (yt 67) (yt 68)),ys 1 78 76],ym 79 9,yo 80 (.ibin .add (yt 79) (.const (.int .i64 1))),ym 9 80,ym 81 10,yo 82 (.ibin .sub (yt 81) (.const (.int .i64 1))),ym 10 82]]],ym 83 9,ym 8 83,.ret] }
def b_slices_partitionOrdered_uint64 (f0 : Nat) : Body := { n := 168,res := [.tmp 8,.tmp 9],code := [yo 8 (.mov (.const (.int .i64 0))),yo 9 (.mov (.const (.bool false))),.draw [yd [] 12 (.mov (yt 0)),
 yd [] 13 (.mov (yt 1)),yd [] 14 (.mov (yt 0)),yd [] 15 (.mov (yt 3)),yd [] 16 (.mov (yt 0)),yd [] 17 (.mov (yt 3)),yd [4,5] 18 (.iaddr 1 (yt 16) (yt 17)),yd [6,4,5] 19 (.load1 (yt 18)),yd [] 20 (.mov (yt 0)),
 yd [] 21 (.mov (yt 1)),yd [8,9] 22 (.iaddr 1 (yt 20) (yt 21)),yd [10,8,9] 23 (.load1 (yt 22)),yd [0,1,4,5,6,7,11,10,8,9] 24 (.iaddr 1 (yt 12) (yt 13)),([12,7,0,1,4,5,6,11,10,8,9],none,none,.store 1 (yt 24) (yt 19))] [
 yo 25 (.iaddr 1 (yt 14) (yt 15)),ys 1 25 23],ym 26 1,yo 27 (.ibin .add (yt 26) (.const (.int .i64 1))),ym 28 2,yo 29 (.ibin .sub (yt 28) (.const (.int .i64 1))),ym 10 27,ym 11 29,.block 0 [.loop [.draw [
 yd [] 30 (.mov (yt 10)),yd [] 31 (.mov (yt 11)),yd [0,1] 32 (.ibin .leq (yt 30) (yt 31)),yd [2,0,1] 33 (.mov (yt 32)),ye [3,2,0,1] 33 true 34 (.mov (yt 0)),ye [3,2,0,1] 33 true 35 (.mov (yt 10)),
 ye [4,5,3,2,0,1] 33 true 36 (.iaddr 1 (yt 34) (yt 35)),ye [6,3,4,5,2,0,1] 33 true 37 (.load1 (yt 36)),ye [3,2,0,1] 33 true 38 (.mov (yt 0)),ye [3,2,0,1] 33 true 39 (.mov (yt 1)),
 ye [8,9,3,2,0,1] 33 true 40 (.iaddr 1 (yt 38) (yt 39)),ye [10,3,8,9,2,0,1] 33 true 41 (.load1 (yt 40))] [yg 33 true 42 (.call f0 #[(yt 37),(yt 41)]),yo 43 (.pick (yt 33) (yt 42) (.const (.bool false)))],
 .cond (yt 43) [] [.exit 0],.block 1 [ym 44 10,yo 45 (.ibin .add (yt 44) (.const (.int .i64 1))),ym 10 45]]],.block 2 [.loop [.draw [yd [] 46 (.mov (yt 10)),yd [] 47 (.mov (yt 11)),
 yd [0,1] 48 (.ibin .leq (yt 46) (yt 47)),yd [2,0,1] 49 (.mov (yt 48)),ye [3,2,0,1] 49 true 50 (.mov (yt 0)),ye [3,2,0,1] 49 true 51 (.mov (yt 11)),ye [4,5,3,2,0,1] 49 true 52 (.iaddr 1 (yt 50) (yt 51)),
 ye [6,3,4,5,2,0,1] 49 true 53 (.load1 (yt 52)),ye [3,2,0,1] 49 true 54 (.mov (yt 0)),ye [3,2,0,1] 49 true 55 (.mov (yt 1)),ye [8,9,3,2,0,1] 49 true 56 (.iaddr 1 (yt 54) (yt 55)),
 ye [10,3,8,9,2,0,1] 49 true 57 (.load1 (yt 56))] [yg 49 true 58 (.call f0 #[(yt 53),(yt 57)]),yg 49 true 59 (.un .not (yt 58)),yo 60 (.pick (yt 49) (yt 59) (.const (.bool false)))],.cond (yt 60) [] [.exit 2],.block 3 [
 ym 61 11,yo 62 (.ibin .sub (yt 61) (.const (.int .i64 1))),ym 11 62]]],ym 63 10,ym 64 11,yo 65 (.ibin .gtr (yt 63) (yt 64)),.cond (yt 65) [.draw [yd [] 66 (.mov (yt 0)),yd [] 67 (.mov (yt 11)),yd [] 68 (.mov (yt 0)),
 yd [] 69 (.mov (yt 1)),yd [] 70 (.mov (yt 0)),yd [] 71 (.mov (yt 1)),yd [4,5] 72 (.iaddr 1 (yt 70) (yt 71)),yd [6,4,5] 73 (.load1 (yt 72)),yd [] 74 (.mov (yt 0)),yd [] 75 (.mov (yt 11)),
 yd [8,9] 76 (.iaddr 1 (yt 74) (yt 75)),yd [10,8,9] 77 (.load1 (yt 76)),yd [0,1,4,5,6,7,11,10,8,9] 78 (.iaddr 1 (yt 66) (yt 67)),([12,7,0,1,4,5,6,11,10,8,9],none,none,.store 1 (yt 78) (yt 73))] [
 yo 79 (.iaddr 1 (yt 68) (yt 69)),ys 1 79 77],ym 80 11,ym 8 80,yo 9 (.mov (.const (.bool true))),.ret] [],.draw [yd [] 81 (.mov (yt 0)),yd [] 82 (.mov (yt 10)),yd [] 83 (.mov (yt 0)),yd [] 84 (.mov (yt 11)),
 yd [] 85 (.mov (yt 0)),yd [] 86 (.mov (yt 11)),yd [4,5] 87 (.iaddr 1 (yt 85) (yt 86)),yd [6,4,5] 88 (.load1 (yt 87)),yd [] 89 (.mov (yt 0)),yd [] 90 (.mov (yt 10)),yd [8,9] 91 (.iaddr 1 (yt 89) (yt 90)),
 yd [10,8,9] 92 (.load1 (yt 91)),yd [0,1,4,5,6,7,11,10,8,9] 93 (.iaddr 1 (yt 81) (yt 82)),([12,7,0,1,4,5,6,11,10,8,9],none,none,.store 1 (yt 93) (yt 88))] [yo 94 (.iaddr 1 (yt 83) (yt 84)),ys 1 94 92],ym 95 10,
 yo 96 (.ibin .add (yt 95) (.const (.int .i64 1))),ym 10 96,ym 97 11,yo 98 (.ibin .sub (yt 97) (.const (.int .i64 1))),ym 11 98,.block 4 [.loop [.block 5 [.block 6 [.loop [.draw [yd [] 99 (.mov (yt 10)),
 yd [] 100 (.mov (yt 11)),yd [0,1] 101 (.ibin .leq (yt 99) (yt 100)),yd [2,0,1] 102 (.mov (yt 101)),ye [3,2,0,1] 102 true 103 (.mov (yt 0)),ye [3,2,0,1] 102 true 104 (.mov (yt 10)),
 ye [4,5,3,2,0,1] 102 true 105 (.iaddr 1 (yt 103) (yt 104)),ye [6,3,4,5,2,0,1] 102 true 106 (.load1 (yt 105)),ye [3,2,0,1] 102 true 107 (.mov (yt 0)),ye [3,2,0,1] 102 true 108 (.mov (yt 1)),
 ye [8,9,3,2,0,1] 102 true 109 (.iaddr 1 (yt 107) (yt 108)),ye [10,3,8,9,2,0,1] 102 true 110 (.load1 (yt 109))] [yg 102 true 111 (.call f0 #[(yt 106),(yt 110)]),yo 112 (.pick (yt 102) (yt 111) (.const (.bool false)))],
 .cond (yt 112) [] [.exit 6],.block 7 [ym 113 10,yo 114 (.ibin .add (yt 113) (.const (.int .i64 1))),ym 10 114]]],.block 8 [.loop [.draw [yd [] 115 (.mov (yt 10)),yd [] 116 (.mov (yt 11)),
 yd [0,1] 117 (.ibin .leq (yt 115) (yt 116)),yd [2,0,1] 118 (.mov (yt 117)),ye [3,2,0,1] 118 true 119 (.mov (yt 0)),ye [3,2,0,1] 118 true 120 (.mov (yt 11)),ye [4,5,3,2,0,1] 118 true 121 (.iaddr 1 (yt 119) (yt 120)),
 ye [6,3,4,5,2,0,1] 118 true 122 (.load1 (yt 121)),ye [3,2,0,1] 118 true 123 (.mov (yt 0)),ye [3,2,0,1] 118 true 124 (.mov (yt 1)),ye [8,9,3,2,0,1] 118 true 125 (.iaddr 1 (yt 123) (yt 124)),
 ye [10,3,8,9,2,0,1] 118 true 126 (.load1 (yt 125))] [yg 118 true 127 (.call f0 #[(yt 122),(yt 126)]),yg 118 true 128 (.un .not (yt 127)),yo 129 (.pick (yt 118) (yt 128) (.const (.bool false)))],.cond (yt 129) [] [
 .exit 8],.block 9 [ym 130 11,yo 131 (.ibin .sub (yt 130) (.const (.int .i64 1))),ym 11 131]]],ym 132 10,ym 133 11,yo 134 (.ibin .gtr (yt 132) (yt 133)),.cond (yt 134) [.exit 4] [],.draw [yd [] 135 (.mov (yt 0)),
 yd [] 136 (.mov (yt 10)),yd [] 137 (.mov (yt 0)),yd [] 138 (.mov (yt 11)),yd [] 139 (.mov (yt 0)),yd [] 140 (.mov (yt 11)),yd [4,5] 141 (.iaddr 1 (yt 139) (yt 140)),yd [6,4,5] 142 (.load1 (yt 141)),
 yd [] 143 (.mov (yt 0)),yd [] 144 (.mov (yt 10)),yd [8,9] 145 (.iaddr 1 (yt 143) (yt 144)),yd [10,8,9] 146 (.load1 (yt 145)),yd [0,1,4,5,6,7,11,10,8,9] 147 (.iaddr 1 (yt 135) (yt 136)),
 ([12,7,0,1,4,5,6,11,10,8,9],none,none,.store 1 (yt 147) (yt 142))] [yo 148 (.iaddr 1 (yt 137) (yt 138)),ys 1 148 146],ym 149 10,yo 150 (.ibin .add (yt 149) (.const (.int .i64 1))),ym 10 150,ym 151 11,
 yo 152 (.ibin .sub (yt 151) (.const (.int .i64 1))),ym 11 152]]],.draw [yd [] 153 (.mov (yt 0)),yd [] 154 (.mov (yt 11)),yd [] 155 (.mov (yt 0)),yd [] 156 (.mov (yt 1)),yd [] 157 (.mov (yt 0)),yd [] 158 (.mov (yt 1)),
 yd [4,5] 159 (.iaddr 1 (yt 157) (yt 158)),yd [6,4,5] 160 (.load1 (yt 159)),yd [] 161 (.mov (yt 0)),yd [] 162 (.mov (yt 11)),yd [8,9] 163 (.iaddr 1 (yt 161) (yt 162)),yd [10,8,9] 164 (.load1 (yt 163)),
 yd [0,1,4,5,6,7,11,10,8,9] 165 (.iaddr 1 (yt 153) (yt 154)),([12,7,0,1,4,5,6,11,10,8,9],none,none,.store 1 (yt 165) (yt 160))] [yo 166 (.iaddr 1 (yt 155) (yt 156)),ys 1 166 164],ym 167 11,ym 8 167,
 yo 9 (.mov (.const (.bool false))),.ret] }
def b_slices_nextPowerOfTwo (f0 : Nat) : Body := { n := 7,res := [.tmp 2],code := [yo 2 (.mov (.const (.int .u64 0))),ym 3 0,yo 4 (.toInt .u64 (yt 3)),yo 5 (.call f0 #[(yt 4)]),
 yo 6 (.ibin .shl (.const (.int .u64 1)) (yt 5)),ym 2 6,.ret] }
def b_Pslices_xorshift_Next : Body := { n := 33,res := [.tmp 2],code := [yo 2 (.mov (.const (.int .u64 0))),.draw [yd [] 3 (.mov (yt 0)),yd [0] 4 (.nilc (yt 3)),yd [1,0] 5 (.load1 (yt 4)),yd [] 6 (.mov (yt 0)),
 yd [3] 7 (.nilc (yt 6)),yd [4,3] 8 (.load1 (yt 7)),yd [5,4,3] 9 (.ibin .shl (yt 8) (.const (.int .u64 13)))] [yo 10 (.ibin .xor (yt 5) (yt 9)),yo 11 (.nilc (yt 3)),ys 1 11 10],.draw [yd [] 12 (.mov (yt 0)),
 yd [0] 13 (.nilc (yt 12)),yd [1,0] 14 (.load1 (yt 13)),yd [] 15 (.mov (yt 0)),yd [3] 16 (.nilc (yt 15)),yd [4,3] 17 (.load1 (yt 16)),yd [5,4,3] 18 (.ibin .shr (yt 17) (.const (.int .u64 7)))] [
 yo 19 (.ibin .xor (yt 14) (yt 18)),yo 20 (.nilc (yt 12)),ys 1 20 19],.draw [yd [] 21 (.mov (yt 0)),yd [0] 22 (.nilc (yt 21)),yd [1,0] 23 (.load1 (yt 22)),yd [] 24 (.mov (yt 0)),yd [3] 25 (.nilc (yt 24)),
 yd [4,3] 26 (.load1 (yt 25)),yd [5,4,3] 27 (.ibin .shl (yt 26) (.const (.int .u64 17)))] [yo 28 (.ibin .xor (yt 23) (yt 27)),yo 29 (.nilc (yt 21)),ys 1 29 28],ym 30 0,yo 31 (.nilc (yt 30)),yo 32 (.load1 (yt 31)),
 ym 2 32,.ret] }
def b_slices_siftDownOrdered_uint64 (f0 : Nat) : Body := { n := 76,res := [],code := [ym 10 1,ym 8 10,.block 0 [.loop [.block 1 [ym 11 8,yo 12 (.ibin .mul (.const (.int .i64 2)) (yt 11)),
 yo 13 (.ibin .add (yt 12) (.const (.int .i64 1))),ym 9 13,ym 14 9,ym 15 2,yo 16 (.ibin .geq (yt 14) (yt 15)),.cond (yt 16) [.exit 0] [],.draw [yd [] 17 (.mov (yt 9)),
 yd [0] 18 (.ibin .add (yt 17) (.const (.int .i64 1))),yd [] 19 (.mov (yt 2)),yd [1,2,0] 20 (.ibin .lss (yt 18) (yt 19)),yd [3,1,2,0] 21 (.mov (yt 20)),ye [4,3,1,2,0] 21 true 22 (.mov (yt 0)),
 ye [4,3,1,2,0] 21 true 23 (.mov (yt 3)),ye [4,3,1,2,0] 21 true 24 (.mov (yt 9)),ye [6,7,4,3,1,2,0] 21 true 25 (.ibin .add (yt 23) (yt 24)),ye [5,8,4,3,1,2,0,6,7] 21 true 26 (.iaddr 1 (yt 22) (yt 25)),
 ye [9,4,5,8,3,1,2,0,6,7] 21 true 27 (.load1 (yt 26)),ye [4,3,1,2,0] 21 true 28 (.mov (yt 0)),ye [4,3,1,2,0] 21 true 29 (.mov (yt 3)),ye [4,3,1,2,0] 21 true 30 (.mov (yt 9)),
 ye [12,13,4,3,1,2,0] 21 true 31 (.ibin .add (yt 29) (yt 30)),ye [14,4,12,13,3,1,2,0] 21 true 32 (.ibin .add (yt 31) (.const (.int .i64 1))),ye [11,15,4,3,1,2,0,14,12,13] 21 true 33 (.iaddr 1 (yt 28) (yt 32)),
 ye [16,4,11,15,3,1,2,0,14,12,13] 21 true 34 (.load1 (yt 33))] [yg 21 true 35 (.call f0 #[(yt 27),(yt 34)]),yo 36 (.pick (yt 21) (yt 35) (.const (.bool false)))],.cond (yt 36) [ym 37 9,
 yo 38 (.ibin .add (yt 37) (.const (.int .i64 1))),ym 9 38] [],.draw [yd [] 39 (.mov (yt 0)),yd [] 40 (.mov (yt 3)),yd [] 41 (.mov (yt 8)),yd [1,2] 42 (.ibin .add (yt 40) (yt 41)),
 yd [0,3,1,2] 43 (.iaddr 1 (yt 39) (yt 42)),yd [4,0,3,1,2] 44 (.load1 (yt 43)),yd [] 45 (.mov (yt 0)),yd [] 46 (.mov (yt 3)),yd [] 47 (.mov (yt 9)),yd [7,8] 48 (.ibin .add (yt 46) (yt 47)),
 yd [6,9,7,8] 49 (.iaddr 1 (yt 45) (yt 48)),yd [10,6,9,7,8] 50 (.load1 (yt 49))] [yo 51 (.call f0 #[(yt 44),(yt 50)]),yo 52 (.un .not (yt 51))],.cond (yt 52) [.ret] [],.draw [yd [] 53 (.mov (yt 0)),
 yd [] 54 (.mov (yt 3)),yd [] 55 (.mov (yt 8)),yd [1,2] 56 (.ibin .add (yt 54) (yt 55)),yd [] 57 (.mov (yt 0)),yd [] 58 (.mov (yt 3)),yd [] 59 (.mov (yt 9)),yd [5,6] 60 (.ibin .add (yt 58) (yt 59)),
 yd [] 61 (.mov (yt 0)),yd [] 62 (.mov (yt 3)),yd [] 63 (.mov (yt 9)),yd [9,10] 64 (.ibin .add (yt 62) (yt 63)),yd [8,11,9,10] 65 (.iaddr 1 (yt 61) (yt 64)),yd [12,8,11,9,10] 66 (.load1 (yt 65)),yd [] 67 (.mov (yt 0)),
 yd [] 68 (.mov (yt 3)),yd [] 69 (.mov (yt 8)),yd [15,16] 70 (.ibin .add (yt 68) (yt 69)),yd [14,17,15,16] 71 (.iaddr 1 (yt 67) (yt 70)),yd [18,14,17,15,16] 72 (.load1 (yt 71)),
 yd [0,3,1,2,8,9,10,11,12,13,19,18,14,17,15,16] 73 (.iaddr 1 (yt 53) (yt 56)),([20,13,0,1,2,3,8,9,10,11,12,19,18,14,17,15,16],none,none,.store 1 (yt 73) (yt 66))] [yo 74 (.iaddr 1 (yt 57) (yt 60)),ys 1 74 72],ym 75 9,
 ym 8 75]]]] }
def b_slices_medianAdjacentOrdered_uint64 (f0 : Nat) : Body := { n := 15,res := [.tmp 6],code := [yo 6 (.mov (.const (.int .i64 0))),ym 7 0,ym 8 1,yo 9 (.ibin .sub (yt 8) (.const (.int .i64 1))),ym 10 1,ym 11 1,
 yo 12 (.ibin .add (yt 11) (.const (.int .i64 1))),ym 13 2,yo 14 (.call f0 #[(yt 7),(yt 9),(yt 10),(yt 12),(yt 13)]),ym 6 14,.ret] }
def b_slices_medianOrdered_uint64 (f0 : Nat) : Body := { n := 36,res := [.tmp 10],code := [yo 10 (.mov (.const (.int .i64 0))),ym 12 0,ym 13 1,ym 14 2,ym 15 4,yo 16 (.call f0 #[(yt 12),(yt 13),(yt 14),(yt 15)]),ym 11 16,
 yo 17 (.ext (yt 11) 0),yo 18 (.ext (yt 11) 1),ym 1 17,ym 2 18,ym 20 0,ym 21 2,ym 22 3,ym 23 4,yo 24 (.call f0 #[(yt 20),(yt 21),(yt 22),(yt 23)]),ym 19 24,yo 25 (.ext (yt 19) 0),yo 26 (.ext (yt 19) 1),ym 2 25,ym 3 26,
 ym 28 0,ym 29 1,ym 30 2,ym 31 4,yo 32 (.call f0 #[(yt 28),(yt 29),(yt 30),(yt 31)]),ym 27 32,yo 33 (.ext (yt 27) 0),yo 34 (.ext (yt 27) 1),ym 1 33,ym 2 34,ym 35 2,ym 10 35,.ret] }
def b_slices_order2Ordered_uint64 (f0 : Nat) : Body := { n := 28,res := [.tmp 8,.tmp 9],code := [yo 8 (.mov (.const (.int .i64 0))),yo 9 (.mov (.const (.int .i64 0))),.draw [yd [] 10 (.mov (yt 0)),yd [] 11 (.mov (yt 2)),
 yd [0,1] 12 (.iaddr 1 (yt 10) (yt 11)),yd [2,0,1] 13 (.load1 (yt 12)),yd [] 14 (.mov (yt 0)),yd [] 15 (.mov (yt 1)),yd [4,5] 16 (.iaddr 1 (yt 14) (yt 15)),yd [6,4,5] 17 (.load1 (yt 16))] [
 yo 18 (.call f0 #[(yt 13),(yt 17)])],.cond (yt 18) [ym 19 3,yo 20 (.nilc (yt 19)),yo 21 (.load1 (yt 20)),yo 22 (.ibin .add (yt 21) (.const (.int .i64 1))),yo 23 (.nilc (yt 19)),ys 1 23 22,ym 24 2,ym 25 1,ym 8 24,
 ym 9 25,.ret] [],ym 26 1,ym 27 2,ym 8 26,ym 9 27,.ret] }
end Go.Sp

namespace Go.Sp
theorem wrap_u64 (x : Int) : IntKind.u64.wrap x = x % 18446744073709551616 := by simp [IntKind.wrap, IntKind.signed, IntKind.bits]
theorem wrap_i64 {x : Int} (h1 : -9223372036854775808 ≤ x) (h2 : x < 9223372036854775808) : IntKind.i64.wrap x = x := by
  simp [IntKind.wrap, IntKind.signed, IntKind.bits, Int.bmod]; omega
theorem wrap_u64_nat {n : Nat} (h : n < 18446744073709551616) : IntKind.u64.wrap (n : Int) = n := by rw [wrap_u64]; omega
theorem wrap_u8 (x : Int) : IntKind.u8.wrap x = x % 256 := by simp [IntKind.wrap, IntKind.signed, IntKind.bits]
theorem shr_nat (a j : Nat) : ((a : Int).fdiv (2 ^ j)) = ((a >>> j : Nat) : Int) := by
  rw [Int.fdiv_eq_ediv_of_nonneg _ (Int.le_of_lt (Int.pow_pos (by decide))), Nat.shiftRight_eq_div_pow]
  norm_cast
theorem shl_nat (a j : Nat) : ((a : Int) * 2 ^ j) = ((a * 2 ^ j : Nat) : Int) := by simp
theorem ofInt_toNat {a : Nat} (ha : a < 18446744073709551616) : (BitVec.ofInt 64 (a : Int)).toNat = a := by
  rw [BitVec.toNat_ofInt]; omega
theorem and_nat {a b : Nat} (ha : a < 18446744073709551616) (hb : b < 18446744073709551616) : ((BitVec.ofInt 64 (a : Int) &&& BitVec.ofInt 64 (b : Int)).toNat : Int) = ((a &&& b : Nat) : Int) := by
  rw [BitVec.toNat_and, ofInt_toNat ha, ofInt_toNat hb]
theorem or_nat {a b : Nat} (ha : a < 18446744073709551616) (hb : b < 18446744073709551616) : ((BitVec.ofInt 64 (a : Int) ||| BitVec.ofInt 64 (b : Int)).toNat : Int) = ((a ||| b : Nat) : Int) := by
  rw [BitVec.toNat_or, ofInt_toNat ha, ofInt_toNat hb]
theorem xor_nat {a b : Nat} (ha : a < 18446744073709551616) (hb : b < 18446744073709551616) : ((BitVec.ofInt 64 (a : Int) ^^^ BitVec.ofInt 64 (b : Int)).toNat : Int) = ((a ^^^ b : Nat) : Int) := by
  rw [BitVec.toNat_xor, ofInt_toNat ha, ofInt_toNat hb]
theorem and_mask (a k : Nat) : a &&& (2 ^ k - 1) = a % 2 ^ k := Nat.and_two_pow_sub_one_eq_mod a k
/-- operations that are done without a thought -/
def plainOp : MOp → Bool
  | .ibin op _ _ => match op with
    | .eql => true
    | .neq => true
    | .lss => true
    | .leq => true
    | .gtr => true
    | .geq => true
    | _ => false
  | .un op _ => match op with
    | .not => true
    | _ => false
  | .mov _ => true
  | .pick _ _ _ => true
  | .nilc _ => true
  | .fn _ _ _ => true
  | .faddr _ _ => true
  | .fld _ _ _ _ => true
  | .ext _ _ => true
  | .lenS _ => true
  | _ => false
section
variable {P : Program} {n : Nat} {c : Ctx} {D : List Deferred} {is : List Ins} {k : Kont} {e : Env} {w : World}
variable {l : List Nat} {ds : List DOp} {F : List (Nat × DR) → Prop} {done : List (Nat × DR)} {i : Nat} {deps : List Nat} {m : MOp} {r : List DOp} {s : Nat} {b : Bool}
theorem xau {d : Nat} {v : Value} (hp : plainOp m = true) (hv : pureV e m = some v) (hd' : Nat.blt d n = true)
    (hx : Exec P n c D is k ((d, v) :: e) w) : Exec P n c D (.op none (some d) m :: is) k e w := xpu hv hd' hx
theorem dau {d : Option Nat} {v : Value} (hp : plainOp m = true) (hv : ∀ vs, pureV (envA ds done vs deps ++ keepEnv ds i e) m = some v) (h : DW P l ds e w F (i + 1) ((i, .val v) :: done) r) : DW P l ds e w F i done ((deps, none, d, m) :: r) := dw_val hv h
theorem dga {d : Option Nat} {v : Value} (hp : plainOp m = true) (hg : ∀ vs, (envA ds done vs deps ++ keepEnv ds i e).get s = some (.bool b)) (hv : ∀ vs, pureV (envA ds done vs deps ++ keepEnv ds i e) m = some v)
    (h : DW P l ds e w F (i + 1) ((i, .val v) :: done) r) : DW P l ds e w F i done ((deps, some (some s, b), d, m) :: r) := dw_gval hg hv h
theorem dw_keep {d : Option Nat} (v : Value) (hv : ∀ vs W, Upd l w W → depFactsA done W vs deps → OpOK P m (envA ds done vs deps ++ keepEnv ds i e) W (Just v W))
    (h : DW P l ds e w F (i + 1) ((i, .val v) :: done) r) : DW P l ds e w F i done ((deps, none, d, m) :: r) := dw_ok v (fun vs W h1 h2 => (hv vs W h1 h2).keep l) h
end
section
variable {P : Program} {e : Env} {w : World} {x y : Operand} {a b : Nat}
theorem pv_addU (hx : e.ev x = some (u64V a)) (hy : e.ev y = some (u64V b)) (h : a + b < 18446744073709551616) : pureV e (.ibin .add x y) = some (u64V (a + b)) := by
  simp only [pureV, hx, hy, binV, decide_true, intV]
  rw [show ((a : Int) + (b : Int)) = ((a + b : Nat) : Int) by omega, wrap_u64_nat h]
theorem pv_subU (hx : e.ev x = some (u64V a)) (hy : e.ev y = some (u64V b)) (h : b ≤ a) (ha : a < 18446744073709551616) : pureV e (.ibin .sub x y) = some (u64V (a - b)) := by
  simp only [pureV, hx, hy, binV, decide_true, intV]
  rw [show ((a : Int) - (b : Int)) = ((a - b : Nat) : Int) by omega, wrap_u64_nat (by omega)]
theorem pv_andU (hx : e.ev x = some (u64V a)) (hy : e.ev y = some (u64V b)) (ha : a < 18446744073709551616) (hb : b < 18446744073709551616) : pureV e (.ibin .and x y) = some (u64V (a &&& b)) := by
  simp only [pureV, hx, hy, binV, decide_true, intV]
  show some (Value.int .u64 (IntKind.u64.wrap (((BitVec.ofInt 64 (a : Int) &&& BitVec.ofInt 64 (b : Int)).toNat : Nat) : Int))) = _
  rw [and_nat ha hb, wrap_u64_nat (Nat.lt_of_le_of_lt Nat.and_le_left ha)]
theorem pv_orU (hx : e.ev x = some (u64V a)) (hy : e.ev y = some (u64V b)) (ha : a < 18446744073709551616) (hb : b < 18446744073709551616) : pureV e (.ibin .or x y) = some (u64V (a ||| b)) := by
  simp only [pureV, hx, hy, binV, decide_true, intV]
  show some (Value.int .u64 (IntKind.u64.wrap (((BitVec.ofInt 64 (a : Int) ||| BitVec.ofInt 64 (b : Int)).toNat : Nat) : Int))) = _
  rw [or_nat ha hb, wrap_u64_nat (Nat.or_lt_two_pow (n := 64) ha hb)]
theorem pv_xorU (hx : e.ev x = some (u64V a)) (hy : e.ev y = some (u64V b)) (ha : a < 18446744073709551616) (hb : b < 18446744073709551616) : pureV e (.ibin .xor x y) = some (u64V (a ^^^ b)) := by
  simp only [pureV, hx, hy, binV, decide_true, intV]
  show some (Value.int .u64 (IntKind.u64.wrap (((BitVec.ofInt 64 (a : Int) ^^^ BitVec.ofInt 64 (b : Int)).toNat : Nat) : Int))) = _
  rw [xor_nat ha hb, wrap_u64_nat (Nat.xor_lt_two_pow (n := 64) ha hb)]
theorem pv_notU (hx : e.ev x = some (u64V a)) (ha : a < 18446744073709551616) : pureV e (.un .xor x) = some (u64V (18446744073709551615 - a)) := by
  have h1 : (if IntKind.u64.signed = true then (-1 : Int) else IntKind.u64.max) = ((18446744073709551615 : Nat) : Int) := by decide
  simp only [pureV, hx, unV, h1]
  show some (Value.int .u64 (IntKind.u64.wrap (((BitVec.ofInt 64 ((18446744073709551615 : Nat) : Int) ^^^ BitVec.ofInt 64 (a : Int)).toNat : Nat) : Int))) = _
  have h2 : BitVec.ofInt 64 ((18446744073709551615 : Nat) : Int) = BitVec.allOnes 64 := by decide
  rw [h2, BitVec.allOnes_xor, BitVec.toNat_not, ofInt_toNat ha, wrap_u64_nat (by omega)]
theorem pv_addI (hx : e.ev x = some (intV' a)) (hy : e.ev y = some (intV' b)) (h : a + b < 9223372036854775808) : pureV e (.ibin .add x y) = some (intV' (a + b)) := by
  simp only [pureV, hx, hy, binV, decide_true, intV]
  rw [show ((a : Int) + (b : Int)) = ((a + b : Nat) : Int) by omega, wrap_i64 (by omega) (by omega)]
theorem pv_subI (hx : e.ev x = some (intV' a)) (hy : e.ev y = some (intV' b)) (h : b ≤ a) (ha : a < 9223372036854775808) : pureV e (.ibin .sub x y) = some (intV' (a - b)) := by
  simp only [pureV, hx, hy, binV, decide_true, intV]
  rw [show ((a : Int) - (b : Int)) = ((a - b : Nat) : Int) by omega, wrap_i64 (by omega) (by omega)]
theorem pv_subZ {a b : Int} (hx : e.ev x = some (.int .i64 a)) (hy : e.ev y = some (.int .i64 b)) (h : -9223372036854775808 ≤ a - b) (h2 : a - b < 9223372036854775808) : pureV e (.ibin .sub x y) = some (.int .i64 (a - b)) := by
  simp only [pureV, hx, hy, binV, decide_true, intV]
  rw [wrap_i64 h h2]
theorem pv_toI {k : IntKind} (hx : e.ev x = some (.int k (a : Int))) (h : a < 9223372036854775808) : pureV e (.toInt .i64 x) = some (intV' a) := by
  simp only [pureV, hx]
  rw [wrap_i64 (by omega) (by omega)]
theorem pv_toU {k : IntKind} (hx : e.ev x = some (.int k (a : Int))) (h : a < 18446744073709551616) : pureV e (.toInt .u64 x) = some (u64V a) := by
  simp only [pureV, hx]
  rw [wrap_u64_nat h]
theorem ok_shrU {K : IntKind} {j : Nat} (hx : e.ev x = some (u64V a)) (hy : e.ev y = some (.int K (j : Int))) (ha : a < 18446744073709551616) : OpOK P (.ibin .shr x y) e w (Just (u64V (a / 2 ^ j)) w) := by
  have h := ok_shr (P := P) (w := w) hx hy (by omega)
  have e1 : ((a : Int).fdiv (2 ^ (min ((j : Int).toNat) IntKind.u64.bits))) = ((a / 2 ^ j : Nat) : Int) := by
    rw [shr_nat, Nat.shiftRight_eq_div_pow]
    simp only [Int.toNat_natCast, IntKind.bits]
    rcases Nat.lt_or_ge j 64 with hj | hj
    · rw [Nat.min_eq_left (by omega)]
    · rw [Nat.min_eq_right hj, Nat.div_eq_of_lt (by omega : a < 2 ^ 64), Nat.div_eq_of_lt]
      exact Nat.lt_of_lt_of_le (by omega : a < 2 ^ 64) (Nat.pow_le_pow_right (by omega) hj)
  rw [e1] at h
  exact h
theorem ok_shlU {K : IntKind} {j : Nat} (hx : e.ev x = some (u64V a)) (hy : e.ev y = some (.int K (j : Int))) : OpOK P (.ibin .shl x y) e w (Just (u64V (a * 2 ^ j % 18446744073709551616)) w) := by
  have h := ok_shl (P := P) (w := w) hx hy (by omega)
  have e1 : IntKind.u64.wrap ((a : Int) * 2 ^ (min ((j : Int).toNat) IntKind.u64.bits)) = ((a * 2 ^ j % 18446744073709551616 : Nat) : Int) := by
    rw [shl_nat, wrap_u64]
    simp only [Int.toNat_natCast, IntKind.bits]
    rcases Nat.lt_or_ge j 64 with hj | hj
    · rw [Nat.min_eq_left (by omega)]; omega
    · rw [Nat.min_eq_right hj]
      have h1 : a * 2 ^ j % 18446744073709551616 = 0 := by
        rw [show j = (j - 64) + 64 by omega, Nat.pow_add, ← Nat.mul_assoc]
        exact Nat.mul_mod_left _ _
      rw [h1]
      have h2 : ((a * 2 ^ 64 : Nat) : Int) % 18446744073709551616 = 0 := by omega
      rw [h2]; rfl
  rw [e1] at h
  exact h
end
section
variable {P : Program} {n : Nat} {c : Ctx} {D : List Deferred} {is : List Ins} {k : Kont} {e : Env} {w : World}
/-- a literal slice -/
theorem exec_lit {T : TypeId} {N m d : Nat} {z cells : Array Value} {ps : List (Nat × Nat × Operand)} {l : List (Nat × Nat × Value)} (cs : List Value) (hp : partsV e ps = some l) (hf : fillP z l = some cells) (hcs : cells.toList = cs) (hl : cs.length = m * N) (hd : Nat.blt d n = true)
    (next : ∀ b w', b = w.heap.size → w'.heap.size = w.heap.size + 1 → Ext w w' → OwnC w' (.slice (some ⟨b, 0, none⟩) m m) N m cs → Exec P n c D is k ((d, .slice (some ⟨b, 0, none⟩) m m) :: e) w') :
    Exec P n c D (.op none (some d) (.mkSlice T m z ps) :: is) k e w := by
  refine exec_ok (ok_mkSlice hp hf) hd ?_
  rintro v W ⟨rfl, rfl⟩
  refine next _ _ rfl (by simp) (Upd.alloc _ _ _) (.inr ⟨_, m, [], rfl, ?_, hl, by simpa using hl, Nat.le_refl _⟩)
  subst hcs
  have := alloc_blk w cells.toList T
  simpa using this
end
def rleL : List (Nat × Value) → List Value
  | [] => []
  | (n, v) :: r => List.replicate n v ++ rleL r
theorem rle_toList : ∀ l, (rle l).toList = rleL l := by
  intro l
  induction l with
  | nil => rfl
  | cons p l ih => obtain ⟨n, v⟩ := p; simp [rle, rleL, ih]
def cellL : Value → List Value
  | .agg cs => cs.toList
  | v => [v]
theorem cellL_eq (v : Value) : v.cells.toList = cellL v := by cases v <;> rfl
def fillL (cs : List Value) : List (Nat × Nat × Value) → Option (List Value)
  | [] => some cs
  | (off, size, v) :: r => match Nat.beq (cellL v).length size with
    | true => match Nat.ble (off + size) cs.length with
      | true => fillL (splice cs off (cellL v)) r
      | false => none
    | false => none
theorem fillL_ok : ∀ (l : List (Nat × Nat × Value)) (z : Array Value) (cs : List Value), fillL z.toList l = some cs → fillP z l = some cs.toArray := by
  intro l
  induction l with
  | nil => intro z cs h; simp [fillL] at h; subst h; simp [fillP]
  | cons p l ih =>
    obtain ⟨off, size, v⟩ := p
    intro z cs h
    simp only [fillL] at h
    split at h
    · rename_i h1
      split at h
      · rename_i h2
        have h1 := Nat.eq_of_beq_eq_true h1
        have h2 := Nat.le_of_ble_eq_true h2
        rw [fillP_cons (by rw [← cellL_eq] at h1; simpa using h1) (by simpa using h2), cellL_eq]
        exact ih _ _ (by simpa using h)
      · cases h
    · cases h
section
variable {P : Program} {n : Nat} {c : Ctx} {D : List Deferred} {is : List Ins} {k : Kont} {e : Env} {w : World}
theorem ok_mkL {zl : List (Nat × Value)} {ps : List (Nat × Nat × Operand)} {l : List (Nat × Nat × Value)} {cs : List Value} (hp : partsV e ps = some l) (hf : fillL (rleL zl) l = some cs) : OpOK P (.mk (rle zl) ps) e w (Just (.agg cs.toArray) w) :=
  ok_mk hp (fillL_ok l _ cs (by rw [rle_toList]; exact hf))
/-- a literal slice -/
theorem exec_litL {T : TypeId} {N m d : Nat} {zl : List (Nat × Value)} {ps : List (Nat × Nat × Operand)} {l : List (Nat × Nat × Value)} {cs : List Value} (hp : partsV e ps = some l) (hf : fillL (rleL zl) l = some cs) (hl : cs.length = m * N) (hd : Nat.blt d n = true)
    (next : ∀ b w', b = w.heap.size → w'.heap.size = w.heap.size + 1 → Ext w w' → OwnC w' (.slice (some ⟨b, 0, none⟩) m m) N m cs → Exec P n c D is k ((d, .slice (some ⟨b, 0, none⟩) m m) :: e) w') :
    Exec P n c D (.op none (some d) (.mkSlice T m (rle zl) ps) :: is) k e w :=
  exec_lit cs hp (fillL_ok l _ cs (by rw [rle_toList]; exact hf)) (by simp) hl hd next
end
end Go.Sp

namespace Go.Sp
def bl : Nat → Nat → Nat
  | 0, _ => 0
  | f + 1, n => if n = 0 then 0 else bl f (n / 2) + 1
/-- how many bits a number has -/
def bitLen (n : Nat) : Nat := bl 64 n
def IsLen (n k : Nat) : Prop := n < 2 ^ k ∧ (k = 0 ∨ 2 ^ (k - 1) ≤ n)
theorem IsLen.uniq {n k j : Nat} (h : IsLen n k) (h' : IsLen n j) : k = j := by
  rcases Nat.lt_trichotomy k j with hl | hl | hl
  · exfalso
    rcases h'.2 with h2 | h2
    · omega
    · have : 2 ^ k ≤ 2 ^ (j - 1) := Nat.pow_le_pow_right (by omega) (by omega)
      have := h.1; omega
  · exact hl
  · exfalso
    rcases h.2 with h2 | h2
    · omega
    · have : 2 ^ j ≤ 2 ^ (k - 1) := Nat.pow_le_pow_right (by omega) (by omega)
      have := h'.1; omega
theorem bl_is : ∀ f n, n < 2 ^ f → IsLen n (bl f n) := by
  intro f
  induction f with
  | zero => intro n h; simp at h; subst h; exact ⟨by simp [bl], .inl rfl⟩
  | succ f ih =>
    intro n h
    simp only [bl]
    split
    · rename_i h0; subst h0; exact ⟨by simp, .inl rfl⟩
    · rename_i h0
      have h1 := ih (n / 2) (by rw [Nat.pow_succ] at h; omega)
      refine ⟨by have := h1.1; rw [Nat.pow_succ]; omega, .inr ?_⟩
      simp only [Nat.add_sub_cancel]
      rcases h1.2 with h2 | h2
      · rw [h2]; simp; omega
      · rcases Nat.eq_zero_or_pos (bl f (n / 2)) with h3 | h3
        · rw [h3]; simp; omega
        · have : 2 ^ bl f (n / 2) = 2 * 2 ^ (bl f (n / 2) - 1) := by rw [← Nat.pow_succ']; congr 1; omega
          omega
theorem bitLen_is {n : Nat} (h : n < 2 ^ 64) : IsLen n (bitLen n) := bl_is 64 n h
theorem bitLen_eq {n k : Nat} (h : n < 2 ^ 64) (hk : IsLen n k) : bitLen n = k := (bitLen_is h).uniq hk
theorem bitLen_le {n k : Nat} (h : n < 2 ^ 64) (hk : n < 2 ^ k) : bitLen n ≤ k := by
  have h1 := bitLen_is h
  rcases Nat.lt_or_ge k (bitLen n) with hl | hl
  · rcases h1.2 with h2 | h2
    · omega
    · have : 2 ^ k ≤ 2 ^ (bitLen n - 1) := Nat.pow_le_pow_right (by omega) (by omega)
      omega
  · exact hl
theorem bitLen_pos {n : Nat} (h : n < 2 ^ 64) (h0 : 0 < n) : 0 < bitLen n := by
  have := bitLen_is h
  rcases Nat.eq_zero_or_pos (bitLen n) with h1 | h1
  · have := this.1; rw [h1] at this; simp at this; omega
  · exact h1
theorem bitLen_shr {n k : Nat} (h : n < 2 ^ 64) (hk : 2 ^ k ≤ n) : bitLen n = bitLen (n / 2 ^ k) + k := by
  have hd : n / 2 ^ k < 2 ^ 64 := Nat.lt_of_le_of_lt (Nat.div_le_self _ _) h
  have hp : 0 < n / 2 ^ k := Nat.div_pos hk (Nat.pow_pos (by omega))
  have h1 := bitLen_is hd
  refine bitLen_eq h ⟨?_, .inr ?_⟩
  · rw [Nat.pow_add]
    exact (Nat.div_lt_iff_lt_mul (Nat.pow_pos (by omega))).1 h1.1
  · rcases h1.2 with h2 | h2
    · have := h1.1; rw [h2] at this; omega
    · rcases Nat.eq_zero_or_pos (bitLen (n / 2 ^ k)) with h3 | h3
      · have := h1.1; rw [h3] at this; omega
      · have : bitLen (n / 2 ^ k) + k - 1 = (bitLen (n / 2 ^ k) - 1) + k := by omega
        rw [this, Nat.pow_add]
        exact (Nat.le_div_iff_mul_le (Nat.pow_pos (by omega))).1 h2
/-- the rows of a forest of n leaves -/
def rowsN (n : Nat) : Nat := if n = 0 then 0 else bitLen (n - 1)
/-- where a row begins -/
def beginN (row rows : Nat) : Nat := 2 ^ (rows + 1) - 2 ^ (rows + 1 - row)
/-- a position's row; none: there is no such position -/
def rowN (p rows : Nat) : Option Nat := if p + 1 < 2 ^ (rows + 1) then some (rows + 1 - bitLen (2 ^ (rows + 1) - 1 - p)) else none
def parentN (p rows : Nat) : Option Nat := match rowN p rows with
  | none => none
  | some r => if r = rows then none else some (p / 2 + 2 ^ rows)
def leftN (p rows : Nat) : Option Nat := match rowN p rows with
  | none => none
  | some r => if r = 0 then none else some (2 * p % 2 ^ (rows + 1))
def sibN (p : Nat) : Nat := if p % 2 = 0 then p + 1 else p - 1
def siblingN (p rows : Nat) : Option Nat := (parentN p rows).map fun _ => sibN p
def bitN (n h : Nat) : Bool := n / 2 ^ h % 2 == 1
/-- the heights of a forest's trees, the highest first -/
def treesBelow (n : Nat) : Nat → List Nat
  | 0 => []
  | h + 1 => if bitN n h then h :: treesBelow n h else treesBelow n h
def treesN (n : Nat) : List Nat := if n < 2 ^ 63 then treesBelow n 63 else []
def rootN (n h : Nat) : Option Nat := if n < 2 ^ 63 ∧ h ≤ rowsN n ∧ bitN n h = true then some (beginN h (rowsN n) + n / 2 ^ (h + 1) * 2) else none
theorem rowsN_le {n : Nat} (h : n < 2 ^ 63) : rowsN n ≤ 63 := by
  unfold rowsN
  split
  · omega
  · exact bitLen_le (by omega) (by omega)
theorem rowN_le {p rows r : Nat} (h : rowN p rows = some r) (hr : rows ≤ 63) : r ≤ rows ∧ p + 1 < 2 ^ (rows + 1) := by
  unfold rowN at h
  split at h
  · rename_i hp
    have h64 : (2 : Nat) ^ (rows + 1) ≤ 2 ^ 64 := Nat.pow_le_pow_right (by omega) (by omega)
    have h1 := bitLen_is (n := 2 ^ (rows + 1) - 1 - p) (by omega)
    cases h
    have : bitLen (2 ^ (rows + 1) - 1 - p) ≠ 0 := fun h0 => by
      have := h1.1; rw [h0] at this; simp at this; omega
    exact ⟨by omega, hp⟩
  · cases h
theorem parentN_lt {p rows q : Nat} (h : parentN p rows = some q) (hr : rows ≤ 63) : q < 2 ^ (rows + 1) := by
  unfold parentN at h
  split at h
  · cases h
  · rename_i r hr'
    split at h
    · cases h
    · cases h
      have := (rowN_le hr' hr).2
      rw [Nat.pow_succ] at *
      omega
theorem le_rows {n : Nat} (h : n < 2 ^ 63) : n ≤ 2 ^ rowsN n := by
  unfold rowsN
  split
  · omega
  · have := (bitLen_is (n := n - 1) (by omega)).1; omega
theorem rootN_lt {n h q : Nat} (hq : rootN n h = some q) : q + 1 < 2 ^ (rowsN n + 1) := by
  unfold rootN at hq
  split at hq
  · rename_i hc
    obtain ⟨h1, h2, h3⟩ := hc
    cases hq
    have hle := le_rows h1
    have e1 : n / 2 ^ (h + 1) = n / 2 ^ h / 2 := by rw [Nat.pow_succ, Nat.div_div_eq_div_mul]
    have e2 : n / 2 ^ h ≤ 2 ^ (rowsN n - h) := by
      have := Nat.div_le_div_right (c := 2 ^ h) hle
      rwa [show 2 ^ rowsN n / 2 ^ h = 2 ^ (rowsN n - h) from Nat.pow_div h2 (by omega)] at this
    have hb : n / 2 ^ h % 2 = 1 := by simpa [bitN] using h3
    have e3 : (2 : Nat) ^ (rowsN n + 1 - h) = 2 * 2 ^ (rowsN n - h) := by rw [show rowsN n + 1 - h = rowsN n - h + 1 by omega, Nat.pow_succ]; omega
    have e4 : (2 : Nat) ^ (rowsN n + 1 - h) ≤ 2 ^ (rowsN n + 1) := Nat.pow_le_pow_right (by omega) (by omega)
    simp only [beginN, e1]
    omega
  · cases hq
end Go.Sp

namespace Go.Sp
section
variable {P : Program} {f : Nat} {w : World}
abbrev RetV (P : Program) (f : FuncId) (args : List Value) (w : World) (v : Value) : Prop := Ret P f args w fun u w' => u = v ∧ Ext w w'
theorem tab_ok : ∀ y : Fin 256, (ByteArray.mk #[0, 1, 2, 2, 3, 3, 3, 3, 4, 4, 4, 4, 4, 4, 4, 4, 5, 5, 5, 5, 5, 5, 5, 5, 5, 5, 5, 5, 5, 5, 5, 5, 6, 6, 6, 6, 6, 6, 6, 6, 6, 6, 6, 6, 6, 6, 6, 6, 6, 6, 6, 6, 6, 6, 6, 6, 6, 6, 6, 6, 6, 6, 6, 6, 7, 7, 7, 7, 7, 7, 7, 7, 7, 7, 7, 7, 7, 7, 7, 7, 7, 7, 7, 7, 7, 7, 7, 7, 7, 7, 7, 7, 7, 7, 7, 7, 7, 7, 7, 7, 7, 7, 7, 7, 7, 7, 7, 7, 7, 7, 7, 7, 7, 7, 7, 7, 7, 7, 7, 7, 7, 7, 7, 7, 7, 7, 7, 7, 8, 8, 8, 8, 8, 8, 8, 8, 8, 8, 8, 8, 8, 8, 8, 8, 8, 8, 8, 8, 8, 8, 8, 8, 8, 8, 8, 8, 8, 8, 8, 8, 8, 8, 8, 8, 8, 8, 8, 8, 8, 8, 8, 8, 8, 8, 8, 8, 8, 8, 8, 8, 8, 8, 8, 8, 8, 8, 8, 8, 8, 8, 8, 8, 8, 8, 8, 8, 8, 8, 8, 8, 8, 8, 8, 8, 8, 8, 8, 8, 8, 8, 8, 8, 8, 8, 8, 8, 8, 8, 8, 8, 8, 8, 8, 8, 8, 8, 8, 8, 8, 8, 8, 8, 8, 8, 8, 8, 8, 8, 8, 8, 8, 8, 8, 8, 8, 8, 8, 8, 8, 8, 8, 8, 8, 8, 8, 8])[y.1]? = some (UInt8.ofNat (bitLen y.1)) := by decide +kernel
theorem len64_ok (h : Has P f b_math_bits_Len64) (x : Nat) (hx : x < 2 ^ 64) : RetV P f [u64V x] w (intV' (bitLen x)) := by
  refine Ret.of_exec h (Nat.le_of_ble_eq_true rfl) fun c hc => ?_
  dsimp only [b_math_bits_Len64, argEnv, ym, yo, yg, ys, yt, yd, ye]
  let J : Nat → Nat × Nat → World → Prop := fun b s w' => w' = w ∧ s.1 < 2 ^ b ∧ s.2 + bitLen s.1 = bitLen x ∧ s.2 < 64
  let en : Nat × Nat → Env := fun s => [(0, u64V s.1), (2, intV' s.2)]
  refine xr 3 rfl ?_
  refine exec_cond_join (J 32) en rfl (fun h1 => ?_) (fun h1 => ?_) ?_
  · simp only [ge_iff_le, decide_eq_true_eq] at h1
    refine xr 1 rfl ?_
    refine xju (ok_shrU (j := 32) rfl rfl (by omega)) rfl ?_
    refine xr 2 rfl ?_
    have h5 := bitLen_shr (k := 32) hx (by omega)
    exact exec_meet (x / 2 ^ 32, 32) ⟨rfl, by show x / 2 ^ 32 < 2 ^ 32; omega, by show 32 + bitLen (x / 2 ^ 32) = _; omega, by show 32 < 64; omega⟩ ⟨rfl, rfl, trivial⟩
  · simp only [ge_iff_le, decide_eq_false_iff_not] at h1
    exact exec_meet (x, 0) ⟨rfl, by show x < 2 ^ 32; omega, by simp, by show 0 < 64; omega⟩ ⟨rfl, rfl, trivial⟩
  rintro ⟨y, a⟩ w1 ⟨rfl, h2, h3, h4⟩
  simp only at h2 h3 h4
  dsimp only [en]
  refine xr 2 rfl ?_
  refine exec_cond_join (J 16) en rfl (fun h1 => ?_) (fun h1 => ?_) ?_
  · simp only [ge_iff_le, decide_eq_true_eq] at h1
    have h5 := bitLen_shr (n := y) (k := 16) (by omega) (by omega)
    have h6 := bitLen_le (n := x) (k := 64) hx hx
    have h7 := bitLen_pos (n := y / 2 ^ 16) (by omega) (by omega)
    refine xr 1 rfl ?_
    refine xju (ok_shrU (j := 16) rfl rfl (by omega)) rfl ?_
    refine xr 2 rfl ?_
    refine xpu (pv_addI (b := 16) rfl rfl (by omega)) rfl ?_
    refine xr 1 rfl ?_
    exact exec_meet (y / 2 ^ 16, a + 16) ⟨rfl, by show y / 2 ^ 16 < 2 ^ 16; omega, by show a + 16 + bitLen (y / 2 ^ 16) = _; omega, by show a + 16 < 64; omega⟩ ⟨rfl, rfl, trivial⟩
  · simp only [ge_iff_le, decide_eq_false_iff_not] at h1
    exact exec_meet (y, a) ⟨rfl, by show y < 2 ^ 16; omega, h3, h4⟩ ⟨rfl, rfl, trivial⟩
  rintro ⟨y, a⟩ w1 ⟨rfl, h2, h3, h4⟩
  simp only at h2 h3 h4
  dsimp only [en]
  refine xr 2 rfl ?_
  refine exec_cond_join (J 8) en rfl (fun h1 => ?_) (fun h1 => ?_) ?_
  · simp only [ge_iff_le, decide_eq_true_eq] at h1
    have h5 := bitLen_shr (n := y) (k := 8) (by omega) (by omega)
    have h6 := bitLen_le (n := x) (k := 64) hx hx
    have h7 := bitLen_pos (n := y / 2 ^ 8) (by omega) (by omega)
    refine xr 1 rfl ?_
    refine xju (ok_shrU (j := 8) rfl rfl (by omega)) rfl ?_
    refine xr 2 rfl ?_
    refine xpu (pv_addI (b := 8) rfl rfl (by omega)) rfl ?_
    refine xr 1 rfl ?_
    exact exec_meet (y / 2 ^ 8, a + 8) ⟨rfl, by show y / 2 ^ 8 < 2 ^ 8; omega, by show a + 8 + bitLen (y / 2 ^ 8) = _; omega, by show a + 8 < 64; omega⟩ ⟨rfl, rfl, trivial⟩
  · simp only [ge_iff_le, decide_eq_false_iff_not] at h1
    exact exec_meet (y, a) ⟨rfl, by show y < 2 ^ 8; omega, h3, h4⟩ ⟨rfl, rfl, trivial⟩
  rintro ⟨y, a⟩ w1 ⟨rfl, h2, h3, h4⟩
  simp only at h2 h3 h4
  dsimp only [en]
  have h6 := bitLen_le (n := x) (k := 64) hx hx
  refine xr 2 rfl ?_
  refine xpu rfl rfl ?_
  have hy : IntKind.u8.wrap (y : Int) = y := by rw [wrap_u8]; omega
  rw [hy]
  refine xju (ok_sidx rfl rfl y rfl (tab_ok ⟨y, h2⟩)) rfl ?_
  have h7 : bitLen y ≤ 8 := bitLen_le (by omega) (by omega)
  have h8 : (UInt8.ofNat (bitLen y)).toNat = bitLen y := by simp; omega
  rw [h8]
  refine xpu (pv_toI rfl (by omega)) rfl ?_
  refine xpu (pv_addI (a := a) (b := bitLen y) rfl rfl (by omega)) rfl ?_
  refine xr 1 rfl ?_
  rw [h3]
  exact xre hc [_] ⟨rfl, trivial⟩ ⟨rfl, Upd.refl _ _⟩
theorem lz64_ok {g : Nat} (hg : Has P g b_math_bits_Len64) (h : Has P f (b_math_bits_LeadingZeros64 g)) (x : Nat) (hx : x < 2 ^ 64) : RetV P f [u64V x] w (intV' (64 - bitLen x)) := by
  refine Ret.of_exec h (Nat.le_of_ble_eq_true rfl) fun c hc => ?_
  dsimp only [b_math_bits_LeadingZeros64, argEnv, ym, yo, yg, ys, yt, yd, ye]
  refine xr 2 rfl ?_
  refine xca rfl rfl (len64_ok hg x hx) ?_
  rintro v w' ⟨rfl, hu⟩
  have h6 := bitLen_le (n := x) (k := 64) hx hx
  refine xpu (pv_subI (a := 64) (b := bitLen x) rfl rfl h6 (by omega)) rfl ?_
  refine xr 1 rfl ?_
  exact xre hc [_] ⟨rfl, trivial⟩ ⟨rfl, hu⟩
/-- the numbers under which pos's functions lie -/
structure PosF (P : Program) where
  len64 : Nat
  lz : Nat
  rows : Nat
  may : Nat
  begin_ : Nat
  row : Nat
  parent : Nat
  left : Nat
  sibling : Nat
  root : Nat
  h_len64 : Has P len64 b_math_bits_Len64
  h_lz : Has P lz (b_math_bits_LeadingZeros64 len64)
  h_rows : Has P rows (b_pos_Rows len64)
  h_may : Has P may b_pos_may
  h_begin : Has P begin_ b_pos_begin
  h_row : Has P row (b_pos_Row may lz)
  h_parent : Has P parent (b_pos_Parent row)
  h_left : Has P left (b_pos_Left row)
  h_sibling : Has P sibling (b_pos_Sibling parent)
  h_root : Has P root (b_pos_Root rows begin_)
variable (A : PosF P)
theorem rows_ok (n : Nat) (hn : n < 2 ^ 64) : RetV P A.rows [u64V n] w (if n < 2 ^ 63 then .tuple #[intV' (rowsN n), .bool true] else .tuple #[intV' 0, .bool false]) := by
  refine Ret.of_exec A.h_rows (Nat.le_of_ble_eq_true rfl) fun c hc => ?_
  dsimp only [b_pos_Rows, argEnv, ym, yo, yg, ys, yt, yd, ye]
  refine xr 6 rfl ?_
  refine exec_cond rfl (fun h1 => ?_) (fun h1 => ?_)
  · refine xr 2 rfl ?_
    simp only [gt_iff_lt, decide_eq_true_eq] at h1
    refine xre hc [_, _] ⟨rfl, rfl, trivial⟩ ⟨?_, Upd.refl _ _⟩
    rw [if_neg (by omega)]; rfl
  · simp only [gt_iff_lt, decide_eq_false_iff_not] at h1
    refine xr 3 rfl ?_
    refine exec_cond rfl (fun h2 => ?_) (fun h2 => ?_)
    · refine xr 2 rfl ?_
      simp only [beq_iff_eq] at h2
      have : n = 0 := by omega
      subst this
      exact xre hc [_, _] ⟨rfl, rfl, trivial⟩ ⟨rfl, Upd.refl _ _⟩
    · refine xr 5 rfl ?_
      have h3 : n ≠ 0 := fun h => by subst h; simp at h2
      refine xpu (pv_subU (a := n) (b := 1) rfl rfl (by omega) (by omega)) rfl ?_
      refine xca rfl rfl (len64_ok A.h_len64 (n - 1) (by omega)) ?_
      rintro v w' ⟨rfl, hu⟩
      refine xr 2 rfl ?_
      refine xre hc [_, _] ⟨rfl, rfl, trivial⟩ ⟨?_, hu⟩
      rw [if_pos (by omega)]
      simp [single, rowsN, h3]
theorem may_ok (rows : Int) : RetV P A.may [.int .i64 rows] w (.bool (decide (0 ≤ rows ∧ rows ≤ 63))) := by
  refine Ret.of_exec A.h_may (Nat.le_of_ble_eq_true rfl) fun c hc => ?_
  dsimp only [b_pos_may, argEnv, ym, yo, yg, ys, yt, yd, ye]
  refine xr 4 rfl ?_
  refine exec_split 5 rfl (fun h1 => ?_) (fun h1 => ?_)
  · refine xr 6 rfl ?_
    refine xre hc [_] ⟨rfl, trivial⟩ ⟨?_, Upd.refl _ _⟩
    simp at h1
    simp [single, h1]
  · refine xr 4 rfl ?_
    refine xre hc [_] ⟨rfl, trivial⟩ ⟨?_, Upd.refl _ _⟩
    simp at h1
    simp [single]
    omega
theorem begin_ok (row rows : Nat) (h1 : row ≤ rows) (h2 : rows ≤ 63) : RetV P A.begin_ [intV' row, intV' rows] w (u64V (beginN row rows)) := by
  refine Ret.of_exec A.h_begin (Nat.le_of_ble_eq_true rfl) fun c hc => ?_
  dsimp only [b_pos_begin, argEnv, ym, yo, yg, ys, yt, yd, ye]
  refine xr 1 rfl ?_
  refine exec_dw [] rfl rfl rfl ?_
  repeat (first | refine dau rfl (fun _ => rfl) ?_ | refine dga rfl (fun _ => rfl) (fun _ => rfl) ?_ | refine dgs (fun _ => rfl) ?_)
  refine dw_keep _ (fun vs W _ _ => ok_shlU (a := 2) (j := rows) rfl rfl) ?_
  repeat (first | refine dau rfl (fun _ => rfl) ?_ | refine dga rfl (fun _ => rfl) (fun _ => rfl) ?_ | refine dgs (fun _ => rfl) ?_)
  refine dw_val (v := intV' (rows - row)) (fun _ => pv_subI rfl rfl h1 (by omega)) ?_
  refine dw_keep _ (fun vs W _ _ => ok_shlU (a := 2) (j := rows - row) rfl rfl) ?_
  refine dw_end fun vs W hu _ => ?_
  have hp : (2 : Nat) ^ (rows + 1) ≤ 2 ^ 64 := Nat.pow_le_pow_right (by omega) (by omega)
  have hp2 : (2 : Nat) ^ (rows + 1 - row) ≤ 2 ^ (rows + 1) := Nat.pow_le_pow_right (by omega) (by omega)
  have e1 : 2 * 2 ^ rows = 2 ^ (rows + 1) := by rw [Nat.pow_succ]; omega
  have e2 : 2 * 2 ^ (rows - row) = 2 ^ (rows + 1 - row) := by rw [show rows + 1 - row = rows - row + 1 by omega, Nat.pow_succ]; omega
  have e3 : 0 < (2 : Nat) ^ (rows + 1 - row) := Nat.pow_pos (by omega)
  rw [e1, e2]
  refine xpu (v := u64V (beginN row rows)) ?_ rfl ?_
  · show some (Value.int .u64 (IntKind.u64.wrap _)) = _
    rw [wrap_u64]
    refine congrArg (fun z => some (Value.int .u64 z)) ?_
    simp only [beginN]
    generalize 2 ^ (rows + 1) = X at *
    generalize 2 ^ (rows + 1 - row) = Y at *
    omega
  refine xr 1 rfl ?_
  exact xre hc [_] ⟨rfl, trivial⟩ ⟨rfl, hu⟩
def optV (f : Nat → Value) : Option Nat → Value
  | none => .tuple #[f 0, .bool false]
  | some n => .tuple #[f n, .bool true]
theorem pow64 {r : Nat} (h : r ≤ 63) : (2 : Nat) ^ (r + 1) ≤ 18446744073709551616 := Nat.pow_le_pow_right (n := 2) (by omega) (by omega : r + 1 ≤ 64)
theorem row_ok (p rows : Nat) (hp : p < 2 ^ 64) (hr : rows ≤ 63) : RetV P A.row [u64V p, intV' rows] w (optV intV' (rowN p rows)) := by
  refine Ret.of_exec A.h_row (Nat.le_of_ble_eq_true rfl) fun c hc => ?_
  dsimp only [b_pos_Row, argEnv, ym, yo, yg, ys, yt, yd, ye]
  refine xr 3 rfl ?_
  refine xca rfl rfl (may_ok A rows) ?_
  rintro v w1 ⟨rfl, hu1⟩
  have e1 : decide (0 ≤ (rows : Int) ∧ (rows : Int) ≤ 63) = true := by simp; omega
  rw [e1]
  have h64 := pow64 hr
  have hpos : 0 < (2 : Nat) ^ (rows + 1) := Nat.pow_pos (by omega)
  have e2 : 2 * 2 ^ rows = 2 ^ (rows + 1) := by rw [Nat.pow_succ]; omega
  refine xr 7 rfl ?_
  refine xju (ok_shlU (a := 2) (j := rows) rfl rfl) rfl ?_
  rw [e2]
  refine xr 1 rfl ?_
  refine xpu (v := u64V (2 ^ (rows + 1) - 1)) ?_ rfl ?_
  · show some (Value.int .u64 (IntKind.u64.wrap _)) = _
    rw [wrap_u64]
    refine congrArg (fun z => some (Value.int .u64 z)) ?_
    generalize (2 : Nat) ^ (rows + 1) = X at *
    omega
  refine xr 3 rfl ?_
  refine exec_cond rfl (fun h1 => ?_) (fun h1 => ?_)
  · refine xr 2 rfl ?_
    refine xre hc [_, _] ⟨rfl, rfl, trivial⟩ ⟨?_, hu1⟩
    simp only [ge_iff_le, decide_eq_true_eq] at h1
    unfold rowN
    rw [if_neg (by generalize (2 : Nat) ^ (rows + 1) = X at *; omega)]; rfl
  · simp only [ge_iff_le, decide_eq_false_iff_not] at h1
    refine xr 3 rfl ?_
    have hlt : p + 1 < 2 ^ (rows + 1) := by generalize (2 : Nat) ^ (rows + 1) = X at *; omega
    refine xpu (pv_subI (a := 63) (b := rows) rfl rfl hr (by omega)) rfl ?_
    refine xju (ok_shlU (a := p) (j := 63 - rows) rfl rfl) rfl ?_
    have hlt2 : p * 2 ^ (63 - rows) < 18446744073709551616 := by
      have h2 : (p + 1) * 2 ^ (63 - rows) ≤ 2 ^ (rows + 1) * 2 ^ (63 - rows) := Nat.mul_le_mul_right _ (by omega)
      rw [← Nat.pow_add, show rows + 1 + (63 - rows) = 64 by omega, Nat.add_mul] at h2
      have h3 : 0 < (2 : Nat) ^ (63 - rows) := Nat.pow_pos (by omega)
      omega
    rw [Nat.mod_eq_of_lt hlt2]
    refine xpu (pv_notU (a := p * 2 ^ (63 - rows)) rfl hlt2) rfl ?_
    refine xca rfl rfl (lz64_ok A.h_len64 A.h_lz (18446744073709551615 - p * 2 ^ (63 - rows)) (by omega)) ?_
    rintro v w2 ⟨rfl, hu2⟩
    refine xr 2 rfl ?_
    refine xre hc [_, _] ⟨rfl, rfl, trivial⟩ ⟨?_, hu1.trans hu2⟩
    unfold rowN
    rw [if_pos hlt]
    simp only [single, optV]
    refine congrArg (fun z => Value.tuple #[intV' z, .bool true]) ?_
    -- the leading ones
    have hm := bitLen_is (n := 2 ^ (rows + 1) - 1 - p) (by omega)
    have hpos2 : 0 < 2 ^ (rows + 1) - 1 - p := by omega
    have hb0 : 0 < bitLen (2 ^ (rows + 1) - 1 - p) := bitLen_pos (by omega) hpos2
    have hle : bitLen (2 ^ (rows + 1) - 1 - p) ≤ rows + 1 := bitLen_le (by omega) (by omega)
    have h3 : 0 < (2 : Nat) ^ (63 - rows) := Nat.pow_pos (by omega)
    have hbig : 2 ^ (rows + 1) * 2 ^ (63 - rows) = 18446744073709551616 := by
      rw [← Nat.pow_add, show rows + 1 + (63 - rows) = 64 by omega]
    have hsplit : 18446744073709551615 - p * 2 ^ (63 - rows) = (2 ^ (rows + 1) - 1 - p) * 2 ^ (63 - rows) + (2 ^ (63 - rows) - 1) := by
      have h4 : (2 ^ (rows + 1) - 1 - p) * 2 ^ (63 - rows) = 2 ^ (rows + 1) * 2 ^ (63 - rows) - (1 + p) * 2 ^ (63 - rows) := by
        rw [Nat.sub_sub, Nat.sub_mul]
      rw [h4, hbig, Nat.add_mul]
      have h5 : (p + 1) * 2 ^ (63 - rows) ≤ 2 ^ (rows + 1) * 2 ^ (63 - rows) := Nat.mul_le_mul_right _ (by omega)
      rw [hbig, Nat.add_mul] at h5
      omega
    have hlen : bitLen (18446744073709551615 - p * 2 ^ (63 - rows)) = bitLen (2 ^ (rows + 1) - 1 - p) + (63 - rows) := by
      refine bitLen_eq (by omega) ⟨?_, .inr ?_⟩
      · rw [hsplit, Nat.pow_add 2 (bitLen _) (63 - rows)]
        have h6 : (2 ^ (rows + 1) - 1 - p + 1) * 2 ^ (63 - rows) ≤ 2 ^ bitLen (2 ^ (rows + 1) - 1 - p) * 2 ^ (63 - rows) := Nat.mul_le_mul_right _ hm.1
        rw [Nat.add_mul] at h6
        omega
      · rcases hm.2 with h7 | h7
        · omega
        · rw [hsplit, show bitLen (2 ^ (rows + 1) - 1 - p) + (63 - rows) - 1 = (bitLen (2 ^ (rows + 1) - 1 - p) - 1) + (63 - rows) by omega, Nat.pow_add]
          have := Nat.mul_le_mul_right (2 ^ (63 - rows)) h7
          omega
    rw [hlen]
    omega
theorem parent_ok (p rows : Nat) (hp : p < 2 ^ 64) (hr : rows ≤ 63) : RetV P A.parent [u64V p, intV' rows] w (optV u64V (parentN p rows)) := by
  refine Ret.of_exec A.h_parent (Nat.le_of_ble_eq_true rfl) fun c hc => ?_
  dsimp only [b_pos_Parent, argEnv, ym, yo, yg, ys, yt, yd, ye]
  refine xr 4 rfl ?_
  refine xca rfl rfl (row_ok A p rows hp hr) ?_
  rintro v w1 ⟨rfl, hu1⟩
  cases hrow : rowN p rows with
  | none =>
    refine xr 15 rfl ?_
    refine xre hc [_, _] ⟨rfl, rfl, trivial⟩ ⟨?_, hu1⟩
    simp only [parentN, hrow]; rfl
  | some r =>
    refine xr 15 rfl ?_
    refine exec_cond rfl (fun h1 => ?_) (fun h1 => ?_)
    · refine xr 2 rfl ?_
      simp only [beq_iff_eq] at h1
      refine xre hc [_, _] ⟨rfl, rfl, trivial⟩ ⟨?_, hu1⟩
      simp only [parentN, hrow, show r = rows by omega, if_true]; rfl
    · have h1' : r ≠ rows := fun h => by subst h; simp at h1
      refine xr 2 rfl ?_
      have hlt := (rowN_le hrow hr).2
      have h64 := pow64 hr
      have e2 : (2 : Nat) ^ (rows + 1) = 2 * 2 ^ rows := by rw [Nat.pow_succ]; omega
      refine xju (ok_shrU (j := 1) rfl rfl hp) rfl ?_
      refine xr 1 rfl ?_
      refine xju (ok_shlU (a := 1) (j := rows) rfl rfl) rfl ?_
      have e3 : 1 * 2 ^ rows % 18446744073709551616 = 2 ^ rows := by rw [Nat.one_mul, Nat.mod_eq_of_lt]; omega
      rw [e3]
      refine xpu (pv_orU (a := p / 2 ^ 1) (b := 2 ^ rows) rfl rfl (by omega) (by omega)) rfl ?_
      have e4 : p / 2 ^ 1 ||| 2 ^ rows = p / 2 + 2 ^ rows := by
        have := Nat.two_pow_add_eq_or_of_lt (i := rows) (b := p / 2) (by omega) 1
        rw [Nat.or_comm]
        simp only [Nat.mul_one] at this
        rw [show p / 2 ^ 1 = p / 2 by simp, ← this]; omega
      rw [e4]
      refine xr 2 rfl ?_
      refine xre hc [_, _] ⟨rfl, rfl, trivial⟩ ⟨?_, hu1⟩
      simp only [parentN, hrow, h1', if_false]; rfl
theorem left_ok (p rows : Nat) (hp : p < 2 ^ 64) (hr : rows ≤ 63) : RetV P A.left [u64V p, intV' rows] w (optV u64V (leftN p rows)) := by
  refine Ret.of_exec A.h_left (Nat.le_of_ble_eq_true rfl) fun c hc => ?_
  dsimp only [b_pos_Left, argEnv, ym, yo, yg, ys, yt, yd, ye]
  refine xr 4 rfl ?_
  refine xca rfl rfl (row_ok A p rows hp hr) ?_
  rintro v w1 ⟨rfl, hu1⟩
  cases hrow : rowN p rows with
  | none =>
    refine xr 14 rfl ?_
    refine xre hc [_, _] ⟨rfl, rfl, trivial⟩ ⟨?_, hu1⟩
    simp only [leftN, hrow]; rfl
  | some r =>
    refine xr 13 rfl ?_
    refine exec_cond rfl (fun h1 => ?_) (fun h1 => ?_)
    · refine xr 2 rfl ?_
      simp only [beq_iff_eq] at h1
      refine xre hc [_, _] ⟨rfl, rfl, trivial⟩ ⟨?_, hu1⟩
      simp only [leftN, hrow, show r = 0 by omega, if_true]; rfl
    · have h1' : r ≠ 0 := fun h => by subst h; simp at h1
      refine xr 2 rfl ?_
      have h64 := pow64 hr
      have hpos : 0 < (2 : Nat) ^ (rows + 1) := Nat.pow_pos (by omega)
      have e2 : 2 * 2 ^ rows = 2 ^ (rows + 1) := by rw [Nat.pow_succ]; omega
      refine xju (ok_shlU (a := p) (j := 1) rfl rfl) rfl ?_
      refine xr 1 rfl ?_
      refine xju (ok_shlU (a := 2) (j := rows) rfl rfl) rfl ?_
      rw [e2]
      refine xpu (v := u64V (2 ^ (rows + 1) - 1)) ?_ rfl ?_
      · show some (Value.int .u64 (IntKind.u64.wrap _)) = _
        rw [wrap_u64]
        refine congrArg (fun z => some (Value.int .u64 z)) ?_
        generalize (2 : Nat) ^ (rows + 1) = X at *
        omega
      refine xpu (pv_andU (a := p * 2 ^ 1 % 18446744073709551616) (b := 2 ^ (rows + 1) - 1) rfl rfl (by omega) (by omega)) rfl ?_
      have e4 : p * 2 ^ 1 % 18446744073709551616 &&& (2 ^ (rows + 1) - 1) = 2 * p % 2 ^ (rows + 1) := by
        rw [and_mask]
        have : (2 : Nat) ^ (rows + 1) ∣ 18446744073709551616 := ⟨2 ^ (63 - rows), by rw [← Nat.pow_add, show rows + 1 + (63 - rows) = 64 by omega]⟩
        rw [Nat.mod_mod_of_dvd _ this]
        congr 1; omega
      rw [e4]
      refine xr 2 rfl ?_
      refine xre hc [_, _] ⟨rfl, rfl, trivial⟩ ⟨?_, hu1⟩
      simp only [leftN, hrow, h1', if_false]; rfl
theorem xor1 (p : Nat) : p ^^^ 1 = sibN p := by
  unfold sibN
  have h1 : (p ^^^ 1) / 2 = p / 2 := by
    have := Nat.xor_div_two (a := p) (b := 1)
    simpa using this
  have h2 : (p ^^^ 1) % 2 = (p % 2 + 1) % 2 := by
    have h3 := Nat.xor_mod_two_pow (a := p) (b := 1) (n := 1)
    simp only [Nat.pow_one] at h3
    rw [h3]
    rcases Nat.mod_two_eq_zero_or_one p with h | h <;> rw [h] <;> rfl
  split <;> omega
theorem sibling_ok (p rows : Nat) (hp : p < 2 ^ 64) (hr : rows ≤ 63) : RetV P A.sibling [u64V p, intV' rows] w (optV u64V (siblingN p rows)) := by
  refine Ret.of_exec A.h_sibling (Nat.le_of_ble_eq_true rfl) fun c hc => ?_
  dsimp only [b_pos_Sibling, argEnv, ym, yo, yg, ys, yt, yd, ye]
  refine xr 4 rfl ?_
  refine xca rfl rfl (parent_ok A p rows hp hr) ?_
  rintro v w1 ⟨rfl, hu1⟩
  cases hpar : parentN p rows with
  | none =>
    refine xr 10 rfl ?_
    refine xre hc [_, _] ⟨rfl, rfl, trivial⟩ ⟨?_, hu1⟩
    simp only [siblingN, hpar]; rfl
  | some q =>
    refine xr 10 rfl ?_
    refine xpu (pv_xorU (a := p) (b := 1) rfl rfl hp (by omega)) rfl ?_
    rw [xor1]
    refine xr 2 rfl ?_
    refine xre hc [_, _] ⟨rfl, rfl, trivial⟩ ⟨?_, hu1⟩
    simp only [siblingN, hpar]; rfl
theorem isLeft_ok {fl : Nat} (h : Has P fl b_pos_IsLeft) (p : Nat) (hp : p < 2 ^ 64) : RetV P fl [u64V p] w (.bool (decide (p % 2 = 0))) := by
  refine Ret.of_exec h (Nat.le_of_ble_eq_true rfl) fun c hc => ?_
  dsimp only [b_pos_IsLeft, argEnv, ym, yo, yg, ys, yt, yd, ye]
  refine xr 2 rfl ?_
  refine xpu (pv_andU (a := p) (b := 1) rfl rfl hp (by omega)) rfl ?_
  refine xr 2 rfl ?_
  refine xre hc [_] ⟨rfl, trivial⟩ ⟨?_, Upd.refl _ _⟩
  simp only [single, Value.bool.injEq, Nat.and_one_is_mod]
  by_cases h : p % 2 = 0
  · simp [h]
  · simp [h]; omega
theorem root_ok (n h : Nat) (hn : n < 2 ^ 64) (hh : h < 2 ^ 63) : RetV P A.root [u64V n, intV' h] w (optV u64V (rootN n h)) := by
  refine Ret.of_exec A.h_root (Nat.le_of_ble_eq_true rfl) fun c hc => ?_
  dsimp only [b_pos_Root, argEnv, ym, yo, yg, ys, yt, yd, ye]
  refine xr 3 rfl ?_
  refine xca rfl rfl (rows_ok A n hn) ?_
  rintro v w1 ⟨rfl, hu1⟩
  by_cases h63 : n < 2 ^ 63
  · rw [if_pos h63]
    have hle := rowsN_le h63
    refine xr 22 rfl ?_
    have e0 : decide ((h : Int) < 0) = false := by simp
    rw [e0]
    skip
    refine exec_split 24 rfl (fun h1 => ?_) (fun h1 => ?_)
    · refine xr 9 rfl ?_
      simp only [gt_iff_lt, decide_eq_true_eq] at h1
      refine xre hc [_, _] ⟨rfl, rfl, trivial⟩ ⟨?_, hu1⟩
      rw [rootN, if_neg (by omega)]; rfl
    · simp only [gt_iff_lt, decide_eq_false_iff_not] at h1
      refine xr 5 rfl ?_
      refine xju (ok_shrU (j := h) rfl rfl hn) rfl ?_
      refine xr 1 rfl ?_
      refine xpu (pv_andU (a := n / 2 ^ h) (b := 1) rfl rfl (Nat.lt_of_le_of_lt (Nat.div_le_self _ _) hn) (by omega)) rfl ?_
      rw [Nat.and_one_is_mod]
      refine xr 3 rfl ?_
      refine exec_cond rfl (fun h2 => ?_) (fun h2 => ?_)
      · refine xr 2 rfl ?_
        simp only [beq_iff_eq] at h2
        refine xre hc [_, _] ⟨rfl, rfl, trivial⟩ ⟨?_, hu1⟩
        rw [rootN, if_neg]; · rfl
        rintro ⟨_, _, h3⟩
        simp only [bitN, beq_iff_eq] at h3
        omega
      · have h2' : n / 2 ^ h % 2 = 1 := by
          simp only [beq_eq_false_iff_ne, ne_eq] at h2; omega
        refine xr 1 rfl ?_
        refine exec_dw [] rfl rfl rfl ?_
        repeat (first | refine dau rfl (fun _ => rfl) ?_ | refine dga rfl (fun _ => rfl) (fun _ => rfl) ?_ | refine dgs (fun _ => rfl) ?_)
        refine dw_ok (u64V (beginN h (rowsN n))) (fun vs W hu _ => (ok_call rfl (begin_ok A h (rowsN n) (by omega) hle)).mono fun u W' hx => ⟨hx.2, hx.1⟩) ?_
        repeat (first | refine dau rfl (fun _ => rfl) ?_ | refine dga rfl (fun _ => rfl) (fun _ => rfl) ?_ | refine dgs (fun _ => rfl) ?_)
        refine dw_keep _ (fun vs W _ _ => ok_shrU (a := n) (j := h) rfl rfl hn) ?_
        refine dw_keep _ (fun vs W _ _ => ok_shrU (a := n / 2 ^ h) (j := 1) rfl rfl (Nat.lt_of_le_of_lt (Nat.div_le_self _ _) hn)) ?_
        refine dw_keep _ (fun vs W _ _ => ok_shlU (a := n / 2 ^ h / 2 ^ 1) (j := 1) rfl rfl) ?_
        refine dw_end fun vs W hu2 _ => ?_
        have e5 : n / 2 ^ h / 2 ^ 1 = n / 2 ^ (h + 1) := by rw [Nat.div_div_eq_div_mul, ← Nat.pow_add]
        have hd : n / 2 ^ (h + 1) ≤ n / 2 ^ 1 := Nat.div_le_div_left (Nat.pow_le_pow_right (by omega) (by omega)) (by omega)
        have e6 : n / 2 ^ (h + 1) * 2 ^ 1 % 18446744073709551616 = n / 2 ^ (h + 1) * 2 := by rw [Nat.mod_eq_of_lt]; omega
        rw [e5, e6]
        have hroot : rootN n h = some (beginN h (rowsN n) + n / 2 ^ (h + 1) * 2) := by rw [rootN, if_pos ⟨h63, by omega, by simp [bitN, h2']⟩]
        have hb : beginN h (rowsN n) + n / 2 ^ (h + 1) * 2 < 18446744073709551616 := by
          have := rootN_lt hroot
          have := pow64 hle
          omega
        refine xpu (pv_addU (a := beginN h (rowsN n)) (b := n / 2 ^ (h + 1) * 2) rfl rfl hb) rfl ?_
        refine xr 2 rfl ?_
        refine xre hc [_, _] ⟨rfl, rfl, trivial⟩ ⟨?_, hu1.trans hu2⟩
        rw [hroot]; rfl
  · rw [if_neg h63]
    refine xr 26 rfl ?_
    refine xre hc [_, _] ⟨rfl, rfl, trivial⟩ ⟨?_, hu1⟩
    rw [rootN, if_neg (by omega)]; rfl
end
end Go.Sp

namespace Go.Sp
section
variable {P : Program} {f : Nat} {w : World}
abbrev ptrV' (b : Nat) : Value := .pointer (some ⟨b, 0, none⟩)
/-- a slice handed out: its block -/
theorem SlC.at {w : World} {v : Value} {N len : Nat} {cs : List Value} (h : SlC w v N len cs) (h0 : 0 < len) : ∃ b o cap, v = .slice (some ⟨b, o, none⟩) len cap ∧ Mem w b o cs ∧ len ≤ cap := by
  rcases h with ⟨_, h, _⟩ | ⟨b, o, cap, h1, h2, _, h3⟩
  · omega
  · exact ⟨b, o, cap, h1, h2, h3⟩
theorem SlC.lenS {e : Env} {v : Value} {N len : Nat} {cs : List Value} {x : Operand} (h : SlC w v N len cs) (hx : e.ev x = some v) : pureV e (.lenS x) = some (intV' len) := by
  rcases h with ⟨rfl | ⟨b, o, s, cap, rfl⟩, rfl, _⟩ | ⟨b, o, cap, rfl, _⟩ <;> simp [pureV, hx]
theorem SlC.nil_or {v : Value} {N len : Nat} {cs : List Value} (h : SlC w v N len cs) : (v = .slice none 0 0 ∧ len = 0 ∧ cs = []) ∨ ∃ a l cap, v = .slice (some a) l cap := by
  rcases h with ⟨rfl | ⟨b, o, s, cap, rfl⟩, h1, h2⟩ | ⟨b, o, cap, rfl, _⟩
  · exact .inl ⟨rfl, h1, h2⟩
  · exact .inr ⟨_, _, _, rfl⟩
  · exact .inr ⟨_, _, _, rfl⟩
/-- slices.Values: what its function yields -/
theorem values1_ok (h : Has P f b_slices_Values_uint64_uint64_1) {bs : Nat} {v : Value} {l : List Nat} (hB : Blk w bs [v]) (hS : SlC w v 1 l.length (l.map u64V)) (hl : l.length < 2 ^ 62) (hbl : ∀ b ∈ blkOf v, b < w.heap.size) :
    SeqOK P f [ptrV' bs] w (bs :: blkOf v) [] (fun q => [u64V q]) l := by
  refine SeqOK.of_ret fun S y n0 ws loc J Jx s0 hJ hJx h0 hn0 hl0 hwr hrd hrounds => ?_
  obtain ⟨hr1, hr2, hr3⟩ := hrd bs (by simp)
  refine Ret.of_exec h (Nat.le_of_ble_eq_true rfl) fun c hc => ?_
  dsimp only [b_slices_Values_uint64_uint64_1, argEnv, ym, yo, yg, ys, yt, yd, ye]
  refine exec_load1 (b := bs) (o := 0) rfl rfl (hB.cell rfl) ?_
  refine xpu (hS.lenS rfl) rfl ?_
  refine xr 2 rfl ?_
  refine xlo (S := Nat × S) (fun s W => s.1 ≤ l.length ∧ J s.1 s.2 W ∧ SlC W v 1 l.length (l.map u64V) ∧ (∀ b ∈ blkOf v, b ∉ ws ++ loc s.2 ∧ b < W.heap.size) ∧ (∀ b ∈ ws ++ loc s.2, b < W.heap.size))
    (fun s => [(0, .func (.yield y) #[] #[]), (5, v), (6, intV' l.length), (7, intV' s.1)]) (fun s => l.length - s.1) (0, s0)
    ⟨Nat.zero_le _, h0, hS, fun b hb => ?_, hl0⟩ ⟨rfl, rfl, rfl, rfl, trivial⟩ ?_
  · obtain ⟨h1, h2, h3⟩ := hrd b (by simp [hb])
    exact ⟨by simp [h2, h3], h1⟩
  rintro ⟨i, s⟩ W ⟨hi, hJi, hSl, hbv, hlw⟩
  simp only at hi hJi hbv hlw
  refine xr 1 rfl ?_
  refine exec_cond rfl (fun h1 => ?_) (fun h1 => ?_)
  · simp only [decide_eq_true_eq] at h1
    have hil : i < l.length := by omega
    obtain ⟨q, hq⟩ : ∃ q, l[i]? = some q := ⟨_, List.getElem?_eq_getElem hil⟩
    obtain ⟨b, o, cap, rfl, hm, hc'⟩ := hSl.at (by omega)
    refine xr 2 rfl ?_
    refine xju (ok_iaddr rfl rfl i rfl hil) rfl ?_
    refine exec_load1 (b := b) (o := o + i * 1) (v := u64V q) rfl rfl (by rw [Nat.mul_one]; exact hm i _ (by simp [hq])) ?_
    refine xr 3 rfl ?_
    refine exec_yield (l := y) (vs := [u64V q]) rfl rfl rfl (hrounds i s W q hJi hq hlw) ?_
    rintro go W1 ⟨s1, hgo, hu1, hfr, hlt⟩
    have hbn := hbv b (by simp [blkOf])
    cases go with
    | false =>
      refine xr 2 rfl ?_
      exact xre hc [] trivial (.inr ⟨s1, hgo⟩)
    | true =>
      simp only [if_true] at hgo
      refine xr 5 rfl ?_
      refine xpu (pv_addI (a := i) (b := 1) rfl rfl (by omega)) rfl ?_
      refine xr 1 rfl ?_
      have z1 := hu1.size
      refine xag (i + 1, s1) ⟨hil, hgo, hSl.upd hu1 (fun b' hb' => (hbv b' hb').1), fun b' hb' => ⟨?_, by have := (hbv b' hb').2; omega⟩, ?_⟩ (by show l.length - (i + 1) < l.length - i; omega) ⟨rfl, rfl, rfl, rfl, trivial⟩
      · obtain ⟨h2, h3⟩ := hbv b' hb'
        simp only [List.mem_append, not_or] at h2 ⊢
        refine ⟨h2.1, fun hm => ?_⟩
        rcases hfr _ hm with h4 | h4
        · exact h2.2 h4
        · omega
      · intro b' hb'
        rcases List.mem_append.1 hb' with h2 | h2
        · have := hlw b' (List.mem_append_left _ h2); omega
        · exact hlt b' h2
  · simp only [decide_eq_false_iff_not] at h1
    have : i = l.length := by omega
    subst this
    refine xr 2 rfl ?_
    exact exec_end hc [] trivial (.inl ⟨s, hJi⟩)
/-- slices.Backward: numbers and values, the last first -/
theorem backward1_ok (h : Has P f b_slices_Backward_uint64_uint64_1) {bs : Nat} {v : Value} {l : List Nat} (hB : Blk w bs [v]) (hS : SlC w v 1 l.length (l.map u64V)) (hl : l.length < 2 ^ 62) (hbl : ∀ b ∈ blkOf v, b < w.heap.size) :
    SeqOK P f [ptrV' bs] w (bs :: blkOf v) [] (fun q : Nat × Nat => [intV' q.1, u64V q.2]) (l.zipIdx.map (fun p => (p.2, p.1))).reverse := by
  refine SeqOK.of_ret fun S y n0 ws loc J Jx s0 hJ hJx h0 hn0 hl0 hwr hrd hrounds => ?_
  have hlenr : (l.zipIdx.map (fun p : Nat × Nat => (p.2, p.1))).reverse.length = l.length := by simp
  refine Ret.of_exec h (Nat.le_of_ble_eq_true rfl) fun c hc => ?_
  dsimp only [b_slices_Backward_uint64_uint64_1, argEnv, ym, yo, yg, ys, yt, yd, ye]
  refine exec_load1 (b := bs) (o := 0) rfl rfl (hB.cell rfl) ?_
  refine xpu (hS.lenS rfl) rfl ?_
  refine xpu (pv_subZ (a := (l.length : Int)) (b := 1) rfl rfl (by omega) (by omega)) rfl ?_
  refine xr 2 rfl ?_
  refine xlo (S := Nat × S) (fun s W => s.1 ≤ l.length ∧ J s.1 s.2 W ∧ Blk W bs [v] ∧ SlC W v 1 l.length (l.map u64V) ∧ (∀ b ∈ bs :: blkOf v, b ∉ ws ++ loc s.2 ∧ b < W.heap.size) ∧ (∀ b ∈ ws ++ loc s.2, b < W.heap.size))
    (fun s => [(0, .func (.yield y) #[] #[]), (1, ptrV' bs), (3, .int .i64 ((l.length : Int) - 1 - s.1))]) (fun s => l.length - s.1) (0, s0)
    ⟨Nat.zero_le _, h0, hB, hS, fun b hb => ?_, hl0⟩ ⟨rfl, rfl, by simp [Env.get], trivial⟩ ?_
  · obtain ⟨h1, h2, h3⟩ := hrd b hb
    exact ⟨by simp [h2, h3], h1⟩
  rintro ⟨i, s⟩ W ⟨hi, hJi, hBi, hSl, hbv, hlw⟩
  simp only at hi hJi hbv hlw
  refine xr 2 rfl ?_
  refine exec_cond rfl (fun h1 => ?_) (fun h1 => ?_)
  · simp only [ge_iff_le, decide_eq_true_eq] at h1
    have hil : i < l.length := by omega
    have hjl : l.length - 1 - i < l.length := by omega
    obtain ⟨q, hq⟩ : ∃ q, l[l.length - 1 - i]? = some q := ⟨_, List.getElem?_eq_getElem hjl⟩
    have hx : (l.zipIdx.map (fun p : Nat × Nat => (p.2, p.1))).reverse[i]? = some (l.length - 1 - i, q) := by
      rw [List.getElem?_reverse (by simpa using hil)]
      simp [List.getElem?_zipIdx, hq]
    have hcast : ((l.length : Int) - 1 - (i : Int)) = ((l.length - 1 - i : Nat) : Int) := by omega
    rw [hcast]
    obtain ⟨b, o, cap, rfl, hm, hc'⟩ := hSl.at (by omega)
    refine xr 4 rfl ?_
    refine exec_load1 (b := bs) (o := 0) rfl rfl (hBi.cell rfl) ?_
    refine xr 1 rfl ?_
    refine xju (ok_iaddr rfl rfl (l.length - 1 - i) rfl hjl) rfl ?_
    refine exec_load1 (b := b) (o := o + (l.length - 1 - i) * 1) (v := u64V q) rfl rfl (by rw [Nat.mul_one]; exact hm _ _ (by simp [hq])) ?_
    refine exec_yield (l := y) (vs := [intV' (l.length - 1 - i), u64V q]) rfl rfl rfl (hrounds i s W _ hJi hx hlw) ?_
    rintro go W1 ⟨s1, hgo, hu1, hfr, hlt⟩
    cases go with
    | false =>
      refine xr 2 rfl ?_
      exact xre hc [] trivial (.inr ⟨s1, hgo⟩)
    | true =>
      simp only [if_true] at hgo
      refine xr 6 rfl ?_
      refine xpu (pv_subZ (a := ((l.length - 1 - i : Nat) : Int)) (b := 1) rfl rfl (by omega) (by omega)) rfl ?_
      refine xr 1 rfl ?_
      have z1 := hu1.size
      refine xag (i + 1, s1) ⟨hil, hgo, hBi.upd hu1 (hbv bs (by simp)).1, hSl.upd hu1 (fun b' hb' => (hbv b' (by simp [hb'])).1), fun b' hb' => ⟨?_, by have := (hbv b' hb').2; omega⟩, ?_⟩ (by show l.length - (i + 1) < l.length - i; omega) ⟨rfl, rfl, ?_, trivial⟩
      · obtain ⟨h2, h3⟩ := hbv b' hb'
        simp only [List.mem_append, not_or] at h2 ⊢
        refine ⟨h2.1, fun hm => ?_⟩
        rcases hfr _ hm with h4 | h4
        · exact h2.2 h4
        · omega
      · intro b' hb'
        rcases List.mem_append.1 hb' with h2 | h2
        · have := hlw b' (List.mem_append_left _ h2); omega
        · exact hlt b' h2
      · exact congrArg (fun z => some (Value.int .i64 z)) (by show (((l.length - 1 - i : Nat) : Int) - 1) = (l.length : Int) - 1 - ((i + 1 : Nat) : Int); omega)
  · simp only [ge_iff_le, decide_eq_false_iff_not] at h1
    have : i = l.length := by omega
    subst this
    refine xr 2 rfl ?_
    exact exec_end hc [] trivial (.inl ⟨s, by rw [hlenr]; exact hJi⟩)
end
end Go.Sp

namespace Go.Sp
def firstW : List Nat := [7640891576956012808, 13503953896175478587, 4354685564936845355, 11912009170470909681, 5840696475078001361, 11170449401992604703, 2270897969802886507, 6620516959819538809]
def constW : List Nat := [4794697086780616226, 8158064640168781261, 13096744586834688815, 16840607885511220156, 4131703408338449720, 6480981068601479193, 10538285296894168987, 12329834152419229976, 15566598209576043074, 1334009975649890238, 2608012711638119052, 6128411473006802146, 8268148722764581231, 9286055187155687089, 11230858885718282805, 13951009754708518548, 16472876342353939154, 17275323862435702243, 1135362057144423861, 2597628984639134821, 3308224258029322869, 5365058923640841347, 6679025012923562964, 8573033837759648693, 10970295158949994411, 12119686244451234320, 12683024718118986047, 13788192230050041572, 14330467153632333762, 15395433587784984357, 489312712824947311, 1452737877330783856, 2861767655752347644, 3322285676063803686, 5560940570517711597, 5996557281743188959, 7280758554555802590, 8532644243296465576, 9350256976987008742, 10552545826968843579, 11727347734174303076, 12113106623233404929, 14000437183269869457, 14369950271660146224, 15101387698204529176, 15463397548674623760, 17586052441742319658, 1182934255886127544, 1847814050463011016, 2177327727835720531, 2830643537854262169, 3796741975233480872, 4115178125766777443, 5681478168544905931, 6601373596472566643, 7507060721942968483, 8399075790359081724, 8693463985226723168, 9568029438360202098, 10144078919501101548, 10430055236837252648, 11840083180663258601, 13761210420658862357, 14299343276471374635, 14566680578165727644, 15097957966210449927, 16922976911328602910, 17689382322260857208, 500013540394364858, 748580250866718886, 1242879168328830382, 1977374033974150939, 2944078676154940804, 3659926193048069267, 4368137639120453308, 4836135668995329356, 5532061633213252278, 6448918945643986474, 6902733635092675308, 7801388544844847127]
def rotr (x n : Nat) : Nat := x * 2 ^ (64 - n) % 18446744073709551616 ||| x / 2 ^ n
/-- of eight bytes a word -/
def wordN (b : List Nat) : Nat := b.foldl (fun w x => w * 256 % 18446744073709551616 ||| x) 0
/-- of a word eight bytes -/
def layN (w : Nat) : List Nat := (List.range 8).map fun i => w / 2 ^ (56 - 8 * i) % 256
def nextW (w : List Nat) : Nat :=
  ((((rotr (w.getD (w.length - 2) 0) 19 ^^^ rotr (w.getD (w.length - 2) 0) 61 ^^^ w.getD (w.length - 2) 0 / 2 ^ 6) + w.getD (w.length - 7) 0) % 18446744073709551616 +
    (rotr (w.getD (w.length - 15) 0) 1 ^^^ rotr (w.getD (w.length - 15) 0) 8 ^^^ w.getD (w.length - 15) 0 / 2 ^ 7)) % 18446744073709551616 + w.getD (w.length - 16) 0) % 18446744073709551616
def growW : Nat → List Nat → List Nat
  | 0, w => w
  | k + 1, w => growW k (w ++ [nextW w])
def words16 (b : List Nat) : List Nat := (List.range 16).map fun t => wordN ((b.drop (8 * t)).take 8)
def spreadN (b : List Nat) : List Nat := growW 64 (words16 b)
def notW (x : Nat) : Nat := 18446744073709551615 - x
def roundN (v : List Nat) (k w : Nat) : List Nat :=
  match v with
  | [a, b, c, d, e, f, g, h] =>
    let t1 := ((((h + (rotr e 14 ^^^ rotr e 18 ^^^ rotr e 41)) % 18446744073709551616 + (e &&& f ^^^ notW e &&& g)) % 18446744073709551616 + k) % 18446744073709551616 + w) % 18446744073709551616
    let t2 := ((rotr a 28 ^^^ rotr a 34 ^^^ rotr a 39) + (a &&& b ^^^ a &&& c ^^^ b &&& c)) % 18446744073709551616
    [(t1 + t2) % 18446744073709551616, a, b, c, (d + t1) % 18446744073709551616, e, f, g]
  | _ => v
def roundsN (v : List Nat) : List Nat → List Nat → List Nat
  | k :: ks, w :: ws => roundsN (roundN v k w) ks ws
  | _, _ => v
def takeN (h : List Nat) (b : List Nat) : List Nat := List.zipWith (fun x y => (x + y) % 18446744073709551616) h (roundsN h constW (spreadN b))
def padN (n : Nat) : Nat := (112 + 128 - (n + 1) % 128) % 128
def filledN (b : List Nat) : List Nat := b ++ [128] ++ List.replicate (padN b.length) 0 ++ layN (b.length / 2 ^ 61) ++ layN (b.length * 8 % 18446744073709551616)
def takesN (h : List Nat) : Nat → List Nat → List Nat
  | 0, _ => h
  | k + 1, b => takesN (takeN h (b.take 128)) k (b.drop 128)
def digestN (h b : List Nat) : List Nat := (takesN h ((filledN b).length / 128) (filledN b)).flatMap layN
def wordsN : List Nat := (List.range 8).map fun i => wordN (((digestN (firstW.map (· ^^^ 11936128518282651045)) [83, 72, 65, 45, 53, 49, 50, 47, 50, 53, 54]).drop (8 * i)).take 8)
def sum256N (b : List Nat) : List Nat := (digestN wordsN b).take 32
end Go.Sp

namespace Go.Sp
abbrev u8N (n : Nat) : Value := .int .u8 (n : Int)
theorem rotr_lt (x n : Nat) (hx : x < 18446744073709551616) : rotr x n < 18446744073709551616 := by
  unfold rotr
  exact Nat.or_lt_two_pow (n := 64) (Nat.mod_lt _ (by decide)) (Nat.lt_of_le_of_lt (Nat.div_le_self _ _) hx)
section
variable {P : Program} {f : Nat} {w : World}
theorem rot_ok (h : Has P f b_math_bits_RotateLeft64) (x n : Nat) (hx : x < 18446744073709551616) (h0 : 0 < n) (h1 : n < 64) : RetV P f [u64V x, .int .i64 (-(n : Int))] w (u64V (rotr x n)) := by
  refine Ret.of_exec h (Nat.le_of_ble_eq_true rfl) fun c hc => ?_
  dsimp only [b_math_bits_RotateLeft64, argEnv, ym, yo, yg, ys, yt, yd, ye]
  refine xr 2 rfl ?_
  refine xpu (v := u64V (18446744073709551616 - n)) ?_ rfl ?_
  · show some (Value.int .u64 (IntKind.u64.wrap _)) = _
    rw [wrap_u64]
    exact congrArg (fun z => some (Value.int .u64 z)) (by omega)
  refine xpu (pv_andU (a := 18446744073709551616 - n) (b := 63) rfl rfl (by omega) (by omega)) rfl ?_
  have e1 : (18446744073709551616 - n) &&& 63 = 64 - n := by
    have := and_mask (18446744073709551616 - n) 6
    simp only [show (2 : Nat) ^ 6 - 1 = 63 from rfl] at this
    rw [this]; omega
  rw [e1]
  refine xr 3 rfl ?_
  refine xju (ok_shlU (a := x) (j := 64 - n) rfl rfl) rfl ?_
  refine xr 2 rfl ?_
  refine xpu (pv_subU (a := 64) (b := 64 - n) rfl rfl (by omega) (by omega)) rfl ?_
  rw [show 64 - (64 - n) = n by omega]
  refine xju (ok_shrU (a := x) (j := n) rfl rfl hx) rfl ?_
  refine xpu (pv_orU (a := x * 2 ^ (64 - n) % 18446744073709551616) (b := x / 2 ^ n) rfl rfl (Nat.mod_lt _ (by decide)) (Nat.lt_of_le_of_lt (Nat.div_le_self _ _) hx)) rfl ?_
  refine xr 1 rfl ?_
  exact xre hc [_] ⟨rfl, trivial⟩ ⟨rfl, Upd.refl _ _⟩
theorem right_ok {g : Nat} (hg : Has P g b_math_bits_RotateLeft64) (h : Has P f (b_sha512_right g)) (x n : Nat) (hx : x < 18446744073709551616) (h0 : 0 < n) (h1 : n < 64) : RetV P f [u64V x, intV' n] w (u64V (rotr x n)) := by
  refine Ret.of_exec h (Nat.le_of_ble_eq_true rfl) fun c hc => ?_
  dsimp only [b_sha512_right, argEnv, ym, yo, yg, ys, yt, yd, ye]
  refine xr 3 rfl ?_
  refine xpu (v := .int .i64 (-(n : Int))) ?_ rfl ?_
  · show some (Value.int .i64 (IntKind.i64.wrap _)) = _
    rw [wrap_i64 (by omega) (by omega)]
    exact congrArg (fun z => some (Value.int .i64 z)) (by omega)
  refine xca rfl rfl (rot_ok hg x n hx h0 h1) ?_
  rintro v w1 ⟨rfl, hu⟩
  refine xr 1 rfl ?_
  exact xre hc [_] ⟨rfl, trivial⟩ ⟨rfl, hu⟩
theorem or_byte {a b : Nat} (hb : b < 256) : a * 256 % 18446744073709551616 ||| b < 18446744073709551616 :=
  Nat.or_lt_two_pow (n := 64) (Nat.mod_lt _ (by decide)) (by omega)
theorem wordN_lt (l : List Nat) (h : ∀ x ∈ l, x < 256) : wordN l < 18446744073709551616 := by
  have : ∀ (l : List Nat) (a : Nat), a < 18446744073709551616 → (∀ x ∈ l, x < 256) → l.foldl (fun w x => w * 256 % 18446744073709551616 ||| x) a < 18446744073709551616 := by
    intro l
    induction l with
    | nil => intro a ha _; exact ha
    | cons x l ih => intro a ha hx; exact ih _ (or_byte (hx x List.mem_cons_self)) fun y hy => hx y (List.mem_cons_of_mem _ hy)
  exact this l 0 (by omega) h
theorem word_ok (h : Has P f b_sha512_word) {v : Value} {len : Nat} {l : List Nat} (hS : SlC w v 1 len (l.map u8N)) (hl : 8 ≤ l.length) (hll : l.length = len) (hb : ∀ x ∈ l, x < 256) : RetV P f [v] w (u64V (wordN (l.take 8))) := by
  refine Ret.of_exec h (Nat.le_of_ble_eq_true rfl) fun c hc => ?_
  dsimp only [b_sha512_word, argEnv, ym, yo, yg, ys, yt, yd, ye]
  refine xr 4 rfl ?_
  obtain ⟨b, o, cap, rfl, hm, hcap⟩ := hS.at (by omega)
  refine xlo (S := Nat) (fun i W => i ≤ 8 ∧ Ext w W) (fun i => [(0, .slice (some ⟨b, o, none⟩) len cap), (3, u64V (wordN (l.take i))), (5, intV' i)]) (fun i => 8 - i) 0
    ⟨by omega, Upd.refl _ _⟩ ⟨rfl, rfl, rfl, trivial⟩ ?_
  rintro i W ⟨hi, hE⟩
  refine xr 1 rfl ?_
  refine exec_cond rfl (fun h1 => ?_) (fun h1 => ?_)
  · simp only [decide_eq_true_eq] at h1
    have hi8 : i < 8 := by omega
    obtain ⟨x, hx⟩ : ∃ x, l[i]? = some x := ⟨_, List.getElem?_eq_getElem (by omega)⟩
    have hx256 := hb x (List.mem_of_getElem? hx)
    have hw := wordN_lt (l.take i) (fun y hy => hb y (List.mem_of_mem_take hy))
    refine xr 5 rfl ?_
    refine xju (ok_shlU (a := wordN (l.take i)) (j := 8) rfl rfl) rfl ?_
    refine xr 2 rfl ?_
    refine xju (ok_iaddr rfl rfl i rfl (by omega)) rfl ?_
    refine exec_load1 (b := b) (o := o + i * 1) (v := u8N x) rfl rfl (by rw [Nat.mul_one]; exact (hm.upd hE) i _ (by simp [hx])) ?_
    refine xpu (pv_toU (a := x) rfl (by omega)) rfl ?_
    refine xpu (pv_orU (a := wordN (l.take i) * 2 ^ 8 % 18446744073709551616) (b := x) rfl rfl (Nat.mod_lt _ (by decide)) (by omega)) rfl ?_
    refine xr 3 rfl ?_
    refine xpu (pv_addI (a := i) (b := 1) rfl rfl (by omega)) rfl ?_
    refine xr 1 rfl ?_
    refine xag (i + 1) ⟨by omega, hE⟩ (by omega) ⟨rfl, ?_, rfl, trivial⟩
    refine congrArg (fun z : Nat => some (u64V z)) ?_
    rw [List.take_add_one, hx]
    simp [wordN, List.foldl_append]
  · simp only [decide_eq_false_iff_not] at h1
    have : i = 8 := by omega
    subst this
    refine xr 4 rfl ?_
    exact xre hc [_] ⟨rfl, trivial⟩ ⟨rfl, hE⟩
theorem lay_ok {T : Nat} (h : Has P f (b_sha512_lay T)) {v : Value} {l : List Nat} (x : Nat) (hO : OwnC w v 1 l.length (l.map u8N)) (hlen : l.length < 2 ^ 40) (hx : x < 18446744073709551616) :
    Ret P f [v, u64V x] w fun v' w' => OwnC w' v' 1 (l.length + 8) ((l ++ layN x).map u8N) ∧ Upd (blkOf v) w w' ∧ ∀ b ∈ blkOf v', b ∈ blkOf v ∨ w.heap.size ≤ b := by
  refine Ret.of_exec h (Nat.le_of_ble_eq_true rfl) fun c hc => ?_
  dsimp only [b_sha512_lay, argEnv, ym, yo, yg, ys, yt, yd, ye]
  refine xr 3 rfl ?_
  have hlt : ∀ i, ((layN x).take i).length ≤ 8 := by intro i; simp [layN]; omega
  refine xlo (S := Nat × Value) (fun s W => s.1 ≤ 8 ∧ OwnC W s.2 1 (l.length + s.1) ((l ++ (layN x).take s.1).map u8N) ∧ Upd (blkOf v) w W ∧ ∀ b ∈ blkOf s.2, b ∈ blkOf v ∨ w.heap.size ≤ b) (fun s => [(0, s.2), (1, u64V x), (6, intV' s.1)]) (fun s => 8 - s.1) (0, v)
    ⟨by omega, by simpa using hO, Upd.refl _ _, fun b hb => .inl hb⟩ ⟨rfl, rfl, rfl, trivial⟩ ?_
  rintro ⟨i, v1⟩ W ⟨hi, hO1, hu, hf⟩
  simp only at hi hO1 hf
  refine xr 1 rfl ?_
  refine exec_cond rfl (fun h1 => ?_) (fun h1 => ?_)
  · simp only [decide_eq_true_eq] at h1
    have hi8 : i < 8 := by omega
    refine xr 7 rfl ?_
    refine xpu (v := intV' (8 * i)) ?_ rfl ?_
    · show some (Value.int .i64 (IntKind.i64.wrap _)) = _
      rw [wrap_i64 (by omega) (by omega)]
      exact congrArg (fun z => some (Value.int .i64 z)) (by omega)
    refine xpu (pv_subI (a := 56) (b := 8 * i) rfl rfl (by omega) (by omega)) rfl ?_
    refine xju (ok_shrU (a := x) (j := 56 - 8 * i) rfl rfl hx) rfl ?_
    refine xpu (v := u8N (x / 2 ^ (56 - 8 * i) % 256)) ?_ rfl ?_
    · show some (Value.int .u8 (IntKind.u8.wrap _)) = _
      rw [wrap_u8]
      exact congrArg (fun z => some (Value.int .u8 z)) (by omega)
    refine exec_litL (N := 1) rfl rfl rfl rfl ?_
    intro b w1 hb1 hs1 hu1 hO2
    have hz := hu.size
    refine exec_ok (ok_append (N := 1) rfl rfl (hO1.upd hu1 (by simp)) hO2.sl rfl (by decide) (by omega) rfl) rfl ?_
    rintro v2 w2 ⟨hO3, hu2, hf2, _⟩
    refine xr 3 rfl ?_
    refine xpu (pv_addI (a := i) (b := 1) rfl rfl (by omega)) rfl ?_
    refine xr 1 rfl ?_
    have ht : (layN x).take (i + 1) = (layN x).take i ++ [x / 2 ^ (56 - 8 * i) % 256] := by
      rw [List.take_add_one]
      simp [layN, hi8]
    refine xag (i + 1, v2) ⟨by omega, ?_, ?_, ?_⟩ (by show 8 - (i + 1) < 8 - i; omega) ⟨rfl, rfl, rfl, trivial⟩
    · show OwnC w2 v2 1 (l.length + (i + 1)) _
      rw [ht, ← List.append_assoc, List.map_append]
      exact hO3
    · exact (hu.trans hu1).trans hu2 (fun b hb => hf b hb)
    · intro b hb
      rcases hf2 b hb with h4 | h4
      · exact hf b h4
      · right; have := hu1.size; omega
  · simp only [decide_eq_false_iff_not] at h1
    have : i = 8 := by omega
    subst this
    refine xr 4 rfl ?_
    refine xre hc [_] ⟨rfl, trivial⟩ ⟨?_, hu, hf⟩
    have : (layN x).take 8 = layN x := List.take_of_length_le (by simp [layN])
    rw [this] at hO1
    exact hO1
end
end Go.Sp

namespace Go.Sp
section
variable {P : Program} {f : Nat} {w : World}
/-- a fresh slice comes back -/
abbrev RetS (P : Program) (f : FuncId) (args : List Value) (w : World) (N len : Nat) (cs : List Value) : Prop :=
  Ret P f args w fun v w' => OwnC w' v N len cs ∧ Ext w w' ∧ ∀ b ∈ blkOf v, w.heap.size ≤ b
end
end Go.Sp
