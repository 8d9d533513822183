/- Proved: for every list of steps spinneylaw14.ForestAnew returns true and leaves its argument as it was; no condition. This text: part 3 of 11. -/
import Derived.Test.YtlffmofhoeodfaaDoorW2
namespace Go.Sp
section
variable {P : Program} {n : Nat} {c : Ctx} {D : List Deferred} {is : List Ins} {k : Kont} {e : Env} {w : World} {T : TypeId}
theorem eq_top {u v : Value} {b : Bool} (h : ∀ d : Nat, (Op.equalIn (d + 1) T u v).run P w = .ok b w) : (Op.equal T u v).run P w = .ok b w := h 9999
theorem ok_eq_of {x y : Operand} {u v : Value} {b : Bool} (hx : e.ev x = some u) (hy : e.ev y = some v) (hg : (eqGuard .eql T x y u v).run P w = .ok () w) (hu : ∀ (k : IntKind) (i : Int), u ≠ .int k i) (hs : ∀ s, u ≠ .string s) (hf : ∀ k i, u ≠ .float k i) (hc : ∀ k i j, u ≠ .complex k i j)
    (h : (Op.equal T u v).run P w = .ok b w) : OpOK P (.bin .eql T x y) e w (Just (.bool b) w) :=
  ok_val fun ac hk => by
    have h2 : (binOp .eql T u v).run P w = .ok (.bool b) w := by
      cases u <;> simp_all [binOp]
    simp only [MOp.sem, Env.ok_ev hk hx, Env.ok_ev hk hy, Sem.run_bind, hg, h2, Result.andThen_ok, Sem.run_pure]
theorem ok_ne_of {x y : Operand} {u v : Value} {b : Bool} (hx : e.ev x = some u) (hy : e.ev y = some v) (hg : (eqGuard .neq T x y u v).run P w = .ok () w) (hu : ∀ (k : IntKind) (i : Int), u ≠ .int k i) (hs : ∀ s, u ≠ .string s) (hf : ∀ k i, u ≠ .float k i) (hc : ∀ k i j, u ≠ .complex k i j)
    (h : (Op.equal T u v).run P w = .ok b w) : OpOK P (.bin .neq T x y) e w (Just (.bool (!b)) w) :=
  ok_val fun ac hk => by
    have h2 : (binOp .neq T u v).run P w = .ok (.bool (!b)) w := by
      cases u <;> simp_all [binOp]
    simp only [MOp.sem, Env.ok_ev hk hx, Env.ok_ev hk hy, Sem.run_bind, hg, h2, Result.andThen_ok, Sem.run_pure]
theorem ok_eq_nil {x y : Operand} {p : Option Addr} {E : TypeId} (hT : P.underlying T = some (.pointer E)) (hx : e.ev x = some (.pointer p)) (hy : e.ev y = some (.pointer none)) : OpOK P (.bin .eql T x y) e w (Just (.bool p.isNone) w) := by
  refine ok_eq_of hx hy (by simp [eqGuard]) (by simp) (by simp) (by simp) (by simp) ?_
  refine eq_top fun d => ?_
  cases p <;> simp [Op.equalIn, run_underlying hT]
theorem ok_ne_nil {x y : Operand} {p : Option Addr} {E : TypeId} (hT : P.underlying T = some (.pointer E)) (hx : e.ev x = some (.pointer p)) (hy : e.ev y = some (.pointer none)) : OpOK P (.bin .neq T x y) e w (Just (.bool (!p.isNone)) w) := by
  refine ok_ne_of hx hy (by simp [eqGuard]) (by simp) (by simp) (by simp) (by simp) ?_
  refine eq_top fun d => ?_
  cases p <;> simp [Op.equalIn, run_underlying hT]
theorem ok_ne_nilmap {x y : Operand} {p : Option Nat} {K E : TypeId} (hT : P.underlying T = some (.map K E)) (hx : e.ev x = some (.map p)) (hy : e.ev y = some (.map none)) : OpOK P (.bin .neq T x y) e w (Just (.bool (!p.isNone)) w) := by
  refine ok_ne_of hx hy (by simp [eqGuard]) (by simp) (by simp) (by simp) (by simp) ?_
  refine eq_top fun d => ?_
  cases p <;> simp [Op.equalIn, run_underlying hT]
theorem ok_eq_nilslice {x y : Operand} {p : Option Addr} {l m : Nat} {E : TypeId} (hT : P.underlying T = some (.slice E)) (hx : e.ev x = some (.slice p l m)) (hy : e.ev y = some (.slice none 0 0)) : OpOK P (.bin .eql T x y) e w (Just (.bool p.isNone) w) := by
  refine ok_eq_of hx hy (by simp [eqGuard]) (by simp) (by simp) (by simp) (by simp) ?_
  refine eq_top fun d => ?_
  cases p <;> simp [Op.equalIn, run_underlying hT]
theorem ok_ne_bool {x y : Operand} {a b : Bool} (hT : P.underlying T = some .bool) (hx : e.ev x = some (.bool a)) (hy : e.ev y = some (.bool b)) : OpOK P (.bin .neq T x y) e w (Just (.bool (!(a == b))) w) := by
  refine ok_ne_of hx hy (by simp [eqGuard]) (by simp) (by simp) (by simp) (by simp) ?_
  refine eq_top fun d => ?_
  simp [Op.equalIn, run_underlying hT]
end
end Go.Sp

namespace Go.Sp
def b_sha512_Sum256 (f_sha512_Words f_sha512_digest : Nat) (T_api_Hash T__64uint8 : Nat) : Body := { n := 10, res := [.cell true 32 2], code := [
    .op none (some 2) (.new T_api_Hash (rle [(32, .int .u8 0)])),
    .op none (some 4) (.call f_sha512_Words #[]),
    .op none (some 5) (.mov (.tmp 0)),
    .op none (some 6) (.call f_sha512_digest #[(.tmp 4), (.tmp 5)]),
    .op none (some 3) (.new T__64uint8 (rle [(64, .int .u8 0)])),
    .op none none (.store 64 (.tmp 3) (.tmp 6)),
    .op none (some 7) (.slA 64 1 (.tmp 3) none (some (.const (.int .i64 32)))),
    .op none (some 8) (.s2arr 32 (.tmp 7)),
    .op none (some 9) (.loadN 32 (.tmp 8)),
    .op none none (.store 32 (.tmp 2) (.tmp 9)),
    .ret] }
def b_leaf_Parent (f_leaf_PairText f_sha512_Sum256 : Nat) (T_api_Hash : Nat) : Body := { n := 9, res := [.cell true 32 4], code := [
    .op none (some 2) (.box T_api_Hash (.tmp 0)),
    .op none (some 3) (.box T_api_Hash (.tmp 1)),
    .op none (some 4) (.new T_api_Hash (rle [(32, .int .u8 0)])),
    .op none (some 5) (.loadN 32 (.tmp 2)),
    .op none (some 6) (.loadN 32 (.tmp 3)),
    .op none (some 7) (.call f_leaf_PairText #[(.tmp 5), (.tmp 6)]),
    .op none (some 8) (.call f_sha512_Sum256 #[(.tmp 7)]),
    .op none none (.store 32 (.tmp 4) (.tmp 8)),
    .ret] }
def b_leaf_PairText (f_slices_Concat_byte_byte : Nat) (T_api_Hash T_uint8 T_SLuint8 : Nat) : Body := { n := 10, res := [.tmp 4], code := [
    .op none (some 2) (.box T_api_Hash (.tmp 0)),
    .op none (some 3) (.box T_api_Hash (.tmp 1)),
    .op none (some 4) (.mov (.const (.slice none 0 0))),
    .draw [
      ([], none, (some 5), .mkSlice T_uint8 1 (rle [(1, .int .u8 0)]) [(0, 1, (.const (.int .u8 1)))]),
      ([], none, (some 6), .slA 32 1 (.tmp 2) none none),
      ([], none, (some 7), .slA 32 1 (.tmp 3) none none)] [
      .op none (some 8) (.mkSlice T_SLuint8 3 (rle [(3, .slice none 0 0)]) [(0, 1, (.tmp 5)), (1, 1, (.tmp 6)), (2, 1, (.tmp 7))]),
      .op none (some 9) (.call f_slices_Concat_byte_byte #[(.tmp 8)]),
      .op none (some 4) (.mov (.tmp 9))],
    .ret] }
def b_sha512_digest (f_sha512_filled f_slices_Chunk_byte_byte f_sha512_take f_sha512_lay : Nat) (T__8uint64 T__64uint8 : Nat) : Body := { n := 27, res := [.cell true 64 4], code := [
    .op none (some 2) (.box T__8uint64 (.tmp 0)),
    .op none (some 4) (.new T__64uint8 (rle [(64, .int .u8 0)])),
    .op none (some 9) (.mov (.tmp 1)),
    .op none (some 10) (.call f_sha512_filled #[(.tmp 9)]),
    .op none (some 11) (.call f_slices_Chunk_byte_byte #[(.tmp 10), (.const (.int .i64 128))]),
    .block 0 [
      .rangeF (.tmp 11) #[12] [
        .op none (some 5) (.mov (.tmp 12))] [
        .block 1 [
          .op none (some 13) (.loadN 8 (.tmp 2)),
          .op none (some 14) (.mov (.tmp 5)),
          .op none (some 15) (.call f_sha512_take #[(.tmp 13), (.tmp 14)]),
          .op none none (.store 8 (.tmp 2) (.tmp 15))]]],
    .op none (some 6) (.mov (.const (.slice none 0 0))),
    .op none (some 16) (.loadN 8 (.tmp 2)),
    .op none (some 17) (.mov (.const (.int .i64 0))),
    .block 2 [
      .loop [
        .op none (some 18) (.ibin .lss (.tmp 17) (.const (.int .i64 8))),
        .cond (.tmp 18) [] [
          .exit 2],
        .block 3 [
          .op none (some 19) (.idx 8 1 false (.tmp 16) (.tmp 17)),
          .op none (some 8) (.mov (.tmp 19)),
          .op none (some 20) (.mov (.tmp 6)),
          .op none (some 21) (.mov (.tmp 8)),
          .op none (some 22) (.call f_sha512_lay #[(.tmp 20), (.tmp 21)]),
          .op none (some 6) (.mov (.tmp 22))],
        .op none (some 23) (.ibin .add (.tmp 17) (.const (.int .i64 1))),
        .op none (some 17) (.mov (.tmp 23))]],
    .op none (some 24) (.mov (.tmp 6)),
    .op none (some 25) (.s2arr 64 (.tmp 24)),
    .op none (some 26) (.loadN 64 (.tmp 25)),
    .op none none (.store 64 (.tmp 4) (.tmp 26)),
    .ret] }
def b_sha512_Words (g_0 g_1 : Nat) (f_sha512_digest f_sha512_word : Nat) (T__8uint64 T_uint8 T__64uint8 : Nat) : Body := { n := 30, res := [.cell true 8 0], code := [
    .op none (some 0) (.new T__8uint64 (rle [(8, .int .u64 0)])),
    .op none (some 5) (.loadN 8 (.global g_0)),
    .op none (some 1) (.new T__8uint64 (rle [(8, .int .u64 0)])),
    .op none none (.store 8 (.tmp 1) (.tmp 5)),
    .op none (some 6) (.mov (.const (.int .i64 0))),
    .block 0 [
      .loop [
        .op none (some 7) (.ibin .lss (.tmp 6) (.const (.int .i64 8))),
        .cond (.tmp 7) [] [
          .exit 0],
        .block 1 [
          .op none (some 8) (.mov (.tmp 6)),
          .op none (some 2) (.mov (.tmp 8)),
          .op none (some 9) (.mov (.tmp 2)),
          .op none (some 10) (.iaddrA 8 1 (.tmp 1) (.tmp 9)),
          .op none (some 11) (.load1 (.tmp 10)),
          .op none (some 12) (.ibin .xor (.tmp 11) (.const (.int .u64 11936128518282651045))),
          .op none (some 13) (.iaddrA 8 1 (.tmp 1) (.tmp 9)),
          .op none none (.store 1 (.tmp 13) (.tmp 12))],
        .op none (some 14) (.ibin .add (.tmp 6) (.const (.int .i64 1))),
        .op none (some 6) (.mov (.tmp 14))]],
    .op none (some 15) (.loadN 8 (.tmp 1)),
    .op none (some 16) (.mkSlice T_uint8 11 (rle [(11, .int .u8 0)]) [(0, 1, (.const (.int .u8 83))), (1, 1, (.const (.int .u8 72))), (2, 1, (.const (.int .u8 65))), (3, 1, (.const (.int .u8 45))), (4, 1, (.const (.int .u8 53))), (5, 1, (.const (.int .u8 49))), (6, 1, (.const (.int .u8 50))), (7, 1, (.const (.int .u8 47))), (8, 1, (.const (.int .u8 50))), (9, 1, (.const (.int .u8 53))), (10, 1, (.const (.int .u8 54)))]),
    .op none (some 17) (.b2b (.tmp 16)),
    .op none (some 18) (.call f_sha512_digest #[(.tmp 15), (.tmp 17)]),
    .op none (some 3) (.new T__64uint8 (rle [(64, .int .u8 0)])),
    .op none none (.store 64 (.tmp 3) (.tmp 18)),
    .op none (some 19) (.mov (.const (.int .i64 0))),
    .block 2 [
      .loop [
        .op none (some 20) (.ibin .lss (.tmp 19) (.const (.int .i64 8))),
        .cond (.tmp 20) [] [
          .exit 2],
        .block 3 [
          .op none (some 21) (.mov (.tmp 19)),
          .op none (some 4) (.mov (.tmp 21)),
          .op none (some 22) (.mov (.tmp 4)),
          .op none (some 23) (.mov (.tmp 4)),
          .op none (some 24) (.ibin .mul (.const (.int .i64 8)) (.tmp 23)),
          .op none (some 25) (.slA 64 1 (.tmp 3) (some (.tmp 24)) none),
          .op none (some 26) (.call f_sha512_word #[(.tmp 25)]),
          .op none (some 27) (.iaddrA 8 1 (.tmp 1) (.tmp 22)),
          .op none none (.store 1 (.tmp 27) (.tmp 26))],
        .op none (some 28) (.ibin .add (.tmp 19) (.const (.int .i64 1))),
        .op none (some 19) (.mov (.tmp 28))]],
    .op none (some 29) (.loadN 8 (.tmp 1)),
    .op none none (.store 8 (.tmp 0) (.tmp 29)),
    .ret] }
def b_sha512_filled (f_slices_Clone_byte_byte f_sha512_lay : Nat) (T_uint8 : Nat) : Body := { n := 26, res := [.tmp 2], code := [
    .op none (some 2) (.mov (.const (.slice none 0 0))),
    .op none (some 4) (.mov (.tmp 0)),
    .op none (some 5) (.call f_slices_Clone_byte_byte #[(.tmp 4)]),
    .op none (some 6) (.mkSlice T_uint8 1 (rle [(1, .int .u8 0)]) [(0, 1, (.const (.int .u8 128)))]),
    .op none (some 7) (.append T_uint8 1 1 (rle [(1, .int .u8 0)]) (.tmp 5) (.tmp 6)),
    .op none (some 3) (.mov (.tmp 7)),
    .block 0 [
      .loop [
        .op none (some 8) (.mov (.tmp 3)),
        .op none (some 9) (.lenS (.tmp 8)),
        .op none (some 10) (.ibin .rem (.tmp 9) (.const (.int .i64 128))),
        .op none (some 11) (.ibin .neq (.tmp 10) (.const (.int .i64 112))),
        .cond (.tmp 11) [] [
          .exit 0],
        .block 1 [
          .op none (some 12) (.mov (.tmp 3)),
          .op none (some 13) (.mkSlice T_uint8 1 (rle [(1, .int .u8 0)]) [(0, 1, (.const (.int .u8 0)))]),
          .op none (some 14) (.append T_uint8 1 1 (rle [(1, .int .u8 0)]) (.tmp 12) (.tmp 13)),
          .op none (some 3) (.mov (.tmp 14))]]],
    .op none (some 15) (.mov (.tmp 3)),
    .op none (some 16) (.mov (.tmp 0)),
    .op none (some 17) (.lenS (.tmp 16)),
    .op none (some 18) (.toInt .u64 (.tmp 17)),
    .op none (some 19) (.ibin .shr (.tmp 18) (.const (.int .u64 61))),
    .op none (some 20) (.call f_sha512_lay #[(.tmp 15), (.tmp 19)]),
    .op none (some 21) (.mov (.tmp 0)),
    .op none (some 22) (.lenS (.tmp 21)),
    .op none (some 23) (.toInt .u64 (.tmp 22)),
    .op none (some 24) (.ibin .shl (.tmp 23) (.const (.int .u64 3))),
    .op none (some 25) (.call f_sha512_lay #[(.tmp 20), (.tmp 24)]),
    .op none (some 2) (.mov (.tmp 25)),
    .ret] }
def b_sha512_take (g_0 g_1 : Nat) (f_sha512_spread f_sha512_right : Nat) (T__8uint64 : Nat) : Body := { n := 106, res := [.cell true 8 4], code := [
    .op none (some 2) (.box T__8uint64 (.tmp 0)),
    .op none (some 4) (.new T__8uint64 (rle [(8, .int .u64 0)])),
    .op none (some 15) (.loadN 8 (.tmp 2)),
    .op none (some 5) (.new T__8uint64 (rle [(8, .int .u64 0)])),
    .op none none (.store 8 (.tmp 5) (.tmp 15)),
    .op none (some 16) (.mov (.tmp 1)),
    .op none (some 17) (.call f_sha512_spread #[(.tmp 16)]),
    .op none (some 18) (.mov (.const (.int .i64 0))),
    .block 0 [
      .loop [
        .op none (some 19) (.ibin .lss (.tmp 18) (.const (.int .i64 80))),
        .cond (.tmp 19) [] [
          .exit 0],
        .block 1 [
          .op none (some 20) (.mov (.tmp 18)),
          .op none (some 21) (.idx 80 1 false (.tmp 17) (.tmp 18)),
          .op none (some 6) (.mov (.tmp 20)),
          .op none (some 7) (.mov (.tmp 21)),
          .draw [
            ([], none, (some 22), .iaddrA 8 1 (.tmp 5) (.const (.int .i64 0))),
            ([0], none, (some 23), .load1 (.tmp 22)),
            ([], none, (some 24), .iaddrA 8 1 (.tmp 5) (.const (.int .i64 4))),
            ([2], none, (some 25), .load1 (.tmp 24)),
            ([1, 0], none, (some 8), .mov (.tmp 23))] [
            .op none (some 9) (.mov (.tmp 25))],
          .op none (some 26) (.mov (.tmp 9)),
          .op none (some 27) (.call f_sha512_right #[(.tmp 26), (.const (.int .i64 14))]),
          .op none (some 28) (.mov (.tmp 9)),
          .op none (some 29) (.call f_sha512_right #[(.tmp 28), (.const (.int .i64 18))]),
          .op none (some 30) (.ibin .xor (.tmp 27) (.tmp 29)),
          .op none (some 31) (.mov (.tmp 9)),
          .op none (some 32) (.call f_sha512_right #[(.tmp 31), (.const (.int .i64 41))]),
          .op none (some 33) (.ibin .xor (.tmp 30) (.tmp 32)),
          .op none (some 10) (.mov (.tmp 33)),
          .op none (some 34) (.mov (.tmp 8)),
          .op none (some 35) (.call f_sha512_right #[(.tmp 34), (.const (.int .i64 28))]),
          .op none (some 36) (.mov (.tmp 8)),
          .op none (some 37) (.call f_sha512_right #[(.tmp 36), (.const (.int .i64 34))]),
          .op none (some 38) (.ibin .xor (.tmp 35) (.tmp 37)),
          .op none (some 39) (.mov (.tmp 8)),
          .op none (some 40) (.call f_sha512_right #[(.tmp 39), (.const (.int .i64 39))]),
          .op none (some 41) (.ibin .xor (.tmp 38) (.tmp 40)),
          .op none (some 11) (.mov (.tmp 41)),
          .draw [
            ([], none, (some 42), .iaddrA 8 1 (.tmp 5) (.const (.int .i64 7))),
            ([0], none, (some 43), .load1 (.tmp 42)),
            ([], none, (some 44), .mov (.tmp 10)),
            ([1, 2, 0], none, (some 45), .ibin .add (.tmp 43) (.tmp 44)),
            ([], none, (some 46), .mov (.tmp 9)),
            ([], none, (some 47), .iaddrA 8 1 (.tmp 5) (.const (.int .i64 5))),
            ([5], none, (some 48), .load1 (.tmp 47)),
            ([4, 6, 5], none, (some 49), .ibin .and (.tmp 46) (.tmp 48)),
            ([], none, (some 50), .mov (.tmp 9)),
            ([8], none, (some 51), .un .xor (.tmp 50)),
            ([], none, (some 52), .iaddrA 8 1 (.tmp 5) (.const (.int .i64 6))),
            ([10], none, (some 53), .load1 (.tmp 52)),
            ([9, 11, 8, 10], none, (some 54), .ibin .and (.tmp 51) (.tmp 53)),
            ([7, 12, 4, 6, 5, 9, 11, 8, 10], none, (some 55), .ibin .xor (.tmp 49) (.tmp 54)),
            ([3, 13, 1, 2, 0, 7, 12, 4, 6, 5, 9, 11, 8, 10], none, (some 56), .ibin .add (.tmp 45) (.tmp 55)),
            ([], none, (some 57), .mov (.tmp 6)),
            ([15], none, (some 58), .iaddrA 80 1 (.global g_1) (.tmp 57)),
            ([16, 15], none, (some 59), .load1 (.tmp 58)),
            ([14, 17, 3, 13, 1, 2, 0, 7, 12, 4, 6, 5, 9, 11, 8, 10, 16, 15], none, (some 60), .ibin .add (.tmp 56) (.tmp 59)),
            ([], none, (some 61), .mov (.tmp 7))] [
            .op none (some 62) (.ibin .add (.tmp 60) (.tmp 61)),
            .op none (some 12) (.mov (.tmp 62))],
          .op none (some 63) (.mov (.tmp 11)),
          .op none (some 64) (.mov (.tmp 8)),
          .op none (some 65) (.iaddrA 8 1 (.tmp 5) (.const (.int .i64 1))),
          .op none (some 66) (.load1 (.tmp 65)),
          .op none (some 67) (.ibin .and (.tmp 64) (.tmp 66)),
          .op none (some 68) (.mov (.tmp 8)),
          .op none (some 69) (.iaddrA 8 1 (.tmp 5) (.const (.int .i64 2))),
          .op none (some 70) (.load1 (.tmp 69)),
          .op none (some 71) (.ibin .and (.tmp 68) (.tmp 70)),
          .op none (some 72) (.ibin .xor (.tmp 67) (.tmp 71)),
          .op none (some 73) (.iaddrA 8 1 (.tmp 5) (.const (.int .i64 1))),
          .op none (some 74) (.load1 (.tmp 73)),
          .op none (some 75) (.iaddrA 8 1 (.tmp 5) (.const (.int .i64 2))),
          .op none (some 76) (.load1 (.tmp 75)),
          .op none (some 77) (.ibin .and (.tmp 74) (.tmp 76)),
          .op none (some 78) (.ibin .xor (.tmp 72) (.tmp 77)),
          .op none (some 79) (.ibin .add (.tmp 63) (.tmp 78)),
          .op none (some 13) (.mov (.tmp 79)),
          .draw [
            ([], none, (some 80), .slA 8 1 (.tmp 5) (some (.const (.int .i64 1))) none),
            ([], none, (some 81), .slA 8 1 (.tmp 5) none (some (.const (.int .i64 7))))] [
            .op none (some 82) (.copy 1 (.tmp 80) (.tmp 81))],
          .op none (some 83) (.iaddrA 8 1 (.tmp 5) (.const (.int .i64 4))),
          .op none (some 84) (.load1 (.tmp 83)),
          .op none (some 85) (.mov (.tmp 12)),
          .op none (some 86) (.ibin .add (.tmp 84) (.tmp 85)),
          .op none (some 87) (.iaddrA 8 1 (.tmp 5) (.const (.int .i64 4))),
          .op none none (.store 1 (.tmp 87) (.tmp 86)),
          .op none (some 88) (.mov (.tmp 12)),
          .op none (some 89) (.mov (.tmp 13)),
          .op none (some 90) (.ibin .add (.tmp 88) (.tmp 89)),
          .op none (some 91) (.iaddrA 8 1 (.tmp 5) (.const (.int .i64 0))),
          .op none none (.store 1 (.tmp 91) (.tmp 90))],
        .op none (some 92) (.ibin .add (.tmp 18) (.const (.int .i64 1))),
        .op none (some 18) (.mov (.tmp 92))]],
    .op none (some 93) (.mov (.const (.int .i64 0))),
    .block 2 [
      .loop [
        .op none (some 94) (.ibin .lss (.tmp 93) (.const (.int .i64 8))),
        .cond (.tmp 94) [] [
          .exit 2],
        .block 3 [
          .op none (some 95) (.mov (.tmp 93)),
          .op none (some 14) (.mov (.tmp 95)),
          .draw [
            ([], none, (some 96), .mov (.tmp 14)),
            ([0], none, (some 97), .iaddrA 8 1 (.tmp 2) (.tmp 96)),
            ([1, 0], none, (some 98), .load1 (.tmp 97)),
            ([], none, (some 99), .mov (.tmp 14)),
            ([3], none, (some 100), .iaddrA 8 1 (.tmp 5) (.tmp 99)),
            ([4, 3], none, (some 101), .load1 (.tmp 100))] [
            .op none (some 102) (.ibin .add (.tmp 98) (.tmp 101)),
            .op none (some 103) (.iaddrA 8 1 (.tmp 2) (.tmp 96)),
            .op none none (.store 1 (.tmp 103) (.tmp 102))]],
        .op none (some 104) (.ibin .add (.tmp 93) (.const (.int .i64 1))),
        .op none (some 93) (.mov (.tmp 104))]],
    .op none (some 105) (.loadN 8 (.tmp 2)),
    .op none none (.store 8 (.tmp 4) (.tmp 105)),
    .ret] }
def b_sha512_lay (T_uint8 : Nat) : Body := { n := 20, res := [.tmp 4], code := [
    .op none (some 4) (.mov (.const (.slice none 0 0))),
    .op none (some 6) (.mov (.const (.int .i64 0))),
    .block 0 [
      .loop [
        .op none (some 7) (.ibin .lss (.tmp 6) (.const (.int .i64 8))),
        .cond (.tmp 7) [] [
          .exit 0],
        .block 1 [
          .op none (some 8) (.mov (.tmp 6)),
          .op none (some 5) (.mov (.tmp 8)),
          .op none (some 9) (.mov (.tmp 0)),
          .op none (some 10) (.mov (.tmp 1)),
          .op none (some 11) (.mov (.tmp 5)),
          .op none (some 12) (.ibin .mul (.const (.int .i64 8)) (.tmp 11)),
          .op none (some 13) (.ibin .sub (.const (.int .i64 56)) (.tmp 12)),
          .op none (some 14) (.ibin .shr (.tmp 10) (.tmp 13)),
          .op none (some 15) (.toInt .u8 (.tmp 14)),
          .op none (some 16) (.mkSlice T_uint8 1 (rle [(1, .int .u8 0)]) [(0, 1, (.tmp 15))]),
          .op none (some 17) (.append T_uint8 1 1 (rle [(1, .int .u8 0)]) (.tmp 9) (.tmp 16)),
          .op none (some 0) (.mov (.tmp 17))],
        .op none (some 18) (.ibin .add (.tmp 6) (.const (.int .i64 1))),
        .op none (some 6) (.mov (.tmp 18))]],
    .op none (some 19) (.mov (.tmp 0)),
    .op none (some 4) (.mov (.tmp 19)),
    .ret] }
def b_sha512_word : Body := { n := 18, res := [.tmp 2], code := [
    .op none (some 2) (.mov (.const (.int .u64 0))),
    .op none (some 3) (.mov (.const (.int .u64 0))),
    .op none (some 5) (.mov (.const (.int .i64 0))),
    .block 0 [
      .loop [
        .op none (some 6) (.ibin .lss (.tmp 5) (.const (.int .i64 8))),
        .cond (.tmp 6) [] [
          .exit 0],
        .block 1 [
          .op none (some 7) (.mov (.tmp 5)),
          .op none (some 4) (.mov (.tmp 7)),
          .op none (some 8) (.mov (.tmp 3)),
          .op none (some 9) (.ibin .shl (.tmp 8) (.const (.int .u64 8))),
          .op none (some 10) (.mov (.tmp 0)),
          .op none (some 11) (.mov (.tmp 4)),
          .op none (some 12) (.iaddr 1 (.tmp 10) (.tmp 11)),
          .op none (some 13) (.load1 (.tmp 12)),
          .op none (some 14) (.toInt .u64 (.tmp 13)),
          .op none (some 15) (.ibin .or (.tmp 9) (.tmp 14)),
          .op none (some 3) (.mov (.tmp 15))],
        .op none (some 16) (.ibin .add (.tmp 5) (.const (.int .i64 1))),
        .op none (some 5) (.mov (.tmp 16))]],
    .op none (some 17) (.mov (.tmp 3)),
    .op none (some 2) (.mov (.tmp 17)),
    .ret] }
def b_sha512_spread (f_sha512_word f_sha512_right : Nat) (T__80uint64 : Nat) : Body := { n := 65, res := [.cell true 80 2], code := [
    .op none (some 2) (.new T__80uint64 (rle [(80, .int .u64 0)])),
    .op none (some 3) (.new T__80uint64 (rle [(80, .int .u64 0)])),
    .op none (some 10) (.mov (.const (.int .i64 0))),
    .block 0 [
      .loop [
        .op none (some 11) (.ibin .lss (.tmp 10) (.const (.int .i64 16))),
        .cond (.tmp 11) [] [
          .exit 0],
        .block 1 [
          .op none (some 12) (.mov (.tmp 10)),
          .op none (some 4) (.mov (.tmp 12)),
          .op none (some 13) (.mov (.tmp 4)),
          .op none (some 14) (.mov (.tmp 0)),
          .op none (some 15) (.mov (.tmp 4)),
          .op none (some 16) (.ibin .mul (.const (.int .i64 8)) (.tmp 15)),
          .op none (some 17) (.slS 1 (.tmp 14) (some (.tmp 16)) none),
          .op none (some 18) (.call f_sha512_word #[(.tmp 17)]),
          .op none (some 19) (.iaddrA 80 1 (.tmp 3) (.tmp 13)),
          .op none none (.store 1 (.tmp 19) (.tmp 18))],
        .op none (some 20) (.ibin .add (.tmp 10) (.const (.int .i64 1))),
        .op none (some 10) (.mov (.tmp 20))]],
    .op none (some 5) (.mov (.const (.int .i64 16))),
    .block 2 [
      .loop [
        .op none (some 21) (.mov (.tmp 5)),
        .op none (some 22) (.ibin .lss (.tmp 21) (.const (.int .i64 80))),
        .cond (.tmp 22) [] [
          .exit 2],
        .block 3 [
          .draw [
            ([], none, (some 25), .mov (.tmp 5)),
            ([0], none, (some 26), .ibin .sub (.tmp 25) (.const (.int .i64 15))),
            ([1, 0], none, (some 27), .iaddrA 80 1 (.tmp 3) (.tmp 26)),
            ([2, 1, 0], none, (some 28), .load1 (.tmp 27)),
            ([], none, (some 29), .mov (.tmp 5)),
            ([4], none, (some 30), .ibin .sub (.tmp 29) (.const (.int .i64 2))),
            ([5, 4], none, (some 31), .iaddrA 80 1 (.tmp 3) (.tmp 30)),
            ([6, 5, 4], none, (some 32), .load1 (.tmp 31)),
            ([3, 0, 1, 2], none, (some 6), .mov (.tmp 28))] [
            .op none (some 7) (.mov (.tmp 32))],
          .op none (some 33) (.mov (.tmp 6)),
          .op none (some 34) (.call f_sha512_right #[(.tmp 33), (.const (.int .i64 1))]),
          .op none (some 35) (.mov (.tmp 6)),
          .op none (some 36) (.call f_sha512_right #[(.tmp 35), (.const (.int .i64 8))]),
          .op none (some 37) (.ibin .xor (.tmp 34) (.tmp 36)),
          .op none (some 38) (.mov (.tmp 6)),
          .op none (some 39) (.ibin .shr (.tmp 38) (.const (.int .u64 7))),
          .op none (some 40) (.ibin .xor (.tmp 37) (.tmp 39)),
          .op none (some 8) (.mov (.tmp 40)),
          .op none (some 41) (.mov (.tmp 7)),
          .op none (some 42) (.call f_sha512_right #[(.tmp 41), (.const (.int .i64 19))]),
          .op none (some 43) (.mov (.tmp 7)),
          .op none (some 44) (.call f_sha512_right #[(.tmp 43), (.const (.int .i64 61))]),
          .op none (some 45) (.ibin .xor (.tmp 42) (.tmp 44)),
          .op none (some 46) (.mov (.tmp 7)),
          .op none (some 47) (.ibin .shr (.tmp 46) (.const (.int .u64 6))),
          .op none (some 48) (.ibin .xor (.tmp 45) (.tmp 47)),
          .op none (some 9) (.mov (.tmp 48)),
          .draw [
            ([], none, (some 49), .mov (.tmp 5)),
            ([], none, (some 50), .mov (.tmp 9)),
            ([], none, (some 51), .mov (.tmp 5)),
            ([2], none, (some 52), .ibin .sub (.tmp 51) (.const (.int .i64 7))),
            ([3, 2], none, (some 53), .iaddrA 80 1 (.tmp 3) (.tmp 52)),
            ([4, 3, 2], none, (some 54), .load1 (.tmp 53)),
            ([1, 5, 4, 3, 2], none, (some 55), .ibin .add (.tmp 50) (.tmp 54)),
            ([], none, (some 56), .mov (.tmp 8)),
            ([6, 7, 1, 5, 4, 3, 2], none, (some 57), .ibin .add (.tmp 55) (.tmp 56)),
            ([], none, (some 58), .mov (.tmp 5)),
            ([9], none, (some 59), .ibin .sub (.tmp 58) (.const (.int .i64 16))),
            ([10, 9], none, (some 60), .iaddrA 80 1 (.tmp 3) (.tmp 59)),
            ([11, 10, 9], none, (some 61), .load1 (.tmp 60)),
            ([8, 12, 6, 7, 1, 5, 4, 3, 2, 11, 10, 9], none, (some 62), .ibin .add (.tmp 57) (.tmp 61))] [
            .op none (some 63) (.iaddrA 80 1 (.tmp 3) (.tmp 49)),
            .op none none (.store 1 (.tmp 63) (.tmp 62))]],
        .op none (some 23) (.mov (.tmp 5)),
        .op none (some 24) (.ibin .add (.tmp 23) (.const (.int .i64 1))),
        .op none (some 5) (.mov (.tmp 24))]],
    .op none (some 64) (.loadN 80 (.tmp 3)),
    .op none none (.store 80 (.tmp 2) (.tmp 64)),
    .ret] }
def b_sha512_right (f_math_bits_RotateLeft64 : Nat) : Body := { n := 9, res := [.tmp 4], code := [
    .op none (some 4) (.mov (.const (.int .u64 0))),
    .op none (some 5) (.mov (.tmp 0)),
    .op none (some 6) (.mov (.tmp 1)),
    .op none (some 7) (.un .neg (.tmp 6)),
    .op none (some 8) (.call f_math_bits_RotateLeft64 #[(.tmp 5), (.tmp 7)]),
    .op none (some 4) (.mov (.tmp 8)),
    .ret] }
end Go.Sp

namespace Go.Sp
def b_pos_Rows (f_math_bits_Len64 : Nat) : Body := { n := 13, res := [.tmp 2, .tmp 3], code := [
    .op none (some 2) (.mov (.const (.int .i64 0))),
    .op none (some 3) (.mov (.const (.bool false))),
    .block 0 [
      .op none (some 5) (.mov (.tmp 0)),
      .op none (some 6) (.ibin .gtr (.tmp 5) (.const (.int .u64 9223372036854775807))),
      .op none (some 4) (.mov (.tmp 6)),
      .cond (.tmp 4) [
        .op none (some 2) (.mov (.const (.int .i64 0))),
        .op none (some 3) (.mov (.const (.bool false))),
        .ret] [
        .op none (some 8) (.mov (.tmp 0)),
        .op none (some 9) (.ibin .eql (.tmp 8) (.const (.int .u64 0))),
        .op none (some 7) (.mov (.tmp 9)),
        .cond (.tmp 7) [
          .op none (some 2) (.mov (.const (.int .i64 0))),
          .op none (some 3) (.mov (.const (.bool true))),
          .ret] []]],
    .op none (some 10) (.mov (.tmp 0)),
    .op none (some 11) (.ibin .sub (.tmp 10) (.const (.int .u64 1))),
    .op none (some 12) (.call f_math_bits_Len64 #[(.tmp 11)]),
    .op none (some 2) (.mov (.tmp 12)),
    .op none (some 3) (.mov (.const (.bool true))),
    .ret] }
def b_pos_Root (f_pos_Rows f_pos_begin : Nat) : Body := { n := 40, res := [.tmp 4, .tmp 5], code := [
    .op none (some 4) (.mov (.const (.int .u64 0))),
    .op none (some 5) (.mov (.const (.bool false))),
    .op none (some 9) (.mov (.tmp 0)),
    .op none (some 10) (.call f_pos_Rows #[(.tmp 9)]),
    .op none (some 8) (.mov (.tmp 10)),
    .op none (some 11) (.ext (.tmp 8) 0),
    .op none (some 12) (.ext (.tmp 8) 1),
    .op none (some 6) (.mov (.tmp 11)),
    .op none (some 7) (.mov (.tmp 12)),
    .op none (some 13) (.mov (.tmp 7)),
    .op none (some 14) (.un .not (.tmp 13)),
    .op none (some 15) (.mov (.tmp 14)),
    .op (some (some 15, false)) (some 16) (.mov (.tmp 1)),
    .op (some (some 15, false)) (some 17) (.ibin .lss (.tmp 16) (.const (.int .i64 0))),
    .op none (some 18) (.pick (.tmp 15) (.const (.bool true)) (.tmp 17)),
    .op none (some 19) (.mov (.tmp 18)),
    .op (some (some 19, false)) (some 20) (.mov (.tmp 1)),
    .op (some (some 19, false)) (some 21) (.mov (.tmp 6)),
    .op (some (some 19, false)) (some 22) (.ibin .gtr (.tmp 20) (.tmp 21)),
    .op none (some 23) (.pick (.tmp 19) (.const (.bool true)) (.tmp 22)),
    .op none (some 24) (.mov (.tmp 23)),
    .op (some (some 24, false)) (some 25) (.mov (.tmp 0)),
    .op (some (some 24, false)) (some 26) (.mov (.tmp 1)),
    .op (some (some 24, false)) (some 27) (.ibin .shr (.tmp 25) (.tmp 26)),
    .op (some (some 24, false)) (some 28) (.ibin .and (.tmp 27) (.const (.int .u64 1))),
    .op (some (some 24, false)) (some 29) (.ibin .eql (.tmp 28) (.const (.int .u64 0))),
    .op none (some 30) (.pick (.tmp 24) (.const (.bool true)) (.tmp 29)),
    .cond (.tmp 30) [
      .op none (some 4) (.mov (.const (.int .u64 0))),
      .op none (some 5) (.mov (.const (.bool false))),
      .ret] [],
    .draw [
      ([], none, (some 31), .mov (.tmp 1)),
      ([], none, (some 32), .mov (.tmp 6)),
      ([0, 1], none, (some 33), .call f_pos_begin #[(.tmp 31), (.tmp 32)]),
      ([], none, (some 34), .mov (.tmp 0)),
      ([], none, (some 35), .mov (.tmp 1)),
      ([3, 4], none, (some 36), .ibin .shr (.tmp 34) (.tmp 35)),
      ([5, 3, 4], none, (some 37), .ibin .shr (.tmp 36) (.const (.int .u64 1))),
      ([6, 5, 3, 4], none, (some 38), .ibin .shl (.tmp 37) (.const (.int .u64 1)))] [
      .op none (some 39) (.ibin .add (.tmp 33) (.tmp 38)),
      .op none (some 4) (.mov (.tmp 39)),
      .op none (some 5) (.mov (.const (.bool true)))],
    .ret] }
def b_pos_Way (f_pos_Rows f_pos_Row f_pos_up f_pos_Root : Nat) (T_uint64 T_SLuint64 T_int : Nat) : Body := { n := 52, res := [.cell false 1 4], code := [
    .op none (some 2) (.box T_uint64 (.tmp 0)),
    .op none (some 4) (.new T_SLuint64 (rle [(1, .slice none 0 0)])),
    .op none (some 13) (.load1 (.tmp 2)),
    .op none (some 14) (.call f_pos_Rows #[(.tmp 13)]),
    .op none (some 12) (.mov (.tmp 14)),
    .op none (some 15) (.ext (.tmp 12) 0),
    .op none (some 16) (.ext (.tmp 12) 1),
    .op none (some 5) (.mov (.tmp 15)),
    .op none (some 6) (.mov (.tmp 16)),
    .op none (some 18) (.mov (.tmp 1)),
    .op none (some 19) (.mov (.tmp 5)),
    .op none (some 20) (.call f_pos_Row #[(.tmp 18), (.tmp 19)]),
    .op none (some 17) (.mov (.tmp 20)),
    .op none (some 21) (.ext (.tmp 17) 0),
    .op none (some 22) (.ext (.tmp 17) 1),
    .op none (some 7) (.new T_int (rle [(1, .int .i64 0)])),
    .op none none (.store 1 (.tmp 7) (.tmp 21)),
    .op none (some 8) (.mov (.tmp 22)),
    .op none (some 23) (.mov (.tmp 6)),
    .op none (some 24) (.un .not (.tmp 23)),
    .op none (some 25) (.mov (.tmp 24)),
    .op (some (some 25, false)) (some 26) (.mov (.tmp 8)),
    .op (some (some 25, false)) (some 27) (.un .not (.tmp 26)),
    .op none (some 28) (.pick (.tmp 25) (.const (.bool true)) (.tmp 27)),
    .cond (.tmp 28) [
      .op none none (.store 1 (.tmp 4) (.const (.slice none 0 0))),
      .ret] [],
    .op none (some 29) (.mov (.tmp 1)),
    .op none (some 30) (.mov (.tmp 5)),
    .op none (some 31) (.call f_pos_up #[(.tmp 29), (.tmp 30)]),
    .block 0 [
      .rangeF (.tmp 31) #[32] [
        .op none (some 9) (.mov (.tmp 32))] [
        .block 1 [
          .op none (some 33) (.load1 (.tmp 4)),
          .op none (some 34) (.mov (.tmp 9)),
          .op none (some 35) (.mkSlice T_uint64 1 (rle [(1, .int .u64 0)]) [(0, 1, (.tmp 34))]),
          .op none (some 36) (.append T_uint64 1 8 (rle [(1, .int .u64 0)]) (.tmp 33) (.tmp 35)),
          .op none none (.store 1 (.tmp 4) (.tmp 36)),
          .op none (some 38) (.load1 (.tmp 2)),
          .op none (some 39) (.load1 (.tmp 7)),
          .op none (some 40) (.call f_pos_Root #[(.tmp 38), (.tmp 39)]),
          .op none (some 37) (.mov (.tmp 40)),
          .op none (some 41) (.ext (.tmp 37) 0),
          .op none (some 42) (.ext (.tmp 37) 1),
          .op none (some 10) (.mov (.tmp 41)),
          .op none (some 11) (.mov (.tmp 42)),
          .op none (some 43) (.mov (.tmp 11)),
          .op none (some 44) (.mov (.tmp 43)),
          .op (some (some 44, true)) (some 45) (.mov (.tmp 10)),
          .op (some (some 44, true)) (some 46) (.mov (.tmp 9)),
          .op (some (some 44, true)) (some 47) (.ibin .eql (.tmp 45) (.tmp 46)),
          .op none (some 48) (.pick (.tmp 44) (.tmp 47) (.const (.bool false))),
          .cond (.tmp 48) [
            .op none (some 49) (.load1 (.tmp 4)),
            .op none none (.store 1 (.tmp 4) (.tmp 49)),
            .ret] [],
          .op none (some 50) (.load1 (.tmp 7)),
          .op none (some 51) (.ibin .add (.tmp 50) (.const (.int .i64 1))),
          .op none none (.store 1 (.tmp 7) (.tmp 51))]]],
    .op none none (.store 1 (.tmp 4) (.const (.slice none 0 0))),
    .ret] }
def b_pos_Left (f_pos_Row : Nat) : Body := { n := 26, res := [.tmp 4, .tmp 5], code := [
    .op none (some 4) (.mov (.const (.int .u64 0))),
    .op none (some 5) (.mov (.const (.bool false))),
    .op none (some 9) (.mov (.tmp 0)),
    .op none (some 10) (.mov (.tmp 1)),
    .op none (some 11) (.call f_pos_Row #[(.tmp 9), (.tmp 10)]),
    .op none (some 8) (.mov (.tmp 11)),
    .op none (some 12) (.ext (.tmp 8) 0),
    .op none (some 13) (.ext (.tmp 8) 1),
    .op none (some 6) (.mov (.tmp 12)),
    .op none (some 7) (.mov (.tmp 13)),
    .op none (some 14) (.mov (.tmp 7)),
    .op none (some 15) (.un .not (.tmp 14)),
    .op none (some 16) (.mov (.tmp 15)),
    .op (some (some 16, false)) (some 17) (.mov (.tmp 6)),
    .op (some (some 16, false)) (some 18) (.ibin .eql (.tmp 17) (.const (.int .i64 0))),
    .op none (some 19) (.pick (.tmp 16) (.const (.bool true)) (.tmp 18)),
    .cond (.tmp 19) [
      .op none (some 4) (.mov (.const (.int .u64 0))),
      .op none (some 5) (.mov (.const (.bool false))),
      .ret] [],
    .op none (some 20) (.mov (.tmp 0)),
    .op none (some 21) (.ibin .shl (.tmp 20) (.const (.int .u64 1))),
    .op none (some 22) (.mov (.tmp 1)),
    .op none (some 23) (.ibin .shl (.const (.int .u64 2)) (.tmp 22)),
    .op none (some 24) (.ibin .sub (.tmp 23) (.const (.int .u64 1))),
    .op none (some 25) (.ibin .and (.tmp 21) (.tmp 24)),
    .op none (some 4) (.mov (.tmp 25)),
    .op none (some 5) (.mov (.const (.bool true))),
    .ret] }
def b_pos_Sibling (f_pos_Parent : Nat) : Body := { n := 18, res := [.tmp 4, .tmp 5], code := [
    .op none (some 4) (.mov (.const (.int .u64 0))),
    .op none (some 5) (.mov (.const (.bool false))),
    .op none (some 9) (.mov (.tmp 0)),
    .op none (some 10) (.mov (.tmp 1)),
    .op none (some 11) (.call f_pos_Parent #[(.tmp 9), (.tmp 10)]),
    .op none (some 8) (.mov (.tmp 11)),
    .op none (some 12) (.ext (.tmp 8) 0),
    .op none (some 13) (.ext (.tmp 8) 1),
    .op none (some 6) (.mov (.tmp 12)),
    .op none (some 7) (.mov (.tmp 13)),
    .op none (some 14) (.mov (.tmp 7)),
    .op none (some 15) (.un .not (.tmp 14)),
    .cond (.tmp 15) [
      .op none (some 4) (.mov (.const (.int .u64 0))),
      .op none (some 5) (.mov (.const (.bool false))),
      .ret] [],
    .op none (some 16) (.mov (.tmp 0)),
    .op none (some 17) (.ibin .xor (.tmp 16) (.const (.int .u64 1))),
    .op none (some 4) (.mov (.tmp 17)),
    .op none (some 5) (.mov (.const (.bool true))),
    .ret] }
def b_math_bits_Len64 : Body := { n := 25, res := [.tmp 2], code := [
    .op none (some 2) (.mov (.const (.int .i64 0))),
    .op none (some 3) (.mov (.tmp 0)),
    .op none (some 4) (.ibin .geq (.tmp 3) (.const (.int .u64 4294967296))),
    .cond (.tmp 4) [
      .op none (some 5) (.mov (.tmp 0)),
      .op none (some 6) (.ibin .shr (.tmp 5) (.const (.int .u64 32))),
      .op none (some 0) (.mov (.tmp 6)),
      .op none (some 2) (.mov (.const (.int .i64 32)))] [],
    .op none (some 7) (.mov (.tmp 0)),
    .op none (some 8) (.ibin .geq (.tmp 7) (.const (.int .u64 65536))),
    .cond (.tmp 8) [
      .op none (some 9) (.mov (.tmp 0)),
      .op none (some 10) (.ibin .shr (.tmp 9) (.const (.int .u64 16))),
      .op none (some 0) (.mov (.tmp 10)),
      .op none (some 11) (.mov (.tmp 2)),
      .op none (some 12) (.ibin .add (.tmp 11) (.const (.int .i64 16))),
      .op none (some 2) (.mov (.tmp 12))] [],
    .op none (some 13) (.mov (.tmp 0)),
    .op none (some 14) (.ibin .geq (.tmp 13) (.const (.int .u64 256))),
    .cond (.tmp 14) [
      .op none (some 15) (.mov (.tmp 0)),
      .op none (some 16) (.ibin .shr (.tmp 15) (.const (.int .u64 8))),
      .op none (some 0) (.mov (.tmp 16)),
      .op none (some 17) (.mov (.tmp 2)),
      .op none (some 18) (.ibin .add (.tmp 17) (.const (.int .i64 8))),
      .op none (some 2) (.mov (.tmp 18))] [],
    .op none (some 19) (.mov (.tmp 2)),
    .op none (some 20) (.mov (.tmp 0)),
    .op none (some 21) (.toInt .u8 (.tmp 20)),
    .op none (some 22) (.sidx (.const (.string ⟨#[0, 1, 2, 2, 3, 3, 3, 3, 4, 4, 4, 4, 4, 4, 4, 4, 5, 5, 5, 5, 5, 5, 5, 5, 5, 5, 5, 5, 5, 5, 5, 5, 6, 6, 6, 6, 6, 6, 6, 6, 6, 6, 6, 6, 6, 6, 6, 6, 6, 6, 6, 6, 6, 6, 6, 6, 6, 6, 6, 6, 6, 6, 6, 6, 7, 7, 7, 7, 7, 7, 7, 7, 7, 7, 7, 7, 7, 7, 7, 7, 7, 7, 7, 7, 7, 7, 7, 7, 7, 7, 7, 7, 7, 7, 7, 7, 7, 7, 7, 7, 7, 7, 7, 7, 7, 7, 7, 7, 7, 7, 7, 7, 7, 7, 7, 7, 7, 7, 7, 7, 7, 7, 7, 7, 7, 7, 7, 7, 8, 8, 8, 8, 8, 8, 8, 8, 8, 8, 8, 8, 8, 8, 8, 8, 8, 8, 8, 8, 8, 8, 8, 8, 8, 8, 8, 8, 8, 8, 8, 8, 8, 8, 8, 8, 8, 8, 8, 8, 8, 8, 8, 8, 8, 8, 8, 8, 8, 8, 8, 8, 8, 8, 8, 8, 8, 8, 8, 8, 8, 8, 8, 8, 8, 8, 8, 8, 8, 8, 8, 8, 8, 8, 8, 8, 8, 8, 8, 8, 8, 8, 8, 8, 8, 8, 8, 8, 8, 8, 8, 8, 8, 8, 8, 8, 8, 8, 8, 8, 8, 8, 8, 8, 8, 8, 8, 8, 8, 8, 8, 8, 8, 8, 8, 8, 8, 8, 8, 8, 8, 8, 8, 8, 8, 8, 8, 8]⟩)) (.tmp 21)),
    .op none (some 23) (.toInt .i64 (.tmp 22)),
    .op none (some 24) (.ibin .add (.tmp 19) (.tmp 23)),
    .op none (some 2) (.mov (.tmp 24)),
    .ret] }
def b_pos_begin : Body := { n := 12, res := [.tmp 4], code := [
    .op none (some 4) (.mov (.const (.int .u64 0))),
    .draw [
      ([], none, (some 5), .mov (.tmp 1)),
      ([0], none, (some 6), .ibin .shl (.const (.int .u64 2)) (.tmp 5)),
      ([], none, (some 7), .mov (.tmp 1)),
      ([], none, (some 8), .mov (.tmp 0)),
      ([2, 3], none, (some 9), .ibin .sub (.tmp 7) (.tmp 8)),
      ([4, 2, 3], none, (some 10), .ibin .shl (.const (.int .u64 2)) (.tmp 9))] [
      .op none (some 11) (.ibin .sub (.tmp 6) (.tmp 10)),
      .op none (some 4) (.mov (.tmp 11))],
    .ret] }
def b_pos_Row (f_pos_may f_math_bits_LeadingZeros64 : Nat) : Body := { n := 22, res := [.tmp 4, .tmp 5], code := [
    .op none (some 4) (.mov (.const (.int .i64 0))),
    .op none (some 5) (.mov (.const (.bool false))),
    .op none (some 6) (.mov (.tmp 1)),
    .op none (some 7) (.call f_pos_may #[(.tmp 6)]),
    .op none (some 8) (.un .not (.tmp 7)),
    .op none (some 9) (.mov (.tmp 8)),
    .op (some (some 9, false)) (some 10) (.mov (.tmp 0)),
    .op (some (some 9, false)) (some 11) (.mov (.tmp 1)),
    .op (some (some 9, false)) (some 12) (.ibin .shl (.const (.int .u64 2)) (.tmp 11)),
    .op (some (some 9, false)) (some 13) (.ibin .sub (.tmp 12) (.const (.int .u64 1))),
    .op (some (some 9, false)) (some 14) (.ibin .geq (.tmp 10) (.tmp 13)),
    .op none (some 15) (.pick (.tmp 9) (.const (.bool true)) (.tmp 14)),
    .cond (.tmp 15) [
      .op none (some 4) (.mov (.const (.int .i64 0))),
      .op none (some 5) (.mov (.const (.bool false))),
      .ret] [],
    .op none (some 16) (.mov (.tmp 0)),
    .op none (some 17) (.mov (.tmp 1)),
    .op none (some 18) (.ibin .sub (.const (.int .i64 63)) (.tmp 17)),
    .op none (some 19) (.ibin .shl (.tmp 16) (.tmp 18)),
    .op none (some 20) (.un .xor (.tmp 19)),
    .op none (some 21) (.call f_math_bits_LeadingZeros64 #[(.tmp 20)]),
    .op none (some 4) (.mov (.tmp 21)),
    .op none (some 5) (.mov (.const (.bool true))),
    .ret] }
def b_pos_up (f_pos_up_1 : Nat) (T_uint64 T_int : Nat) : Body := { n := 6, res := [.tmp 4], code := [
    .op none (some 2) (.box T_uint64 (.tmp 0)),
    .op none (some 3) (.box T_int (.tmp 1)),
    .op none (some 4) (.mov (.const (.nilFunc))),
    .op none (some 5) (.fn f_pos_up_1 #[] #[(.tmp 2), (.tmp 3)]),
    .op none (some 4) (.mov (.tmp 5)),
    .ret] }
def b_pos_Tree (f_pos_Way f_pos_Rows f_pos_Row : Nat) : Body := { n := 30, res := [.tmp 4, .tmp 5], code := [
    .op none (some 4) (.mov (.const (.int .i64 0))),
    .op none (some 5) (.mov (.const (.bool false))),
    .op none (some 9) (.mov (.tmp 0)),
    .op none (some 10) (.mov (.tmp 1)),
    .op none (some 11) (.call f_pos_Way #[(.tmp 9), (.tmp 10)]),
    .op none (some 6) (.mov (.tmp 11)),
    .op none (some 12) (.mov (.tmp 6)),
    .op none (some 13) (.lenS (.tmp 12)),
    .op none (some 14) (.ibin .eql (.tmp 13) (.const (.int .i64 0))),
    .cond (.tmp 14) [
      .op none (some 4) (.mov (.const (.int .i64 0))),
      .op none (some 5) (.mov (.const (.bool false))),
      .ret] [],
    .op none (some 16) (.mov (.tmp 0)),
    .op none (some 17) (.call f_pos_Rows #[(.tmp 16)]),
    .op none (some 15) (.mov (.tmp 17)),
    .op none (some 18) (.ext (.tmp 15) 0),
    .op none (some 19) (.ext (.tmp 15) 1),
    .op none (some 7) (.mov (.tmp 18)),
    .op none (some 8) (.mov (.tmp 19)),
    .op none (some 20) (.mov (.tmp 6)),
    .op none (some 21) (.mov (.tmp 6)),
    .op none (some 22) (.lenS (.tmp 21)),
    .op none (some 23) (.ibin .sub (.tmp 22) (.const (.int .i64 1))),
    .op none (some 24) (.iaddr 1 (.tmp 20) (.tmp 23)),
    .op none (some 25) (.load1 (.tmp 24)),
    .op none (some 26) (.mov (.tmp 7)),
    .op none (some 27) (.call f_pos_Row #[(.tmp 25), (.tmp 26)]),
    .op none (some 28) (.ext (.tmp 27) 0),
    .op none (some 29) (.ext (.tmp 27) 1),
    .op none (some 4) (.mov (.tmp 28)),
    .op none (some 5) (.mov (.tmp 29)),
    .ret] }
def b_pos_Parent (f_pos_Row : Nat) : Body := { n := 26, res := [.tmp 4, .tmp 5], code := [
    .op none (some 4) (.mov (.const (.int .u64 0))),
    .op none (some 5) (.mov (.const (.bool false))),
    .op none (some 9) (.mov (.tmp 0)),
    .op none (some 10) (.mov (.tmp 1)),
    .op none (some 11) (.call f_pos_Row #[(.tmp 9), (.tmp 10)]),
    .op none (some 8) (.mov (.tmp 11)),
    .op none (some 12) (.ext (.tmp 8) 0),
    .op none (some 13) (.ext (.tmp 8) 1),
    .op none (some 6) (.mov (.tmp 12)),
    .op none (some 7) (.mov (.tmp 13)),
    .op none (some 14) (.mov (.tmp 7)),
    .op none (some 15) (.un .not (.tmp 14)),
    .op none (some 16) (.mov (.tmp 15)),
    .op (some (some 16, false)) (some 17) (.mov (.tmp 6)),
    .op (some (some 16, false)) (some 18) (.mov (.tmp 1)),
    .op (some (some 16, false)) (some 19) (.ibin .eql (.tmp 17) (.tmp 18)),
    .op none (some 20) (.pick (.tmp 16) (.const (.bool true)) (.tmp 19)),
    .cond (.tmp 20) [
      .op none (some 4) (.mov (.const (.int .u64 0))),
      .op none (some 5) (.mov (.const (.bool false))),
      .ret] [],
    .op none (some 21) (.mov (.tmp 0)),
    .op none (some 22) (.ibin .shr (.tmp 21) (.const (.int .u64 1))),
    .op none (some 23) (.mov (.tmp 1)),
    .op none (some 24) (.ibin .shl (.const (.int .u64 1)) (.tmp 23)),
    .op none (some 25) (.ibin .or (.tmp 22) (.tmp 24)),
    .op none (some 4) (.mov (.tmp 25)),
    .op none (some 5) (.mov (.const (.bool true))),
    .ret] }
def b_pos_may : Body := { n := 9, res := [.tmp 2], code := [
    .op none (some 2) (.mov (.const (.bool false))),
    .op none (some 3) (.mov (.tmp 0)),
    .op none (some 4) (.ibin .geq (.tmp 3) (.const (.int .i64 0))),
    .op none (some 5) (.mov (.tmp 4)),
    .op (some (some 5, true)) (some 6) (.mov (.tmp 0)),
    .op (some (some 5, true)) (some 7) (.ibin .leq (.tmp 6) (.const (.int .i64 63))),
    .op none (some 8) (.pick (.tmp 5) (.tmp 7) (.const (.bool false))),
    .op none (some 2) (.mov (.tmp 8)),
    .ret] }
def b_math_bits_LeadingZeros64 (f_math_bits_Len64 : Nat) : Body := { n := 6, res := [.tmp 2], code := [
    .op none (some 2) (.mov (.const (.int .i64 0))),
    .op none (some 3) (.mov (.tmp 0)),
    .op none (some 4) (.call f_math_bits_Len64 #[(.tmp 3)]),
    .op none (some 5) (.ibin .sub (.const (.int .i64 64)) (.tmp 4)),
    .op none (some 2) (.mov (.tmp 5)),
    .ret] }
def b_pos_up_1 (f_pos_Parent : Nat) : Body := { n := 17, res := [], code := [
    .op none (some 4) (.mov (.const (.bool true))),
    .block 0 [
      .loop [
        .op none (some 5) (.mov (.tmp 4)),
        .op none (some 6) (.mov (.tmp 5)),
        .op (some (some 6, true)) (some 7) (.mov (.tmp 0)),
        .op (some (some 6, true)) (some 8) (.load1 (.tmp 1)),
        .op (some (some 6, true)) (some 9) (.callv (.tmp 7) #[(.tmp 8)]),
        .op none (some 10) (.pick (.tmp 6) (.tmp 9) (.const (.bool false))),
        .cond (.tmp 10) [] [
          .exit 0],
        .block 1 [
          .op none (some 12) (.load1 (.tmp 1)),
          .op none (some 13) (.load1 (.tmp 2)),
          .op none (some 14) (.call f_pos_Parent #[(.tmp 12), (.tmp 13)]),
          .op none (some 11) (.mov (.tmp 14)),
          .op none (some 15) (.ext (.tmp 11) 0),
          .op none (some 16) (.ext (.tmp 11) 1),
          .op none none (.store 1 (.tmp 1) (.tmp 15)),
          .op none (some 4) (.mov (.tmp 16))]]]] }
def b_math_bits_Len (f_math_bits_Len32 f_math_bits_Len64 : Nat) : Body := { n := 8, res := [.tmp 2], code := [
    .op none (some 2) (.mov (.const (.int .i64 0))),
    .cond (.const (.bool false)) [
      .op none (some 3) (.mov (.tmp 0)),
      .op none (some 4) (.toInt .u32 (.tmp 3)),
      .op none (some 5) (.call f_math_bits_Len32 #[(.tmp 4)]),
      .op none (some 2) (.mov (.tmp 5)),
      .ret] [],
    .op none (some 6) (.mov (.tmp 0)),
    .op none (some 7) (.call f_math_bits_Len64 #[(.tmp 6)]),
    .op none (some 2) (.mov (.tmp 7)),
    .ret] }
def b_math_bits_RotateLeft64 : Body := { n := 17, res := [.tmp 4], code := [
    .op none (some 4) (.mov (.const (.int .u64 0))),
    .op none (some 6) (.mov (.tmp 1)),
    .op none (some 7) (.toInt .u64 (.tmp 6)),
    .op none (some 8) (.ibin .and (.tmp 7) (.const (.int .u64 63))),
    .op none (some 5) (.mov (.tmp 8)),
    .op none (some 9) (.mov (.tmp 0)),
    .op none (some 10) (.mov (.tmp 5)),
    .op none (some 11) (.ibin .shl (.tmp 9) (.tmp 10)),
    .op none (some 12) (.mov (.tmp 0)),
    .op none (some 13) (.mov (.tmp 5)),
    .op none (some 14) (.ibin .sub (.const (.int .u64 64)) (.tmp 13)),
    .op none (some 15) (.ibin .shr (.tmp 12) (.tmp 14)),
    .op none (some 16) (.ibin .or (.tmp 11) (.tmp 15)),
    .op none (some 4) (.mov (.tmp 16)),
    .ret] }
end Go.Sp

namespace Go.Sp
def b_slices_IndexFunc_forest_tree_forest_tree : Body := { n := 19, res := [.tmp 4], code := [
    .op none (some 4) (.mov (.const (.int .i64 0))),
    .op none (some 6) (.mov (.tmp 0)),
    .op none (some 7) (.lenS (.tmp 6)),
    .op none (some 8) (.mov (.const (.int .i64 0))),
    .block 0 [
      .loop [
        .op none (some 9) (.ibin .lss (.tmp 8) (.tmp 7)),
        .cond (.tmp 9) [] [
          .exit 0],
        .block 1 [
          .op none (some 10) (.mov (.tmp 8)),
          .op none (some 5) (.mov (.tmp 10)),
          .op none (some 11) (.mov (.tmp 1)),
          .op none (some 12) (.mov (.tmp 0)),
          .op none (some 13) (.mov (.tmp 5)),
          .op none (some 14) (.iaddr 3 (.tmp 12) (.tmp 13)),
          .op none (some 15) (.loadN 3 (.tmp 14)),
          .op none (some 16) (.callv (.tmp 11) #[(.tmp 15)]),
          .cond (.tmp 16) [
            .op none (some 17) (.mov (.tmp 5)),
            .op none (some 4) (.mov (.tmp 17)),
            .ret] []],
        .op none (some 18) (.ibin .add (.tmp 8) (.const (.int .i64 1))),
        .op none (some 8) (.mov (.tmp 18))]],
    .op none (some 4) (.mov (.const (.int .i64 (-1)))),
    .ret] }
def b_slices_Clone_forest_tree_forest_tree (T_SLforest_tree T_forest_tree : Nat) : Body := { n := 8, res := [.tmp 2], code := [
    .op none (some 2) (.mov (.const (.slice none 0 0))),
    .op none (some 3) (.mov (.tmp 0)),
    .op none (some 4) (.bin .eql T_SLforest_tree (.tmp 3) (.const (.slice none 0 0))),
    .cond (.tmp 4) [
      .op none (some 2) (.mov (.const (.slice none 0 0))),
      .ret] [],
    .op none (some 5) (.mkSlice T_forest_tree 0 (rle []) []),
    .op none (some 6) (.mov (.tmp 0)),
    .op none (some 7) (.append T_forest_tree 3 24 (rle [(1, .pointer none), (1, .int .u64 0), (1, .int .i64 0)]) (.tmp 5) (.tmp 6)),
    .op none (some 2) (.mov (.tmp 7)),
    .ret] }
def b_slices_Sorted_uint64 (f_slices_Collect_uint64 f_slices_Sort_uint64_uint64 : Nat) : Body := { n := 9, res := [.tmp 2], code := [
    .op none (some 2) (.mov (.const (.slice none 0 0))),
    .op none (some 4) (.mov (.tmp 0)),
    .op none (some 5) (.call f_slices_Collect_uint64 #[(.tmp 4)]),
    .op none (some 3) (.mov (.tmp 5)),
    .op none (some 6) (.mov (.tmp 3)),
    .op none (some 7) (.call f_slices_Sort_uint64_uint64 #[(.tmp 6)]),
    .op none (some 8) (.mov (.tmp 3)),
    .op none (some 2) (.mov (.tmp 8)),
    .ret] }
def b_maps_Values_map_api_Hashuint64_api_Hash_uint64 (f_maps_Values_map_api_Hashuint64_api_Hash_uint64_1 : Nat) (T_map_api_Hashuint64 : Nat) : Body := { n := 4, res := [.tmp 2], code := [
    .op none (some 1) (.box T_map_api_Hashuint64 (.tmp 0)),
    .op none (some 2) (.mov (.const (.nilFunc))),
    .op none (some 3) (.fn f_maps_Values_map_api_Hashuint64_api_Hash_uint64_1 #[] #[(.tmp 1)]),
    .op none (some 2) (.mov (.tmp 3)),
    .ret] }
def b_slices_SortedFunc_api_Hash (f_slices_Collect_api_Hash f_slices_SortFunc_api_Hash_api_Hash : Nat) : Body := { n := 12, res := [.tmp 4], code := [
    .op none (some 4) (.mov (.const (.slice none 0 0))),
    .op none (some 6) (.mov (.tmp 0)),
    .op none (some 7) (.call f_slices_Collect_api_Hash #[(.tmp 6)]),
    .op none (some 5) (.mov (.tmp 7)),
    .op none (some 8) (.mov (.tmp 5)),
    .op none (some 9) (.mov (.tmp 1)),
    .op none (some 10) (.call f_slices_SortFunc_api_Hash_api_Hash #[(.tmp 8), (.tmp 9)]),
    .op none (some 11) (.mov (.tmp 5)),
    .op none (some 4) (.mov (.tmp 11)),
    .ret] }
def b_maps_Keys_map_api_Hashuint64_api_Hash_uint64 (f_maps_Keys_map_api_Hashuint64_api_Hash_uint64_1 : Nat) (T_map_api_Hashuint64 : Nat) : Body := { n := 4, res := [.tmp 2], code := [
    .op none (some 1) (.box T_map_api_Hashuint64 (.tmp 0)),
    .op none (some 2) (.mov (.const (.nilFunc))),
    .op none (some 3) (.fn f_maps_Keys_map_api_Hashuint64_api_Hash_uint64_1 #[] #[(.tmp 1)]),
    .op none (some 2) (.mov (.tmp 3)),
    .ret] }
def b_cmp_Compare_uint64 (f_cmp_isNaN_uint64 : Nat) : Body := { n := 20, res := [.tmp 4], code := [
    .op none (some 4) (.mov (.const (.int .i64 0))),
    .op none (some 7) (.mov (.tmp 0)),
    .op none (some 8) (.call f_cmp_isNaN_uint64 #[(.tmp 7)]),
    .op none (some 5) (.mov (.tmp 8)),
    .op none (some 9) (.mov (.tmp 1)),
    .op none (some 10) (.call f_cmp_isNaN_uint64 #[(.tmp 9)]),
    .op none (some 6) (.mov (.tmp 10)),
    .op none (some 11) (.mov (.tmp 5)),
    .cond (.tmp 11) [
      .op none (some 12) (.mov (.tmp 6)),
      .cond (.tmp 12) [
        .op none (some 4) (.mov (.const (.int .i64 0))),
        .ret] [],
      .op none (some 4) (.mov (.const (.int .i64 (-1)))),
      .ret] [],
    .op none (some 13) (.mov (.tmp 6)),
    .cond (.tmp 13) [
      .op none (some 4) (.mov (.const (.int .i64 1))),
      .ret] [],
    .op none (some 14) (.mov (.tmp 0)),
    .op none (some 15) (.mov (.tmp 1)),
    .op none (some 16) (.ibin .lss (.tmp 14) (.tmp 15)),
    .cond (.tmp 16) [
      .op none (some 4) (.mov (.const (.int .i64 (-1)))),
      .ret] [],
    .op none (some 17) (.mov (.tmp 0)),
    .op none (some 18) (.mov (.tmp 1)),
    .op none (some 19) (.ibin .gtr (.tmp 17) (.tmp 18)),
    .cond (.tmp 19) [
      .op none (some 4) (.mov (.const (.int .i64 1))),
      .ret] [],
    .op none (some 4) (.mov (.const (.int .i64 0))),
    .ret] }
def b_slices_Concat_byte_byte (f_slices_Grow_byte_byte : Nat) (T_string T_uint8 : Nat) : Body := { n := 36, res := [.tmp 2], code := [
    .op none (some 2) (.mov (.const (.slice none 0 0))),
    .op none (some 3) (.mov (.const (.int .i64 0))),
    .op none (some 9) (.mov (.tmp 0)),
    .op none (some 10) (.lenS (.tmp 9)),
    .op none (some 11) (.mov (.const (.int .i64 0))),
    .block 0 [
      .loop [
        .op none (some 12) (.ibin .lss (.tmp 11) (.tmp 10)),
        .cond (.tmp 12) [] [
          .exit 0],
        .block 1 [
          .op none (some 13) (.iaddr 1 (.tmp 9) (.tmp 11)),
          .op none (some 14) (.load1 (.tmp 13)),
          .op none (some 5) (.mov (.tmp 14)),
          .op none (some 15) (.mov (.tmp 3)),
          .op none (some 16) (.mov (.tmp 5)),
          .op none (some 17) (.lenS (.tmp 16)),
          .op none (some 18) (.ibin .add (.tmp 15) (.tmp 17)),
          .op none (some 3) (.mov (.tmp 18)),
          .op none (some 19) (.mov (.tmp 3)),
          .op none (some 20) (.ibin .lss (.tmp 19) (.const (.int .i64 0))),
          .cond (.tmp 20) [
            .op none (some 21) (.mkIface T_string (.const (.string ⟨#[108, 101, 110, 32, 111, 117, 116, 32, 111, 102, 32, 114, 97, 110, 103, 101]⟩))),
            .op none none (.trap)] []],
        .op none (some 22) (.ibin .add (.tmp 11) (.const (.int .i64 1))),
        .op none (some 11) (.mov (.tmp 22))]],
    .op none (some 23) (.mov (.tmp 3)),
    .op none (some 24) (.call f_slices_Grow_byte_byte #[(.const (.slice none 0 0)), (.tmp 23)]),
    .op none (some 6) (.mov (.tmp 24)),
    .op none (some 25) (.mov (.tmp 0)),
    .op none (some 26) (.lenS (.tmp 25)),
    .op none (some 27) (.mov (.const (.int .i64 0))),
    .block 2 [
      .loop [
        .op none (some 28) (.ibin .lss (.tmp 27) (.tmp 26)),
        .cond (.tmp 28) [] [
          .exit 2],
        .block 3 [
          .op none (some 29) (.iaddr 1 (.tmp 25) (.tmp 27)),
          .op none (some 30) (.load1 (.tmp 29)),
          .op none (some 8) (.mov (.tmp 30)),
          .op none (some 31) (.mov (.tmp 6)),
          .op none (some 32) (.mov (.tmp 8)),
          .op none (some 33) (.append T_uint8 1 1 (rle [(1, .int .u8 0)]) (.tmp 31) (.tmp 32)),
          .op none (some 6) (.mov (.tmp 33))],
        .op none (some 34) (.ibin .add (.tmp 27) (.const (.int .i64 1))),
        .op none (some 27) (.mov (.tmp 34))]],
    .op none (some 35) (.mov (.tmp 6)),
    .op none (some 2) (.mov (.tmp 35)),
    .ret] }
def b_maps_Keys_map_uint64int_uint64_int (f_maps_Keys_map_uint64int_uint64_int_1 : Nat) (T_map_uint64int : Nat) : Body := { n := 4, res := [.tmp 2], code := [
    .op none (some 1) (.box T_map_uint64int (.tmp 0)),
    .op none (some 2) (.mov (.const (.nilFunc))),
    .op none (some 3) (.fn f_maps_Keys_map_uint64int_uint64_int_1 #[] #[(.tmp 1)]),
    .op none (some 2) (.mov (.tmp 3)),
    .ret] }
def b_slices_BinarySearch_uint64_uint64 (f_cmp_Less_uint64 f_slices_isNaN_uint64 : Nat) : Body := { n := 54, res := [.tmp 4, .tmp 5], code := [
    .op none (some 4) (.mov (.const (.int .i64 0))),
    .op none (some 5) (.mov (.const (.bool false))),
    .op none (some 10) (.mov (.tmp 0)),
    .op none (some 11) (.lenS (.tmp 10)),
    .op none (some 6) (.mov (.tmp 11)),
    .op none (some 12) (.mov (.tmp 6)),
    .op none (some 7) (.mov (.const (.int .i64 0))),
    .op none (some 8) (.mov (.tmp 12)),
    .block 0 [
      .loop [
        .op none (some 13) (.mov (.tmp 7)),
        .op none (some 14) (.mov (.tmp 8)),
        .op none (some 15) (.ibin .lss (.tmp 13) (.tmp 14)),
        .cond (.tmp 15) [] [
          .exit 0],
        .block 1 [
          .op none (some 16) (.mov (.tmp 7)),
          .op none (some 17) (.mov (.tmp 8)),
          .op none (some 18) (.ibin .add (.tmp 16) (.tmp 17)),
          .op none (some 19) (.toInt .u64 (.tmp 18)),
          .op none (some 20) (.ibin .shr (.tmp 19) (.const (.int .u64 1))),
          .op none (some 21) (.toInt .i64 (.tmp 20)),
          .op none (some 9) (.mov (.tmp 21)),
          .op none (some 22) (.mov (.tmp 0)),
          .op none (some 23) (.mov (.tmp 9)),
          .op none (some 24) (.iaddr 1 (.tmp 22) (.tmp 23)),
          .op none (some 25) (.load1 (.tmp 24)),
          .op none (some 26) (.mov (.tmp 1)),
          .op none (some 27) (.call f_cmp_Less_uint64 #[(.tmp 25), (.tmp 26)]),
          .cond (.tmp 27) [
            .op none (some 28) (.mov (.tmp 9)),
            .op none (some 29) (.ibin .add (.tmp 28) (.const (.int .i64 1))),
            .op none (some 7) (.mov (.tmp 29))] [
            .op none (some 30) (.mov (.tmp 9)),
            .op none (some 8) (.mov (.tmp 30))]]]],
    .op none (some 31) (.mov (.tmp 7)),
    .op none (some 32) (.mov (.tmp 7)),
    .op none (some 33) (.mov (.tmp 6)),
    .op none (some 34) (.ibin .lss (.tmp 32) (.tmp 33)),
    .op none (some 35) (.mov (.tmp 34)),
    .op (some (some 35, true)) (some 36) (.mov (.tmp 0)),
    .op (some (some 35, true)) (some 37) (.mov (.tmp 7)),
    .op (some (some 35, true)) (some 38) (.iaddr 1 (.tmp 36) (.tmp 37)),
    .op (some (some 35, true)) (some 39) (.load1 (.tmp 38)),
    .op (some (some 35, true)) (some 40) (.mov (.tmp 1)),
    .op (some (some 35, true)) (some 41) (.ibin .eql (.tmp 39) (.tmp 40)),
    .op (some (some 35, true)) (some 42) (.mov (.tmp 41)),
    .op (some (some 42, false)) (some 43) (.mov (.tmp 0)),
    .op (some (some 42, false)) (some 44) (.mov (.tmp 7)),
    .op (some (some 42, false)) (some 45) (.iaddr 1 (.tmp 43) (.tmp 44)),
    .op (some (some 42, false)) (some 46) (.load1 (.tmp 45)),
    .op (some (some 42, false)) (some 47) (.call f_slices_isNaN_uint64 #[(.tmp 46)]),
    .op (some (some 42, false)) (some 48) (.mov (.tmp 47)),
    .op (some (some 48, true)) (some 49) (.mov (.tmp 1)),
    .op (some (some 48, true)) (some 50) (.call f_slices_isNaN_uint64 #[(.tmp 49)]),
    .op (some (some 42, false)) (some 51) (.pick (.tmp 48) (.tmp 50) (.const (.bool false))),
    .op (some (some 35, true)) (some 52) (.pick (.tmp 42) (.const (.bool true)) (.tmp 51)),
    .op none (some 53) (.pick (.tmp 35) (.tmp 52) (.const (.bool false))),
    .op none (some 4) (.mov (.tmp 31)),
    .op none (some 5) (.mov (.tmp 53)),
    .ret] }
def b_slices_Collect_uint64 (f_slices_AppendSeq_uint64_uint64 : Nat) : Body := { n := 5, res := [.tmp 2], code := [
    .op none (some 2) (.mov (.const (.slice none 0 0))),
    .op none (some 3) (.mov (.tmp 0)),
    .op none (some 4) (.call f_slices_AppendSeq_uint64_uint64 #[(.const (.slice none 0 0)), (.tmp 3)]),
    .op none (some 2) (.mov (.tmp 4)),
    .ret] }
def b_slices_Sort_uint64_uint64 (f_math_bits_Len f_slices_pdqsortOrdered_uint64 : Nat) : Body := { n := 11, res := [], code := [
    .op none (some 3) (.mov (.tmp 0)),
    .op none (some 4) (.lenS (.tmp 3)),
    .op none (some 2) (.mov (.tmp 4)),
    .op none (some 5) (.mov (.tmp 0)),
    .op none (some 6) (.mov (.tmp 2)),
    .op none (some 7) (.mov (.tmp 2)),
    .op none (some 8) (.toInt .u64 (.tmp 7)),
    .op none (some 9) (.call f_math_bits_Len #[(.tmp 8)]),
    .op none (some 10) (.call f_slices_pdqsortOrdered_uint64 #[(.tmp 5), (.const (.int .i64 0)), (.tmp 6), (.tmp 9)])] }
def b_maps_Values_map_api_Hashuint64_api_Hash_uint64_1 : Body := { n := 15, res := [], code := [
    .op none (some 5) (.load1 (.tmp 1)),
    .op none (some 6) (.range (.tmp 5)),
    .block 0 [
      .loop [
        .op none (some 7) (.next (.tmp 6)),
        .op none (some 8) (.ext (.tmp 7) 0),
        .cond (.tmp 8) [] [
          .exit 0],
        .block 1 [
          .op none (some 9) (.entry (.tmp 6)),
          .op none (some 10) (.ext (.tmp 9) 1),
          .op none (some 4) (.mov (.tmp 10)),
          .op none (some 11) (.mov (.tmp 0)),
          .op none (some 12) (.mov (.tmp 4)),
          .op none (some 13) (.callv (.tmp 11) #[(.tmp 12)]),
          .op none (some 14) (.un .not (.tmp 13)),
          .cond (.tmp 14) [
            .ret] []]]]] }
def b_maps_Copy_map_api_Hashuint64_map_api_Hashuint64_api_Hash_uint64 (T_api_Hash : Nat) : Body := { n := 16, res := [], code := [
    .op none (some 6) (.mov (.tmp 1)),
    .op none (some 7) (.range (.tmp 6)),
    .block 0 [
      .loop [
        .op none (some 8) (.next (.tmp 7)),
        .op none (some 9) (.ext (.tmp 8) 0),
        .cond (.tmp 9) [] [
          .exit 0],
        .block 1 [
          .op none (some 10) (.entry (.tmp 7)),
          .op none (some 11) (.ext (.tmp 10) 0),
          .op none (some 12) (.ext (.tmp 10) 1),
          .op none (some 4) (.new T_api_Hash (rle [(32, .int .u8 0)])),
          .op none none (.store 32 (.tmp 4) (.tmp 11)),
          .op none (some 5) (.mov (.tmp 12)),
          .op none (some 13) (.mov (.tmp 0)),
          .op none (some 14) (.loadN 32 (.tmp 4)),
          .op none (some 15) (.mov (.tmp 5)),
          .op none none (.mapUpd T_api_Hash (.tmp 13) (.tmp 14) (.tmp 15))]]]] }
def b_slices_Collect_api_Hash (f_slices_AppendSeq_api_Hash_api_Hash : Nat) : Body := { n := 5, res := [.tmp 2], code := [
    .op none (some 2) (.mov (.const (.slice none 0 0))),
    .op none (some 3) (.mov (.tmp 0)),
    .op none (some 4) (.call f_slices_AppendSeq_api_Hash_api_Hash #[(.const (.slice none 0 0)), (.tmp 3)]),
    .op none (some 2) (.mov (.tmp 4)),
    .ret] }
def b_maps_Keys_map_api_Hashuint64_api_Hash_uint64_1 (T_api_Hash : Nat) : Body := { n := 14, res := [], code := [
    .op none (some 4) (.load1 (.tmp 1)),
    .op none (some 5) (.range (.tmp 4)),
    .block 0 [
      .loop [
        .op none (some 6) (.next (.tmp 5)),
        .op none (some 7) (.ext (.tmp 6) 0),
        .cond (.tmp 7) [] [
          .exit 0],
        .block 1 [
          .op none (some 8) (.entry (.tmp 5)),
          .op none (some 9) (.ext (.tmp 8) 0),
          .op none (some 3) (.new T_api_Hash (rle [(32, .int .u8 0)])),
          .op none none (.store 32 (.tmp 3) (.tmp 9)),
          .op none (some 10) (.mov (.tmp 0)),
          .op none (some 11) (.loadN 32 (.tmp 3)),
          .op none (some 12) (.callv (.tmp 10) #[(.tmp 11)]),
          .op none (some 13) (.un .not (.tmp 12)),
          .cond (.tmp 13) [
            .ret] []]]]] }
def b_cmp_isNaN_uint64 : Body := { n := 6, res := [.tmp 2], code := [
    .op none (some 2) (.mov (.const (.bool false))),
    .op none (some 3) (.mov (.tmp 0)),
    .op none (some 4) (.mov (.tmp 0)),
    .op none (some 5) (.ibin .neq (.tmp 3) (.tmp 4)),
    .op none (some 2) (.mov (.tmp 5)),
    .ret] }
def b_slices_Chunk_byte_byte (f_slices_Chunk_byte_byte_1 : Nat) (T_SLuint8 T_int T_string : Nat) : Body := { n := 9, res := [.tmp 4], code := [
    .op none (some 2) (.box T_SLuint8 (.tmp 0)),
    .op none (some 3) (.box T_int (.tmp 1)),
    .op none (some 4) (.mov (.const (.nilFunc))),
    .op none (some 5) (.load1 (.tmp 3)),
    .op none (some 6) (.ibin .lss (.tmp 5) (.const (.int .i64 1))),
    .cond (.tmp 6) [
      .op none (some 7) (.mkIface T_string (.const (.string ⟨#[99, 97, 110, 110, 111, 116, 32, 98, 101, 32, 108, 101, 115, 115, 32, 116, 104, 97, 110, 32, 49]⟩))),
      .op none none (.trap)] [],
    .op none (some 8) (.fn f_slices_Chunk_byte_byte_1 #[] #[(.tmp 2), (.tmp 3)]),
    .op none (some 4) (.mov (.tmp 8)),
    .ret] }
def b_slices_Grow_byte_byte (T_string T_uint8 : Nat) : Body := { n := 27, res := [.tmp 4], code := [
    .op none (some 4) (.mov (.const (.slice none 0 0))),
    .op none (some 5) (.mov (.tmp 1)),
    .op none (some 6) (.ibin .lss (.tmp 5) (.const (.int .i64 0))),
    .cond (.tmp 6) [
      .op none (some 7) (.mkIface T_string (.const (.string ⟨#[99, 97, 110, 110, 111, 116, 32, 98, 101, 32, 110, 101, 103, 97, 116, 105, 118, 101]⟩))),
      .op none none (.trap)] [],
    .op none (some 8) (.mov (.tmp 1)),
    .op none (some 9) (.mov (.tmp 0)),
    .op none (some 10) (.capS (.tmp 9)),
    .op none (some 11) (.mov (.tmp 0)),
    .op none (some 12) (.lenS (.tmp 11)),
    .op none (some 13) (.ibin .sub (.tmp 10) (.tmp 12)),
    .op none (some 14) (.ibin .sub (.tmp 8) (.tmp 13)),
    .op none (some 1) (.mov (.tmp 14)),
    .op none (some 15) (.mov (.tmp 1)),
    .op none (some 16) (.ibin .gtr (.tmp 15) (.const (.int .i64 0))),
    .cond (.tmp 16) [
      .op none (some 17) (.mov (.tmp 0)),
      .op none (some 18) (.mov (.tmp 0)),
      .op none (some 19) (.capS (.tmp 18)),
      .op none (some 20) (.slS 1 (.tmp 17) none (some (.tmp 19))),
      .op none (some 21) (.mov (.tmp 1)),
      .op none (some 22) (.growN T_uint8 1 1 (rle [(1, .int .u8 0)]) (.tmp 20) (.tmp 21)),
      .op none (some 23) (.mov (.tmp 0)),
      .op none (some 24) (.lenS (.tmp 23)),
      .op none (some 25) (.slS 1 (.tmp 22) none (some (.tmp 24))),
      .op none (some 0) (.mov (.tmp 25))] [],
    .op none (some 26) (.mov (.tmp 0)),
    .op none (some 4) (.mov (.tmp 26)),
    .ret] }
def b_slices_Values_uint64_uint64 (f_slices_Values_uint64_uint64_1 : Nat) (T_SLuint64 : Nat) : Body := { n := 4, res := [.tmp 2], code := [
    .op none (some 1) (.box T_SLuint64 (.tmp 0)),
    .op none (some 2) (.mov (.const (.nilFunc))),
    .op none (some 3) (.fn f_slices_Values_uint64_uint64_1 #[] #[(.tmp 1)]),
    .op none (some 2) (.mov (.tmp 3)),
    .ret] }
def b_maps_Keys_map_uint64int_uint64_int_1 : Body := { n := 14, res := [], code := [
    .op none (some 4) (.load1 (.tmp 1)),
    .op none (some 5) (.range (.tmp 4)),
    .block 0 [
      .loop [
        .op none (some 6) (.next (.tmp 5)),
        .op none (some 7) (.ext (.tmp 6) 0),
        .cond (.tmp 7) [] [
          .exit 0],
        .block 1 [
          .op none (some 8) (.entry (.tmp 5)),
          .op none (some 9) (.ext (.tmp 8) 0),
          .op none (some 3) (.mov (.tmp 9)),
          .op none (some 10) (.mov (.tmp 0)),
          .op none (some 11) (.mov (.tmp 3)),
          .op none (some 12) (.callv (.tmp 10) #[(.tmp 11)]),
          .op none (some 13) (.un .not (.tmp 12)),
          .cond (.tmp 13) [
            .ret] []]]]] }
def b_cmp_Less_uint64 (f_cmp_isNaN_uint64 : Nat) : Body := { n := 17, res := [.tmp 4], code := [
    .op none (some 4) (.mov (.const (.bool false))),
    .op none (some 5) (.mov (.tmp 0)),
    .op none (some 6) (.call f_cmp_isNaN_uint64 #[(.tmp 5)]),
    .op none (some 7) (.mov (.tmp 6)),
    .op (some (some 7, true)) (some 8) (.mov (.tmp 1)),
    .op (some (some 7, true)) (some 9) (.call f_cmp_isNaN_uint64 #[(.tmp 8)]),
    .op (some (some 7, true)) (some 10) (.un .not (.tmp 9)),
    .op none (some 11) (.pick (.tmp 7) (.tmp 10) (.const (.bool false))),
    .op none (some 12) (.mov (.tmp 11)),
    .op (some (some 12, false)) (some 13) (.mov (.tmp 0)),
    .op (some (some 12, false)) (some 14) (.mov (.tmp 1)),
    .op (some (some 12, false)) (some 15) (.ibin .lss (.tmp 13) (.tmp 14)),
    .op none (some 16) (.pick (.tmp 12) (.const (.bool true)) (.tmp 15)),
    .op none (some 4) (.mov (.tmp 16)),
    .ret] }
def b_slices_isNaN_uint64 : Body := { n := 6, res := [.tmp 2], code := [
    .op none (some 2) (.mov (.const (.bool false))),
    .op none (some 3) (.mov (.tmp 0)),
    .op none (some 4) (.mov (.tmp 0)),
    .op none (some 5) (.ibin .neq (.tmp 3) (.tmp 4)),
    .op none (some 2) (.mov (.tmp 5)),
    .ret] }
def b_slices_AppendSeq_uint64_uint64 (T_SLuint64 T_uint64 : Nat) : Body := { n := 13, res := [.tmp 4], code := [
    .op none (some 2) (.box T_SLuint64 (.tmp 0)),
    .op none (some 4) (.mov (.const (.slice none 0 0))),
    .op none (some 6) (.mov (.tmp 1)),
    .block 0 [
      .rangeF (.tmp 6) #[7] [
        .op none (some 5) (.mov (.tmp 7))] [
        .block 1 [
          .op none (some 8) (.load1 (.tmp 2)),
          .op none (some 9) (.mov (.tmp 5)),
          .op none (some 10) (.mkSlice T_uint64 1 (rle [(1, .int .u64 0)]) [(0, 1, (.tmp 9))]),
          .op none (some 11) (.append T_uint64 1 8 (rle [(1, .int .u64 0)]) (.tmp 8) (.tmp 10)),
          .op none none (.store 1 (.tmp 2) (.tmp 11))]]],
    .op none (some 12) (.load1 (.tmp 2)),
    .op none (some 4) (.mov (.tmp 12)),
    .ret] }
def b_slices_AppendSeq_api_Hash_api_Hash (T_SLapi_Hash T_api_Hash : Nat) : Body := { n := 13, res := [.tmp 4], code := [
    .op none (some 2) (.box T_SLapi_Hash (.tmp 0)),
    .op none (some 4) (.mov (.const (.slice none 0 0))),
    .op none (some 6) (.mov (.tmp 1)),
    .block 0 [
      .rangeF (.tmp 6) #[7] [
        .op none (some 5) (.new T_api_Hash (rle [(32, .int .u8 0)])),
        .op none none (.store 32 (.tmp 5) (.tmp 7))] [
        .block 1 [
          .op none (some 8) (.load1 (.tmp 2)),
          .op none (some 9) (.loadN 32 (.tmp 5)),
          .op none (some 10) (.mkSlice T_api_Hash 1 (rle [(32, .int .u8 0)]) [(0, 32, (.tmp 9))]),
          .op none (some 11) (.append T_api_Hash 32 32 (rle [(32, .int .u8 0)]) (.tmp 8) (.tmp 10)),
          .op none none (.store 1 (.tmp 2) (.tmp 11))]]],
    .op none (some 12) (.load1 (.tmp 2)),
    .op none (some 4) (.mov (.tmp 12)),
    .ret] }
def b_slices_Chunk_byte_byte_1 : Body := { n := 31, res := [], code := [
    .op none (some 4) (.mov (.const (.int .i64 0))),
    .block 0 [
      .loop [
        .op none (some 6) (.mov (.tmp 4)),
        .op none (some 7) (.load1 (.tmp 1)),
        .op none (some 8) (.lenS (.tmp 7)),
        .op none (some 9) (.ibin .lss (.tmp 6) (.tmp 8)),
        .cond (.tmp 9) [] [
          .exit 0],
        .block 1 [
          .draw [
            ([], none, (some 13), .load1 (.tmp 2)),
            ([], none, (some 14), .load1 (.tmp 1)),
            ([], none, (some 15), .mov (.tmp 4)),
            ([1, 2], none, (some 16), .slS 1 (.tmp 14) (some (.tmp 15)) none),
            ([3, 1, 2], none, (some 17), .lenS (.tmp 16))] [
            .op none (some 18) (.min2 (.tmp 13) (.tmp 17)),
            .op none (some 5) (.mov (.tmp 18))],
          .op none (some 19) (.mov (.tmp 0)),
          .op none (some 20) (.load1 (.tmp 1)),
          .op none (some 21) (.mov (.tmp 4)),
          .op none (some 22) (.mov (.tmp 4)),
          .op none (some 23) (.mov (.tmp 5)),
          .op none (some 24) (.ibin .add (.tmp 22) (.tmp 23)),
          .op none (some 25) (.mov (.tmp 4)),
          .op none (some 26) (.mov (.tmp 5)),
          .op none (some 27) (.ibin .add (.tmp 25) (.tmp 26)),
          .op none (some 28) (.slS3 1 (.tmp 20) (some (.tmp 21)) (some (.tmp 24)) (some (.tmp 27))),
          .op none (some 29) (.callv (.tmp 19) #[(.tmp 28)]),
          .op none (some 30) (.un .not (.tmp 29)),
          .cond (.tmp 30) [
            .ret] []],
        .op none (some 10) (.mov (.tmp 4)),
        .op none (some 11) (.load1 (.tmp 2)),
        .op none (some 12) (.ibin .add (.tmp 10) (.tmp 11)),
        .op none (some 4) (.mov (.tmp 12))]]] }
def b_slices_Clone_byte_byte (T_SLuint8 T_uint8 : Nat) : Body := { n := 8, res := [.tmp 2], code := [
    .op none (some 2) (.mov (.const (.slice none 0 0))),
    .op none (some 3) (.mov (.tmp 0)),
    .op none (some 4) (.bin .eql T_SLuint8 (.tmp 3) (.const (.slice none 0 0))),
    .cond (.tmp 4) [
      .op none (some 2) (.mov (.const (.slice none 0 0))),
      .ret] [],
    .op none (some 5) (.mkSlice T_uint8 0 (rle []) []),
    .op none (some 6) (.mov (.tmp 0)),
    .op none (some 7) (.append T_uint8 1 1 (rle [(1, .int .u8 0)]) (.tmp 5) (.tmp 6)),
    .op none (some 2) (.mov (.tmp 7)),
    .ret] }
def b_slices_Values_uint64_uint64_1 : Body := { n := 16, res := [], code := [
    .op none (some 5) (.load1 (.tmp 1)),
    .op none (some 6) (.lenS (.tmp 5)),
    .op none (some 7) (.mov (.const (.int .i64 0))),
    .block 0 [
      .loop [
        .op none (some 8) (.ibin .lss (.tmp 7) (.tmp 6)),
        .cond (.tmp 8) [] [
          .exit 0],
        .block 1 [
          .op none (some 9) (.iaddr 1 (.tmp 5) (.tmp 7)),
          .op none (some 10) (.load1 (.tmp 9)),
          .op none (some 4) (.mov (.tmp 10)),
          .op none (some 11) (.mov (.tmp 0)),
          .op none (some 12) (.mov (.tmp 4)),
          .op none (some 13) (.callv (.tmp 11) #[(.tmp 12)]),
          .op none (some 14) (.un .not (.tmp 13)),
          .cond (.tmp 14) [
            .ret] []],
        .op none (some 15) (.ibin .add (.tmp 7) (.const (.int .i64 1))),
        .op none (some 7) (.mov (.tmp 15))]]] }
end Go.Sp

namespace Go.Sp
def b_slices_pdqsortOrdered_uint64 (f_slices_insertionSortOrdered_uint64 f_slices_heapSortOrdered_uint64 f_slices_breakPatternsOrdered_uint64 f_slices_choosePivotOrdered_uint64 f_slices_reverseRangeOrdered_uint64 f_slices_partialInsertionSortOrdered_uint64 f_cmp_Less_uint64 f_slices_partitionEqualOrdered_uint64 f_slices_partitionOrdered_uint64 f_slices_pdqsortOrdered_uint64 : Nat) : Body := { n := 134, res := [], code := [
    .op none (some 8) (.mov (.const (.bool true))),
    .op none (some 9) (.mov (.const (.bool true))),
    .block 0 [
      .loop [
        .block 1 [
          .op none (some 19) (.mov (.tmp 2)),
          .op none (some 20) (.mov (.tmp 1)),
          .op none (some 21) (.ibin .sub (.tmp 19) (.tmp 20)),
          .op none (some 10) (.mov (.tmp 21)),
          .op none (some 22) (.mov (.tmp 10)),
          .op none (some 23) (.ibin .leq (.tmp 22) (.const (.int .i64 12))),
          .cond (.tmp 23) [
            .op none (some 24) (.mov (.tmp 0)),
            .op none (some 25) (.mov (.tmp 1)),
            .op none (some 26) (.mov (.tmp 2)),
            .op none (some 27) (.call f_slices_insertionSortOrdered_uint64 #[(.tmp 24), (.tmp 25), (.tmp 26)]),
            .ret] [],
          .op none (some 28) (.mov (.tmp 3)),
          .op none (some 29) (.ibin .eql (.tmp 28) (.const (.int .i64 0))),
          .cond (.tmp 29) [
            .op none (some 30) (.mov (.tmp 0)),
            .op none (some 31) (.mov (.tmp 1)),
            .op none (some 32) (.mov (.tmp 2)),
            .op none (some 33) (.call f_slices_heapSortOrdered_uint64 #[(.tmp 30), (.tmp 31), (.tmp 32)]),
            .ret] [],
          .op none (some 34) (.mov (.tmp 8)),
          .op none (some 35) (.un .not (.tmp 34)),
          .cond (.tmp 35) [
            .op none (some 36) (.mov (.tmp 0)),
            .op none (some 37) (.mov (.tmp 1)),
            .op none (some 38) (.mov (.tmp 2)),
            .op none (some 39) (.call f_slices_breakPatternsOrdered_uint64 #[(.tmp 36), (.tmp 37), (.tmp 38)]),
            .op none (some 40) (.mov (.tmp 3)),
            .op none (some 41) (.ibin .sub (.tmp 40) (.const (.int .i64 1))),
            .op none (some 3) (.mov (.tmp 41))] [],
          .op none (some 43) (.mov (.tmp 0)),
          .op none (some 44) (.mov (.tmp 1)),
          .op none (some 45) (.mov (.tmp 2)),
          .op none (some 46) (.call f_slices_choosePivotOrdered_uint64 #[(.tmp 43), (.tmp 44), (.tmp 45)]),
          .op none (some 42) (.mov (.tmp 46)),
          .op none (some 47) (.ext (.tmp 42) 0),
          .op none (some 48) (.ext (.tmp 42) 1),
          .op none (some 11) (.mov (.tmp 47)),
          .op none (some 12) (.mov (.tmp 48)),
          .op none (some 49) (.mov (.tmp 12)),
          .op none (some 50) (.ibin .eql (.tmp 49) (.const (.int .i64 2))),
          .cond (.tmp 50) [
            .op none (some 51) (.mov (.tmp 0)),
            .op none (some 52) (.mov (.tmp 1)),
            .op none (some 53) (.mov (.tmp 2)),
            .op none (some 54) (.call f_slices_reverseRangeOrdered_uint64 #[(.tmp 51), (.tmp 52), (.tmp 53)]),
            .op none (some 55) (.mov (.tmp 2)),
            .op none (some 56) (.ibin .sub (.tmp 55) (.const (.int .i64 1))),
            .op none (some 57) (.mov (.tmp 11)),
            .op none (some 58) (.mov (.tmp 1)),
            .op none (some 59) (.ibin .sub (.tmp 57) (.tmp 58)),
            .op none (some 60) (.ibin .sub (.tmp 56) (.tmp 59)),
            .op none (some 11) (.mov (.tmp 60)),
            .op none (some 12) (.mov (.const (.int .i64 1)))] [],
          .op none (some 61) (.mov (.tmp 8)),
          .op none (some 62) (.mov (.tmp 61)),
          .op (some (some 62, true)) (some 63) (.mov (.tmp 9)),
          .op none (some 64) (.pick (.tmp 62) (.tmp 63) (.const (.bool false))),
          .op none (some 65) (.mov (.tmp 64)),
          .op (some (some 65, true)) (some 66) (.mov (.tmp 12)),
          .op (some (some 65, true)) (some 67) (.ibin .eql (.tmp 66) (.const (.int .i64 1))),
          .op none (some 68) (.pick (.tmp 65) (.tmp 67) (.const (.bool false))),
          .cond (.tmp 68) [
            .op none (some 69) (.mov (.tmp 0)),
            .op none (some 70) (.mov (.tmp 1)),
            .op none (some 71) (.mov (.tmp 2)),
            .op none (some 72) (.call f_slices_partialInsertionSortOrdered_uint64 #[(.tmp 69), (.tmp 70), (.tmp 71)]),
            .cond (.tmp 72) [
              .ret] []] [],
          .draw [
            ([], none, (some 73), .mov (.tmp 1)),
            ([0], none, (some 74), .ibin .gtr (.tmp 73) (.const (.int .i64 0))),
            ([1, 0], none, (some 75), .mov (.tmp 74)),
            ([2, 1, 0], (some (some 75, true)), (some 76), .mov (.tmp 0)),
            ([2, 1, 0], (some (some 75, true)), (some 77), .mov (.tmp 1)),
            ([4, 2, 1, 0], (some (some 75, true)), (some 78), .ibin .sub (.tmp 77) (.const (.int .i64 1))),
            ([3, 5, 2, 1, 0, 4], (some (some 75, true)), (some 79), .iaddr 1 (.tmp 76) (.tmp 78)),
            ([6, 2, 3, 5, 1, 0, 4], (some (some 75, true)), (some 80), .load1 (.tmp 79)),
            ([2, 1, 0], (some (some 75, true)), (some 81), .mov (.tmp 0)),
            ([2, 1, 0], (some (some 75, true)), (some 82), .mov (.tmp 11)),
            ([8, 9, 2, 1, 0], (some (some 75, true)), (some 83), .iaddr 1 (.tmp 81) (.tmp 82)),
            ([10, 2, 8, 9, 1, 0], (some (some 75, true)), (some 84), .load1 (.tmp 83))] [
            .op (some (some 75, true)) (some 85) (.call f_cmp_Less_uint64 #[(.tmp 80), (.tmp 84)]),
            .op (some (some 75, true)) (some 86) (.un .not (.tmp 85)),
            .op none (some 87) (.pick (.tmp 75) (.tmp 86) (.const (.bool false)))],
          .cond (.tmp 87) [
            .op none (some 88) (.mov (.tmp 0)),
            .op none (some 89) (.mov (.tmp 1)),
            .op none (some 90) (.mov (.tmp 2)),
            .op none (some 91) (.mov (.tmp 11)),
            .op none (some 92) (.call f_slices_partitionEqualOrdered_uint64 #[(.tmp 88), (.tmp 89), (.tmp 90), (.tmp 91)]),
            .op none (some 13) (.mov (.tmp 92)),
            .op none (some 93) (.mov (.tmp 13)),
            .op none (some 1) (.mov (.tmp 93)),
            .exit 1] [],
          .op none (some 95) (.mov (.tmp 0)),
          .op none (some 96) (.mov (.tmp 1)),
          .op none (some 97) (.mov (.tmp 2)),
          .op none (some 98) (.mov (.tmp 11)),
          .op none (some 99) (.call f_slices_partitionOrdered_uint64 #[(.tmp 95), (.tmp 96), (.tmp 97), (.tmp 98)]),
          .op none (some 94) (.mov (.tmp 99)),
          .op none (some 100) (.ext (.tmp 94) 0),
          .op none (some 101) (.ext (.tmp 94) 1),
          .op none (some 14) (.mov (.tmp 100)),
          .op none (some 15) (.mov (.tmp 101)),
          .op none (some 102) (.mov (.tmp 15)),
          .op none (some 9) (.mov (.tmp 102)),
          .op none (some 103) (.mov (.tmp 14)),
          .op none (some 104) (.mov (.tmp 1)),
          .op none (some 105) (.ibin .sub (.tmp 103) (.tmp 104)),
          .op none (some 106) (.mov (.tmp 2)),
          .op none (some 107) (.mov (.tmp 14)),
          .op none (some 108) (.ibin .sub (.tmp 106) (.tmp 107)),
          .op none (some 16) (.mov (.tmp 105)),
          .op none (some 17) (.mov (.tmp 108)),
          .op none (some 109) (.mov (.tmp 10)),
          .op none (some 110) (.ibin .quo (.tmp 109) (.const (.int .i64 8))),
          .op none (some 18) (.mov (.tmp 110)),
          .op none (some 111) (.mov (.tmp 16)),
          .op none (some 112) (.mov (.tmp 17)),
          .op none (some 113) (.ibin .lss (.tmp 111) (.tmp 112)),
          .cond (.tmp 113) [
            .op none (some 114) (.mov (.tmp 16)),
            .op none (some 115) (.mov (.tmp 18)),
            .op none (some 116) (.ibin .geq (.tmp 114) (.tmp 115)),
            .op none (some 8) (.mov (.tmp 116)),
            .op none (some 117) (.mov (.tmp 0)),
            .op none (some 118) (.mov (.tmp 1)),
            .op none (some 119) (.mov (.tmp 14)),
            .op none (some 120) (.mov (.tmp 3)),
            .op none (some 121) (.call f_slices_pdqsortOrdered_uint64 #[(.tmp 117), (.tmp 118), (.tmp 119), (.tmp 120)]),
            .op none (some 122) (.mov (.tmp 14)),
            .op none (some 123) (.ibin .add (.tmp 122) (.const (.int .i64 1))),
            .op none (some 1) (.mov (.tmp 123))] [
            .op none (some 124) (.mov (.tmp 17)),
            .op none (some 125) (.mov (.tmp 18)),
            .op none (some 126) (.ibin .geq (.tmp 124) (.tmp 125)),
            .op none (some 8) (.mov (.tmp 126)),
            .op none (some 127) (.mov (.tmp 0)),
            .op none (some 128) (.mov (.tmp 14)),
            .op none (some 129) (.ibin .add (.tmp 128) (.const (.int .i64 1))),
            .op none (some 130) (.mov (.tmp 2)),
            .op none (some 131) (.mov (.tmp 3)),
            .op none (some 132) (.call f_slices_pdqsortOrdered_uint64 #[(.tmp 127), (.tmp 129), (.tmp 130), (.tmp 131)]),
            .op none (some 133) (.mov (.tmp 14)),
            .op none (some 2) (.mov (.tmp 133))]]]]] }
def b_slices_insertionSortOrdered_uint64 (f_cmp_Less_uint64 : Nat) : Body := { n := 49, res := [], code := [
    .op none (some 8) (.mov (.tmp 1)),
    .op none (some 9) (.ibin .add (.tmp 8) (.const (.int .i64 1))),
    .op none (some 6) (.mov (.tmp 9)),
    .block 0 [
      .loop [
        .op none (some 10) (.mov (.tmp 6)),
        .op none (some 11) (.mov (.tmp 2)),
        .op none (some 12) (.ibin .lss (.tmp 10) (.tmp 11)),
        .cond (.tmp 12) [] [
          .exit 0],
        .block 1 [
          .op none (some 15) (.mov (.tmp 6)),
          .op none (some 7) (.mov (.tmp 15)),
          .block 2 [
            .loop [
              .draw [
                ([], none, (some 16), .mov (.tmp 7)),
                ([], none, (some 17), .mov (.tmp 1)),
                ([0, 1], none, (some 18), .ibin .gtr (.tmp 16) (.tmp 17)),
                ([2, 0, 1], none, (some 19), .mov (.tmp 18)),
                ([3, 2, 0, 1], (some (some 19, true)), (some 20), .mov (.tmp 0)),
                ([3, 2, 0, 1], (some (some 19, true)), (some 21), .mov (.tmp 7)),
                ([4, 5, 3, 2, 0, 1], (some (some 19, true)), (some 22), .iaddr 1 (.tmp 20) (.tmp 21)),
                ([6, 3, 4, 5, 2, 0, 1], (some (some 19, true)), (some 23), .load1 (.tmp 22)),
                ([3, 2, 0, 1], (some (some 19, true)), (some 24), .mov (.tmp 0)),
                ([3, 2, 0, 1], (some (some 19, true)), (some 25), .mov (.tmp 7)),
                ([9, 3, 2, 0, 1], (some (some 19, true)), (some 26), .ibin .sub (.tmp 25) (.const (.int .i64 1))),
                ([8, 10, 3, 2, 0, 1, 9], (some (some 19, true)), (some 27), .iaddr 1 (.tmp 24) (.tmp 26)),
                ([11, 3, 8, 10, 2, 0, 1, 9], (some (some 19, true)), (some 28), .load1 (.tmp 27))] [
                .op (some (some 19, true)) (some 29) (.call f_cmp_Less_uint64 #[(.tmp 23), (.tmp 28)]),
                .op none (some 30) (.pick (.tmp 19) (.tmp 29) (.const (.bool false)))],
              .cond (.tmp 30) [] [
                .exit 2],
              .block 3 [
                .draw [
                  ([], none, (some 33), .mov (.tmp 0)),
                  ([], none, (some 34), .mov (.tmp 7)),
                  ([], none, (some 35), .mov (.tmp 0)),
                  ([], none, (some 36), .mov (.tmp 7)),
                  ([3], none, (some 37), .ibin .sub (.tmp 36) (.const (.int .i64 1))),
                  ([], none, (some 38), .mov (.tmp 0)),
                  ([], none, (some 39), .mov (.tmp 7)),
                  ([6], none, (some 40), .ibin .sub (.tmp 39) (.const (.int .i64 1))),
                  ([5, 7, 6], none, (some 41), .iaddr 1 (.tmp 38) (.tmp 40)),
                  ([8, 5, 7, 6], none, (some 42), .load1 (.tmp 41)),
                  ([], none, (some 43), .mov (.tmp 0)),
                  ([], none, (some 44), .mov (.tmp 7)),
                  ([10, 11], none, (some 45), .iaddr 1 (.tmp 43) (.tmp 44)),
                  ([12, 10, 11], none, (some 46), .load1 (.tmp 45)),
                  ([0, 1, 5, 6, 7, 8, 9, 13, 12, 10, 11], none, (some 47), .iaddr 1 (.tmp 33) (.tmp 34)),
                  ([14, 9, 0, 1, 5, 6, 7, 8, 13, 12, 10, 11], none, none, .store 1 (.tmp 47) (.tmp 42))] [
                  .op none (some 48) (.iaddr 1 (.tmp 35) (.tmp 37)),
                  .op none none (.store 1 (.tmp 48) (.tmp 46))]],
              .op none (some 31) (.mov (.tmp 7)),
              .op none (some 32) (.ibin .sub (.tmp 31) (.const (.int .i64 1))),
              .op none (some 7) (.mov (.tmp 32))]]],
        .op none (some 13) (.mov (.tmp 6)),
        .op none (some 14) (.ibin .add (.tmp 13) (.const (.int .i64 1))),
        .op none (some 6) (.mov (.tmp 14))]]] }
def b_slices_heapSortOrdered_uint64 (f_slices_siftDownOrdered_uint64 : Nat) : Body := { n := 56, res := [], code := [
    .op none (some 11) (.mov (.tmp 1)),
    .op none (some 6) (.mov (.tmp 11)),
    .op none (some 7) (.mov (.const (.int .i64 0))),
    .op none (some 12) (.mov (.tmp 2)),
    .op none (some 13) (.mov (.tmp 1)),
    .op none (some 14) (.ibin .sub (.tmp 12) (.tmp 13)),
    .op none (some 8) (.mov (.tmp 14)),
    .op none (some 15) (.mov (.tmp 8)),
    .op none (some 16) (.ibin .sub (.tmp 15) (.const (.int .i64 1))),
    .op none (some 17) (.ibin .quo (.tmp 16) (.const (.int .i64 2))),
    .op none (some 9) (.mov (.tmp 17)),
    .block 0 [
      .loop [
        .op none (some 18) (.mov (.tmp 9)),
        .op none (some 19) (.ibin .geq (.tmp 18) (.const (.int .i64 0))),
        .cond (.tmp 19) [] [
          .exit 0],
        .block 1 [
          .op none (some 22) (.mov (.tmp 0)),
          .op none (some 23) (.mov (.tmp 9)),
          .op none (some 24) (.mov (.tmp 8)),
          .op none (some 25) (.mov (.tmp 6)),
          .op none (some 26) (.call f_slices_siftDownOrdered_uint64 #[(.tmp 22), (.tmp 23), (.tmp 24), (.tmp 25)])],
        .op none (some 20) (.mov (.tmp 9)),
        .op none (some 21) (.ibin .sub (.tmp 20) (.const (.int .i64 1))),
        .op none (some 9) (.mov (.tmp 21))]],
    .op none (some 27) (.mov (.tmp 8)),
    .op none (some 28) (.ibin .sub (.tmp 27) (.const (.int .i64 1))),
    .op none (some 10) (.mov (.tmp 28)),
    .block 2 [
      .loop [
        .op none (some 29) (.mov (.tmp 10)),
        .op none (some 30) (.ibin .geq (.tmp 29) (.const (.int .i64 0))),
        .cond (.tmp 30) [] [
          .exit 2],
        .block 3 [
          .draw [
            ([], none, (some 33), .mov (.tmp 0)),
            ([], none, (some 34), .mov (.tmp 6)),
            ([], none, (some 35), .mov (.tmp 0)),
            ([], none, (some 36), .mov (.tmp 6)),
            ([], none, (some 37), .mov (.tmp 10)),
            ([3, 4], none, (some 38), .ibin .add (.tmp 36) (.tmp 37)),
            ([], none, (some 39), .mov (.tmp 0)),
            ([], none, (some 40), .mov (.tmp 6)),
            ([], none, (some 41), .mov (.tmp 10)),
            ([7, 8], none, (some 42), .ibin .add (.tmp 40) (.tmp 41)),
            ([6, 9, 7, 8], none, (some 43), .iaddr 1 (.tmp 39) (.tmp 42)),
            ([10, 6, 9, 7, 8], none, (some 44), .load1 (.tmp 43)),
            ([], none, (some 45), .mov (.tmp 0)),
            ([], none, (some 46), .mov (.tmp 6)),
            ([12, 13], none, (some 47), .iaddr 1 (.tmp 45) (.tmp 46)),
            ([14, 12, 13], none, (some 48), .load1 (.tmp 47)),
            ([0, 1, 6, 7, 8, 9, 10, 11, 15, 14, 12, 13], none, (some 49), .iaddr 1 (.tmp 33) (.tmp 34)),
            ([16, 11, 0, 1, 6, 7, 8, 9, 10, 15, 14, 12, 13], none, none, .store 1 (.tmp 49) (.tmp 44))] [
            .op none (some 50) (.iaddr 1 (.tmp 35) (.tmp 38)),
            .op none none (.store 1 (.tmp 50) (.tmp 48))],
          .op none (some 51) (.mov (.tmp 0)),
          .op none (some 52) (.mov (.tmp 7)),
          .op none (some 53) (.mov (.tmp 10)),
          .op none (some 54) (.mov (.tmp 6)),
          .op none (some 55) (.call f_slices_siftDownOrdered_uint64 #[(.tmp 51), (.tmp 52), (.tmp 53), (.tmp 54)])],
        .op none (some 31) (.mov (.tmp 10)),
        .op none (some 32) (.ibin .sub (.tmp 31) (.const (.int .i64 1))),
        .op none (some 10) (.mov (.tmp 32))]]] }
def b_slices_breakPatternsOrdered_uint64 (f_slices_nextPowerOfTwo f_Pslices_xorshift_Next : Nat) (T_slices_xorshift : Nat) : Body := { n := 65, res := [], code := [
    .op none (some 11) (.mov (.tmp 2)),
    .op none (some 12) (.mov (.tmp 1)),
    .op none (some 13) (.ibin .sub (.tmp 11) (.tmp 12)),
    .op none (some 6) (.mov (.tmp 13)),
    .op none (some 14) (.mov (.tmp 6)),
    .op none (some 15) (.ibin .geq (.tmp 14) (.const (.int .i64 8))),
    .cond (.tmp 15) [
      .op none (some 16) (.mov (.tmp 6)),
      .op none (some 17) (.toInt .u64 (.tmp 16)),
      .op none (some 7) (.new T_slices_xorshift (rle [(1, .int .u64 0)])),
      .op none none (.store 1 (.tmp 7) (.tmp 17)),
      .op none (some 18) (.mov (.tmp 6)),
      .op none (some 19) (.call f_slices_nextPowerOfTwo #[(.tmp 18)]),
      .op none (some 8) (.mov (.tmp 19)),
      .op none (some 20) (.mov (.tmp 1)),
      .op none (some 21) (.mov (.tmp 6)),
      .op none (some 22) (.ibin .quo (.tmp 21) (.const (.int .i64 4))),
      .op none (some 23) (.ibin .mul (.tmp 22) (.const (.int .i64 2))),
      .op none (some 24) (.ibin .add (.tmp 20) (.tmp 23)),
      .op none (some 25) (.ibin .sub (.tmp 24) (.const (.int .i64 1))),
      .op none (some 9) (.mov (.tmp 25)),
      .block 0 [
        .loop [
          .op none (some 26) (.mov (.tmp 9)),
          .op none (some 27) (.mov (.tmp 1)),
          .op none (some 28) (.mov (.tmp 6)),
          .op none (some 29) (.ibin .quo (.tmp 28) (.const (.int .i64 4))),
          .op none (some 30) (.ibin .mul (.tmp 29) (.const (.int .i64 2))),
          .op none (some 31) (.ibin .add (.tmp 27) (.tmp 30)),
          .op none (some 32) (.ibin .add (.tmp 31) (.const (.int .i64 1))),
          .op none (some 33) (.ibin .leq (.tmp 26) (.tmp 32)),
          .cond (.tmp 33) [] [
            .exit 0],
          .block 1 [
            .op none (some 36) (.call f_Pslices_xorshift_Next #[(.tmp 7)]),
            .op none (some 37) (.mov (.tmp 8)),
            .op none (some 38) (.ibin .sub (.tmp 37) (.const (.int .u64 1))),
            .op none (some 39) (.ibin .and (.tmp 36) (.tmp 38)),
            .op none (some 40) (.toInt .i64 (.tmp 39)),
            .op none (some 10) (.mov (.tmp 40)),
            .op none (some 41) (.mov (.tmp 10)),
            .op none (some 42) (.mov (.tmp 6)),
            .op none (some 43) (.ibin .geq (.tmp 41) (.tmp 42)),
            .cond (.tmp 43) [
              .op none (some 44) (.mov (.tmp 10)),
              .op none (some 45) (.mov (.tmp 6)),
              .op none (some 46) (.ibin .sub (.tmp 44) (.tmp 45)),
              .op none (some 10) (.mov (.tmp 46))] [],
            .draw [
              ([], none, (some 47), .mov (.tmp 0)),
              ([], none, (some 48), .mov (.tmp 9)),
              ([], none, (some 49), .mov (.tmp 0)),
              ([], none, (some 50), .mov (.tmp 1)),
              ([], none, (some 51), .mov (.tmp 10)),
              ([3, 4], none, (some 52), .ibin .add (.tmp 50) (.tmp 51)),
              ([], none, (some 53), .mov (.tmp 0)),
              ([], none, (some 54), .mov (.tmp 1)),
              ([], none, (some 55), .mov (.tmp 10)),
              ([7, 8], none, (some 56), .ibin .add (.tmp 54) (.tmp 55)),
              ([6, 9, 7, 8], none, (some 57), .iaddr 1 (.tmp 53) (.tmp 56)),
              ([10, 6, 9, 7, 8], none, (some 58), .load1 (.tmp 57)),
              ([], none, (some 59), .mov (.tmp 0)),
              ([], none, (some 60), .mov (.tmp 9)),
              ([12, 13], none, (some 61), .iaddr 1 (.tmp 59) (.tmp 60)),
              ([14, 12, 13], none, (some 62), .load1 (.tmp 61)),
              ([0, 1, 6, 7, 8, 9, 10, 11, 15, 14, 12, 13], none, (some 63), .iaddr 1 (.tmp 47) (.tmp 48)),
              ([16, 11, 0, 1, 6, 7, 8, 9, 10, 15, 14, 12, 13], none, none, .store 1 (.tmp 63) (.tmp 58))] [
              .op none (some 64) (.iaddr 1 (.tmp 49) (.tmp 52)),
              .op none none (.store 1 (.tmp 64) (.tmp 62))]],
          .op none (some 34) (.mov (.tmp 9)),
          .op none (some 35) (.ibin .add (.tmp 34) (.const (.int .i64 1))),
          .op none (some 9) (.mov (.tmp 35))]]] []] }
def b_slices_choosePivotOrdered_uint64 (f_slices_medianAdjacentOrdered_uint64 f_slices_medianOrdered_uint64 : Nat) (T_int : Nat) : Body := { n := 57, res := [.tmp 6, .tmp 7], code := [
    .op none (some 6) (.mov (.const (.int .i64 0))),
    .op none (some 7) (.mov (.const (.int .i64 0))),
    .op none (some 13) (.mov (.tmp 2)),
    .op none (some 14) (.mov (.tmp 1)),
    .op none (some 15) (.ibin .sub (.tmp 13) (.tmp 14)),
    .op none (some 8) (.mov (.tmp 15)),
    .op none (some 9) (.new T_int (rle [(1, .int .i64 0)])),
    .op none (some 16) (.mov (.tmp 1)),
    .op none (some 17) (.mov (.tmp 8)),
    .op none (some 18) (.ibin .quo (.tmp 17) (.const (.int .i64 4))),
    .op none (some 19) (.ibin .mul (.tmp 18) (.const (.int .i64 1))),
    .op none (some 20) (.ibin .add (.tmp 16) (.tmp 19)),
    .op none (some 10) (.mov (.tmp 20)),
    .op none (some 21) (.mov (.tmp 1)),
    .op none (some 22) (.mov (.tmp 8)),
    .op none (some 23) (.ibin .quo (.tmp 22) (.const (.int .i64 4))),
    .op none (some 24) (.ibin .mul (.tmp 23) (.const (.int .i64 2))),
    .op none (some 25) (.ibin .add (.tmp 21) (.tmp 24)),
    .op none (some 11) (.mov (.tmp 25)),
    .op none (some 26) (.mov (.tmp 1)),
    .op none (some 27) (.mov (.tmp 8)),
    .op none (some 28) (.ibin .quo (.tmp 27) (.const (.int .i64 4))),
    .op none (some 29) (.ibin .mul (.tmp 28) (.const (.int .i64 3))),
    .op none (some 30) (.ibin .add (.tmp 26) (.tmp 29)),
    .op none (some 12) (.mov (.tmp 30)),
    .op none (some 31) (.mov (.tmp 8)),
    .op none (some 32) (.ibin .geq (.tmp 31) (.const (.int .i64 8))),
    .cond (.tmp 32) [
      .op none (some 33) (.mov (.tmp 8)),
      .op none (some 34) (.ibin .geq (.tmp 33) (.const (.int .i64 50))),
      .cond (.tmp 34) [
        .op none (some 35) (.mov (.tmp 0)),
        .op none (some 36) (.mov (.tmp 10)),
        .op none (some 37) (.call f_slices_medianAdjacentOrdered_uint64 #[(.tmp 35), (.tmp 36), (.tmp 9)]),
        .op none (some 10) (.mov (.tmp 37)),
        .op none (some 38) (.mov (.tmp 0)),
        .op none (some 39) (.mov (.tmp 11)),
        .op none (some 40) (.call f_slices_medianAdjacentOrdered_uint64 #[(.tmp 38), (.tmp 39), (.tmp 9)]),
        .op none (some 11) (.mov (.tmp 40)),
        .op none (some 41) (.mov (.tmp 0)),
        .op none (some 42) (.mov (.tmp 12)),
        .op none (some 43) (.call f_slices_medianAdjacentOrdered_uint64 #[(.tmp 41), (.tmp 42), (.tmp 9)]),
        .op none (some 12) (.mov (.tmp 43))] [],
      .op none (some 44) (.mov (.tmp 0)),
      .op none (some 45) (.mov (.tmp 10)),
      .op none (some 46) (.mov (.tmp 11)),
      .op none (some 47) (.mov (.tmp 12)),
      .op none (some 48) (.call f_slices_medianOrdered_uint64 #[(.tmp 44), (.tmp 45), (.tmp 46), (.tmp 47), (.tmp 9)]),
      .op none (some 11) (.mov (.tmp 48))] [],
    .op none (some 49) (.load1 (.tmp 9)),
    .block 0 [
      .op none (some 52) (.ibin .eql (.tmp 49) (.const (.int .i64 0))),
      .op none (some 51) (.mov (.tmp 52)),
      .cond (.tmp 51) [
        .op none (some 53) (.mov (.tmp 11)),
        .op none (some 6) (.mov (.tmp 53)),
        .op none (some 7) (.mov (.const (.int .i64 1))),
        .ret] [
        .op none (some 55) (.ibin .eql (.tmp 49) (.const (.int .i64 12))),
        .op none (some 54) (.mov (.tmp 55)),
        .cond (.tmp 54) [
          .op none (some 56) (.mov (.tmp 11)),
          .op none (some 6) (.mov (.tmp 56)),
          .op none (some 7) (.mov (.const (.int .i64 2))),
          .ret] [
          .op none (some 50) (.mov (.tmp 11)),
          .op none (some 6) (.mov (.tmp 50)),
          .op none (some 7) (.mov (.const (.int .i64 0))),
          .ret]]]] }
def b_slices_reverseRangeOrdered_uint64 : Body := { n := 32, res := [], code := [
    .op none (some 8) (.mov (.tmp 1)),
    .op none (some 6) (.mov (.tmp 8)),
    .op none (some 9) (.mov (.tmp 2)),
    .op none (some 10) (.ibin .sub (.tmp 9) (.const (.int .i64 1))),
    .op none (some 7) (.mov (.tmp 10)),
    .block 0 [
      .loop [
        .op none (some 11) (.mov (.tmp 6)),
        .op none (some 12) (.mov (.tmp 7)),
        .op none (some 13) (.ibin .lss (.tmp 11) (.tmp 12)),
        .cond (.tmp 13) [] [
          .exit 0],
        .block 1 [
          .draw [
            ([], none, (some 14), .mov (.tmp 0)),
            ([], none, (some 15), .mov (.tmp 6)),
            ([], none, (some 16), .mov (.tmp 0)),
            ([], none, (some 17), .mov (.tmp 7)),
            ([], none, (some 18), .mov (.tmp 0)),
            ([], none, (some 19), .mov (.tmp 7)),
            ([4, 5], none, (some 20), .iaddr 1 (.tmp 18) (.tmp 19)),
            ([6, 4, 5], none, (some 21), .load1 (.tmp 20)),
            ([], none, (some 22), .mov (.tmp 0)),
            ([], none, (some 23), .mov (.tmp 6)),
            ([8, 9], none, (some 24), .iaddr 1 (.tmp 22) (.tmp 23)),
            ([10, 8, 9], none, (some 25), .load1 (.tmp 24)),
            ([0, 1, 4, 5, 6, 7, 11, 10, 8, 9], none, (some 26), .iaddr 1 (.tmp 14) (.tmp 15)),
            ([12, 7, 0, 1, 4, 5, 6, 11, 10, 8, 9], none, none, .store 1 (.tmp 26) (.tmp 21))] [
            .op none (some 27) (.iaddr 1 (.tmp 16) (.tmp 17)),
            .op none none (.store 1 (.tmp 27) (.tmp 25))],
          .op none (some 28) (.mov (.tmp 6)),
          .op none (some 29) (.ibin .add (.tmp 28) (.const (.int .i64 1))),
          .op none (some 6) (.mov (.tmp 29)),
          .op none (some 30) (.mov (.tmp 7)),
          .op none (some 31) (.ibin .sub (.tmp 30) (.const (.int .i64 1))),
          .op none (some 7) (.mov (.tmp 31))]]]] }
def b_slices_partialInsertionSortOrdered_uint64 (f_cmp_Less_uint64 : Nat) : Body := { n := 133, res := [.tmp 6], code := [
    .op none (some 6) (.mov (.const (.bool false))),
    .op none (some 11) (.mov (.tmp 1)),
    .op none (some 12) (.ibin .add (.tmp 11) (.const (.int .i64 1))),
    .op none (some 7) (.mov (.tmp 12)),
    .op none (some 8) (.mov (.const (.int .i64 0))),
    .block 0 [
      .loop [
        .op none (some 13) (.mov (.tmp 8)),
        .op none (some 14) (.ibin .lss (.tmp 13) (.const (.int .i64 5))),
        .cond (.tmp 14) [] [
          .exit 0],
        .block 1 [
          .block 2 [
            .loop [
              .draw [
                ([], none, (some 17), .mov (.tmp 7)),
                ([], none, (some 18), .mov (.tmp 2)),
                ([0, 1], none, (some 19), .ibin .lss (.tmp 17) (.tmp 18)),
                ([2, 0, 1], none, (some 20), .mov (.tmp 19)),
                ([3, 2, 0, 1], (some (some 20, true)), (some 21), .mov (.tmp 0)),
                ([3, 2, 0, 1], (some (some 20, true)), (some 22), .mov (.tmp 7)),
                ([4, 5, 3, 2, 0, 1], (some (some 20, true)), (some 23), .iaddr 1 (.tmp 21) (.tmp 22)),
                ([6, 3, 4, 5, 2, 0, 1], (some (some 20, true)), (some 24), .load1 (.tmp 23)),
                ([3, 2, 0, 1], (some (some 20, true)), (some 25), .mov (.tmp 0)),
                ([3, 2, 0, 1], (some (some 20, true)), (some 26), .mov (.tmp 7)),
                ([9, 3, 2, 0, 1], (some (some 20, true)), (some 27), .ibin .sub (.tmp 26) (.const (.int .i64 1))),
                ([8, 10, 3, 2, 0, 1, 9], (some (some 20, true)), (some 28), .iaddr 1 (.tmp 25) (.tmp 27)),
                ([11, 3, 8, 10, 2, 0, 1, 9], (some (some 20, true)), (some 29), .load1 (.tmp 28))] [
                .op (some (some 20, true)) (some 30) (.call f_cmp_Less_uint64 #[(.tmp 24), (.tmp 29)]),
                .op (some (some 20, true)) (some 31) (.un .not (.tmp 30)),
                .op none (some 32) (.pick (.tmp 20) (.tmp 31) (.const (.bool false)))],
              .cond (.tmp 32) [] [
                .exit 2],
              .block 3 [
                .op none (some 33) (.mov (.tmp 7)),
                .op none (some 34) (.ibin .add (.tmp 33) (.const (.int .i64 1))),
                .op none (some 7) (.mov (.tmp 34))]]],
          .op none (some 35) (.mov (.tmp 7)),
          .op none (some 36) (.mov (.tmp 2)),
          .op none (some 37) (.ibin .eql (.tmp 35) (.tmp 36)),
          .cond (.tmp 37) [
            .op none (some 6) (.mov (.const (.bool true))),
            .ret] [],
          .op none (some 38) (.mov (.tmp 2)),
          .op none (some 39) (.mov (.tmp 1)),
          .op none (some 40) (.ibin .sub (.tmp 38) (.tmp 39)),
          .op none (some 41) (.ibin .lss (.tmp 40) (.const (.int .i64 50))),
          .cond (.tmp 41) [
            .op none (some 6) (.mov (.const (.bool false))),
            .ret] [],
          .draw [
            ([], none, (some 42), .mov (.tmp 0)),
            ([], none, (some 43), .mov (.tmp 7)),
            ([], none, (some 44), .mov (.tmp 0)),
            ([], none, (some 45), .mov (.tmp 7)),
            ([3], none, (some 46), .ibin .sub (.tmp 45) (.const (.int .i64 1))),
            ([], none, (some 47), .mov (.tmp 0)),
            ([], none, (some 48), .mov (.tmp 7)),
            ([6], none, (some 49), .ibin .sub (.tmp 48) (.const (.int .i64 1))),
            ([5, 7, 6], none, (some 50), .iaddr 1 (.tmp 47) (.tmp 49)),
            ([8, 5, 7, 6], none, (some 51), .load1 (.tmp 50)),
            ([], none, (some 52), .mov (.tmp 0)),
            ([], none, (some 53), .mov (.tmp 7)),
            ([10, 11], none, (some 54), .iaddr 1 (.tmp 52) (.tmp 53)),
            ([12, 10, 11], none, (some 55), .load1 (.tmp 54)),
            ([0, 1, 5, 6, 7, 8, 9, 13, 12, 10, 11], none, (some 56), .iaddr 1 (.tmp 42) (.tmp 43)),
            ([14, 9, 0, 1, 5, 6, 7, 8, 13, 12, 10, 11], none, none, .store 1 (.tmp 56) (.tmp 51))] [
            .op none (some 57) (.iaddr 1 (.tmp 44) (.tmp 46)),
            .op none none (.store 1 (.tmp 57) (.tmp 55))],
          .op none (some 58) (.mov (.tmp 7)),
          .op none (some 59) (.mov (.tmp 1)),
          .op none (some 60) (.ibin .sub (.tmp 58) (.tmp 59)),
          .op none (some 61) (.ibin .geq (.tmp 60) (.const (.int .i64 2))),
          .cond (.tmp 61) [
            .op none (some 62) (.mov (.tmp 7)),
            .op none (some 63) (.ibin .sub (.tmp 62) (.const (.int .i64 1))),
            .op none (some 9) (.mov (.tmp 63)),
            .block 4 [
              .loop [
                .op none (some 64) (.mov (.tmp 9)),
                .op none (some 65) (.ibin .geq (.tmp 64) (.const (.int .i64 1))),
                .cond (.tmp 65) [] [
                  .exit 4],
                .block 5 [
                  .draw [
                    ([], none, (some 68), .mov (.tmp 0)),
                    ([], none, (some 69), .mov (.tmp 9)),
                    ([0, 1], none, (some 70), .iaddr 1 (.tmp 68) (.tmp 69)),
                    ([2, 0, 1], none, (some 71), .load1 (.tmp 70)),
                    ([], none, (some 72), .mov (.tmp 0)),
                    ([], none, (some 73), .mov (.tmp 9)),
                    ([5], none, (some 74), .ibin .sub (.tmp 73) (.const (.int .i64 1))),
                    ([4, 6, 5], none, (some 75), .iaddr 1 (.tmp 72) (.tmp 74)),
                    ([7, 4, 6, 5], none, (some 76), .load1 (.tmp 75))] [
                    .op none (some 77) (.call f_cmp_Less_uint64 #[(.tmp 71), (.tmp 76)]),
                    .op none (some 78) (.un .not (.tmp 77))],
                  .cond (.tmp 78) [
                    .exit 4] [],
                  .draw [
                    ([], none, (some 79), .mov (.tmp 0)),
                    ([], none, (some 80), .mov (.tmp 9)),
                    ([], none, (some 81), .mov (.tmp 0)),
                    ([], none, (some 82), .mov (.tmp 9)),
                    ([3], none, (some 83), .ibin .sub (.tmp 82) (.const (.int .i64 1))),
                    ([], none, (some 84), .mov (.tmp 0)),
                    ([], none, (some 85), .mov (.tmp 9)),
                    ([6], none, (some 86), .ibin .sub (.tmp 85) (.const (.int .i64 1))),
                    ([5, 7, 6], none, (some 87), .iaddr 1 (.tmp 84) (.tmp 86)),
                    ([8, 5, 7, 6], none, (some 88), .load1 (.tmp 87)),
                    ([], none, (some 89), .mov (.tmp 0)),
                    ([], none, (some 90), .mov (.tmp 9)),
                    ([10, 11], none, (some 91), .iaddr 1 (.tmp 89) (.tmp 90)),
                    ([12, 10, 11], none, (some 92), .load1 (.tmp 91)),
                    ([0, 1, 5, 6, 7, 8, 9, 13, 12, 10, 11], none, (some 93), .iaddr 1 (.tmp 79) (.tmp 80)),
                    ([14, 9, 0, 1, 5, 6, 7, 8, 13, 12, 10, 11], none, none, .store 1 (.tmp 93) (.tmp 88))] [
                    .op none (some 94) (.iaddr 1 (.tmp 81) (.tmp 83)),
                    .op none none (.store 1 (.tmp 94) (.tmp 92))]],
                .op none (some 66) (.mov (.tmp 9)),
                .op none (some 67) (.ibin .sub (.tmp 66) (.const (.int .i64 1))),
                .op none (some 9) (.mov (.tmp 67))]]] [],
          .op none (some 95) (.mov (.tmp 2)),
          .op none (some 96) (.mov (.tmp 7)),
          .op none (some 97) (.ibin .sub (.tmp 95) (.tmp 96)),
          .op none (some 98) (.ibin .geq (.tmp 97) (.const (.int .i64 2))),
          .cond (.tmp 98) [
            .op none (some 99) (.mov (.tmp 7)),
            .op none (some 100) (.ibin .add (.tmp 99) (.const (.int .i64 1))),
            .op none (some 10) (.mov (.tmp 100)),
            .block 6 [
              .loop [
                .op none (some 101) (.mov (.tmp 10)),
                .op none (some 102) (.mov (.tmp 2)),
                .op none (some 103) (.ibin .lss (.tmp 101) (.tmp 102)),
                .cond (.tmp 103) [] [
                  .exit 6],
                .block 7 [
                  .draw [
                    ([], none, (some 106), .mov (.tmp 0)),
                    ([], none, (some 107), .mov (.tmp 10)),
                    ([0, 1], none, (some 108), .iaddr 1 (.tmp 106) (.tmp 107)),
                    ([2, 0, 1], none, (some 109), .load1 (.tmp 108)),
                    ([], none, (some 110), .mov (.tmp 0)),
                    ([], none, (some 111), .mov (.tmp 10)),
                    ([5], none, (some 112), .ibin .sub (.tmp 111) (.const (.int .i64 1))),
                    ([4, 6, 5], none, (some 113), .iaddr 1 (.tmp 110) (.tmp 112)),
                    ([7, 4, 6, 5], none, (some 114), .load1 (.tmp 113))] [
                    .op none (some 115) (.call f_cmp_Less_uint64 #[(.tmp 109), (.tmp 114)]),
                    .op none (some 116) (.un .not (.tmp 115))],
                  .cond (.tmp 116) [
                    .exit 6] [],
                  .draw [
                    ([], none, (some 117), .mov (.tmp 0)),
                    ([], none, (some 118), .mov (.tmp 10)),
                    ([], none, (some 119), .mov (.tmp 0)),
                    ([], none, (some 120), .mov (.tmp 10)),
                    ([3], none, (some 121), .ibin .sub (.tmp 120) (.const (.int .i64 1))),
                    ([], none, (some 122), .mov (.tmp 0)),
                    ([], none, (some 123), .mov (.tmp 10)),
                    ([6], none, (some 124), .ibin .sub (.tmp 123) (.const (.int .i64 1))),
                    ([5, 7, 6], none, (some 125), .iaddr 1 (.tmp 122) (.tmp 124)),
                    ([8, 5, 7, 6], none, (some 126), .load1 (.tmp 125)),
                    ([], none, (some 127), .mov (.tmp 0)),
                    ([], none, (some 128), .mov (.tmp 10)),
                    ([10, 11], none, (some 129), .iaddr 1 (.tmp 127) (.tmp 128)),
                    ([12, 10, 11], none, (some 130), .load1 (.tmp 129)),
                    ([0, 1, 5, 6, 7, 8, 9, 13, 12, 10, 11], none, (some 131), .iaddr 1 (.tmp 117) (.tmp 118)),
                    ([14, 9, 0, 1, 5, 6, 7, 8, 13, 12, 10, 11], none, none, .store 1 (.tmp 131) (.tmp 126))] [
                    .op none (some 132) (.iaddr 1 (.tmp 119) (.tmp 121)),
                    .op none none (.store 1 (.tmp 132) (.tmp 130))]],
                .op none (some 104) (.mov (.tmp 10)),
                .op none (some 105) (.ibin .add (.tmp 104) (.const (.int .i64 1))),
                .op none (some 10) (.mov (.tmp 105))]]] []],
        .op none (some 15) (.mov (.tmp 8)),
        .op none (some 16) (.ibin .add (.tmp 15) (.const (.int .i64 1))),
        .op none (some 8) (.mov (.tmp 16))]],
    .op none (some 6) (.mov (.const (.bool false))),
    .ret] }
def b_slices_partitionEqualOrdered_uint64 (f_cmp_Less_uint64 : Nat) : Body := { n := 84, res := [.tmp 8], code := [
    .op none (some 8) (.mov (.const (.int .i64 0))),
    .draw [
      ([], none, (some 11), .mov (.tmp 0)),
      ([], none, (some 12), .mov (.tmp 1)),
      ([], none, (some 13), .mov (.tmp 0)),
      ([], none, (some 14), .mov (.tmp 3)),
      ([], none, (some 15), .mov (.tmp 0)),
      ([], none, (some 16), .mov (.tmp 3)),
      ([4, 5], none, (some 17), .iaddr 1 (.tmp 15) (.tmp 16)),
      ([6, 4, 5], none, (some 18), .load1 (.tmp 17)),
      ([], none, (some 19), .mov (.tmp 0)),
      ([], none, (some 20), .mov (.tmp 1)),
      ([8, 9], none, (some 21), .iaddr 1 (.tmp 19) (.tmp 20)),
      ([10, 8, 9], none, (some 22), .load1 (.tmp 21)),
      ([0, 1, 4, 5, 6, 7, 11, 10, 8, 9], none, (some 23), .iaddr 1 (.tmp 11) (.tmp 12)),
      ([12, 7, 0, 1, 4, 5, 6, 11, 10, 8, 9], none, none, .store 1 (.tmp 23) (.tmp 18))] [
      .op none (some 24) (.iaddr 1 (.tmp 13) (.tmp 14)),
      .op none none (.store 1 (.tmp 24) (.tmp 22))],
    .op none (some 25) (.mov (.tmp 1)),
    .op none (some 26) (.ibin .add (.tmp 25) (.const (.int .i64 1))),
    .op none (some 27) (.mov (.tmp 2)),
    .op none (some 28) (.ibin .sub (.tmp 27) (.const (.int .i64 1))),
    .op none (some 9) (.mov (.tmp 26)),
    .op none (some 10) (.mov (.tmp 28)),
    .block 0 [
      .loop [
        .block 1 [
          .block 2 [
            .loop [
              .draw [
                ([], none, (some 29), .mov (.tmp 9)),
                ([], none, (some 30), .mov (.tmp 10)),
                ([0, 1], none, (some 31), .ibin .leq (.tmp 29) (.tmp 30)),
                ([2, 0, 1], none, (some 32), .mov (.tmp 31)),
                ([3, 2, 0, 1], (some (some 32, true)), (some 33), .mov (.tmp 0)),
                ([3, 2, 0, 1], (some (some 32, true)), (some 34), .mov (.tmp 1)),
                ([4, 5, 3, 2, 0, 1], (some (some 32, true)), (some 35), .iaddr 1 (.tmp 33) (.tmp 34)),
                ([6, 3, 4, 5, 2, 0, 1], (some (some 32, true)), (some 36), .load1 (.tmp 35)),
                ([3, 2, 0, 1], (some (some 32, true)), (some 37), .mov (.tmp 0)),
                ([3, 2, 0, 1], (some (some 32, true)), (some 38), .mov (.tmp 9)),
                ([8, 9, 3, 2, 0, 1], (some (some 32, true)), (some 39), .iaddr 1 (.tmp 37) (.tmp 38)),
                ([10, 3, 8, 9, 2, 0, 1], (some (some 32, true)), (some 40), .load1 (.tmp 39))] [
                .op (some (some 32, true)) (some 41) (.call f_cmp_Less_uint64 #[(.tmp 36), (.tmp 40)]),
                .op (some (some 32, true)) (some 42) (.un .not (.tmp 41)),
                .op none (some 43) (.pick (.tmp 32) (.tmp 42) (.const (.bool false)))],
              .cond (.tmp 43) [] [
                .exit 2],
              .block 3 [
                .op none (some 44) (.mov (.tmp 9)),
                .op none (some 45) (.ibin .add (.tmp 44) (.const (.int .i64 1))),
                .op none (some 9) (.mov (.tmp 45))]]],
          .block 4 [
            .loop [
              .draw [
                ([], none, (some 46), .mov (.tmp 9)),
                ([], none, (some 47), .mov (.tmp 10)),
                ([0, 1], none, (some 48), .ibin .leq (.tmp 46) (.tmp 47)),
                ([2, 0, 1], none, (some 49), .mov (.tmp 48)),
                ([3, 2, 0, 1], (some (some 49, true)), (some 50), .mov (.tmp 0)),
                ([3, 2, 0, 1], (some (some 49, true)), (some 51), .mov (.tmp 1)),
                ([4, 5, 3, 2, 0, 1], (some (some 49, true)), (some 52), .iaddr 1 (.tmp 50) (.tmp 51)),
                ([6, 3, 4, 5, 2, 0, 1], (some (some 49, true)), (some 53), .load1 (.tmp 52)),
                ([3, 2, 0, 1], (some (some 49, true)), (some 54), .mov (.tmp 0)),
                ([3, 2, 0, 1], (some (some 49, true)), (some 55), .mov (.tmp 10)),
                ([8, 9, 3, 2, 0, 1], (some (some 49, true)), (some 56), .iaddr 1 (.tmp 54) (.tmp 55)),
                ([10, 3, 8, 9, 2, 0, 1], (some (some 49, true)), (some 57), .load1 (.tmp 56))] [
                .op (some (some 49, true)) (some 58) (.call f_cmp_Less_uint64 #[(.tmp 53), (.tmp 57)]),
                .op none (some 59) (.pick (.tmp 49) (.tmp 58) (.const (.bool false)))],
              .cond (.tmp 59) [] [
                .exit 4],
              .block 5 [
                .op none (some 60) (.mov (.tmp 10)),
                .op none (some 61) (.ibin .sub (.tmp 60) (.const (.int .i64 1))),
                .op none (some 10) (.mov (.tmp 61))]]],
          .op none (some 62) (.mov (.tmp 9)),
          .op none (some 63) (.mov (.tmp 10)),
          .op none (some 64) (.ibin .gtr (.tmp 62) (.tmp 63)),
          .cond (.tmp 64) [
            .exit 0] [],
          .draw [
            ([], none, (some 65), .mov (.tmp 0)),
            ([], none, (some 66), .mov (.tmp 9)),
            ([], none, (some 67), .mov (.tmp 0)),
            ([], none, (some 68), .mov (.tmp 10)),
            ([], none, (some 69), .mov (.tmp 0)),
            ([], none, (some 70), .mov (.tmp 10)),
            ([4, 5], none, (some 71), .iaddr 1 (.tmp 69) (.tmp 70)),
            ([6, 4, 5], none, (some 72), .load1 (.tmp 71)),
            ([], none, (some 73), .mov (.tmp 0)),
            ([], none, (some 74), .mov (.tmp 9)),
            ([8, 9], none, (some 75), .iaddr 1 (.tmp 73) (.tmp 74)),
            ([10, 8, 9], none, (some 76), .load1 (.tmp 75)),
            ([0, 1, 4, 5, 6, 7, 11, 10, 8, 9], none, (some 77), .iaddr 1 (.tmp 65) (.tmp 66)),
            ([12, 7, 0, 1, 4, 5, 6, 11, 10, 8, 9], none, none, .store 1 (.tmp 77) (.tmp 72))] [
            .op none (some 78) (.iaddr 1 (.tmp 67) (.tmp 68)),
            .op none none (.store 1 (.tmp 78) (.tmp 76))],
          .op none (some 79) (.mov (.tmp 9)),
          .op none (some 80) (.ibin .add (.tmp 79) (.const (.int .i64 1))),
          .op none (some 9) (.mov (.tmp 80)),
          .op none (some 81) (.mov (.tmp 10)),
          .op none (some 82) (.ibin .sub (.tmp 81) (.const (.int .i64 1))),
          .op none (some 10) (.mov (.tmp 82))]]],
    .op none (some 83) (.mov (.tmp 9)),
    .op none (some 8) (.mov (.tmp 83)),
    .ret] }
def b_slices_partitionOrdered_uint64 (f_cmp_Less_uint64 : Nat) : Body := { n := 168, res := [.tmp 8, .tmp 9], code := [
    .op none (some 8) (.mov (.const (.int .i64 0))),
    .op none (some 9) (.mov (.const (.bool false))),
    .draw [
      ([], none, (some 12), .mov (.tmp 0)),
      ([], none, (some 13), .mov (.tmp 1)),
      ([], none, (some 14), .mov (.tmp 0)),
      ([], none, (some 15), .mov (.tmp 3)),
      ([], none, (some 16), .mov (.tmp 0)),
      ([], none, (some 17), .mov (.tmp 3)),
      ([4, 5], none, (some 18), .iaddr 1 (.tmp 16) (.tmp 17)),
      ([6, 4, 5], none, (some 19), .load1 (.tmp 18)),
      ([], none, (some 20), .mov (.tmp 0)),
      ([], none, (some 21), .mov (.tmp 1)),
      ([8, 9], none, (some 22), .iaddr 1 (.tmp 20) (.tmp 21)),
      ([10, 8, 9], none, (some 23), .load1 (.tmp 22)),
      ([0, 1, 4, 5, 6, 7, 11, 10, 8, 9], none, (some 24), .iaddr 1 (.tmp 12) (.tmp 13)),
      ([12, 7, 0, 1, 4, 5, 6, 11, 10, 8, 9], none, none, .store 1 (.tmp 24) (.tmp 19))] [
      .op none (some 25) (.iaddr 1 (.tmp 14) (.tmp 15)),
      .op none none (.store 1 (.tmp 25) (.tmp 23))],
    .op none (some 26) (.mov (.tmp 1)),
    .op none (some 27) (.ibin .add (.tmp 26) (.const (.int .i64 1))),
    .op none (some 28) (.mov (.tmp 2)),
    .op none (some 29) (.ibin .sub (.tmp 28) (.const (.int .i64 1))),
    .op none (some 10) (.mov (.tmp 27)),
    .op none (some 11) (.mov (.tmp 29)),
    .block 0 [
      .loop [
        .draw [
          ([], none, (some 30), .mov (.tmp 10)),
          ([], none, (some 31), .mov (.tmp 11)),
          ([0, 1], none, (some 32), .ibin .leq (.tmp 30) (.tmp 31)),
          ([2, 0, 1], none, (some 33), .mov (.tmp 32)),
          ([3, 2, 0, 1], (some (some 33, true)), (some 34), .mov (.tmp 0)),
          ([3, 2, 0, 1], (some (some 33, true)), (some 35), .mov (.tmp 10)),
          ([4, 5, 3, 2, 0, 1], (some (some 33, true)), (some 36), .iaddr 1 (.tmp 34) (.tmp 35)),
          ([6, 3, 4, 5, 2, 0, 1], (some (some 33, true)), (some 37), .load1 (.tmp 36)),
          ([3, 2, 0, 1], (some (some 33, true)), (some 38), .mov (.tmp 0)),
          ([3, 2, 0, 1], (some (some 33, true)), (some 39), .mov (.tmp 1)),
          ([8, 9, 3, 2, 0, 1], (some (some 33, true)), (some 40), .iaddr 1 (.tmp 38) (.tmp 39)),
          ([10, 3, 8, 9, 2, 0, 1], (some (some 33, true)), (some 41), .load1 (.tmp 40))] [
          .op (some (some 33, true)) (some 42) (.call f_cmp_Less_uint64 #[(.tmp 37), (.tmp 41)]),
          .op none (some 43) (.pick (.tmp 33) (.tmp 42) (.const (.bool false)))],
        .cond (.tmp 43) [] [
          .exit 0],
        .block 1 [
          .op none (some 44) (.mov (.tmp 10)),
          .op none (some 45) (.ibin .add (.tmp 44) (.const (.int .i64 1))),
          .op none (some 10) (.mov (.tmp 45))]]],
    .block 2 [
      .loop [
        .draw [
          ([], none, (some 46), .mov (.tmp 10)),
          ([], none, (some 47), .mov (.tmp 11)),
          ([0, 1], none, (some 48), .ibin .leq (.tmp 46) (.tmp 47)),
          ([2, 0, 1], none, (some 49), .mov (.tmp 48)),
          ([3, 2, 0, 1], (some (some 49, true)), (some 50), .mov (.tmp 0)),
          ([3, 2, 0, 1], (some (some 49, true)), (some 51), .mov (.tmp 11)),
          ([4, 5, 3, 2, 0, 1], (some (some 49, true)), (some 52), .iaddr 1 (.tmp 50) (.tmp 51)),
          ([6, 3, 4, 5, 2, 0, 1], (some (some 49, true)), (some 53), .load1 (.tmp 52)),
          ([3, 2, 0, 1], (some (some 49, true)), (some 54), .mov (.tmp 0)),
          ([3, 2, 0, 1], (some (some 49, true)), (some 55), .mov (.tmp 1)),
          ([8, 9, 3, 2, 0, 1], (some (some 49, true)), (some 56), .iaddr 1 (.tmp 54) (.tmp 55)),
          ([10, 3, 8, 9, 2, 0, 1], (some (some 49, true)), (some 57), .load1 (.tmp 56))] [
          .op (some (some 49, true)) (some 58) (.call f_cmp_Less_uint64 #[(.tmp 53), (.tmp 57)]),
          .op (some (some 49, true)) (some 59) (.un .not (.tmp 58)),
          .op none (some 60) (.pick (.tmp 49) (.tmp 59) (.const (.bool false)))],
        .cond (.tmp 60) [] [
          .exit 2],
        .block 3 [
          .op none (some 61) (.mov (.tmp 11)),
          .op none (some 62) (.ibin .sub (.tmp 61) (.const (.int .i64 1))),
          .op none (some 11) (.mov (.tmp 62))]]],
    .op none (some 63) (.mov (.tmp 10)),
    .op none (some 64) (.mov (.tmp 11)),
    .op none (some 65) (.ibin .gtr (.tmp 63) (.tmp 64)),
    .cond (.tmp 65) [
      .draw [
        ([], none, (some 66), .mov (.tmp 0)),
        ([], none, (some 67), .mov (.tmp 11)),
        ([], none, (some 68), .mov (.tmp 0)),
        ([], none, (some 69), .mov (.tmp 1)),
        ([], none, (some 70), .mov (.tmp 0)),
        ([], none, (some 71), .mov (.tmp 1)),
        ([4, 5], none, (some 72), .iaddr 1 (.tmp 70) (.tmp 71)),
        ([6, 4, 5], none, (some 73), .load1 (.tmp 72)),
        ([], none, (some 74), .mov (.tmp 0)),
        ([], none, (some 75), .mov (.tmp 11)),
        ([8, 9], none, (some 76), .iaddr 1 (.tmp 74) (.tmp 75)),
        ([10, 8, 9], none, (some 77), .load1 (.tmp 76)),
        ([0, 1, 4, 5, 6, 7, 11, 10, 8, 9], none, (some 78), .iaddr 1 (.tmp 66) (.tmp 67)),
        ([12, 7, 0, 1, 4, 5, 6, 11, 10, 8, 9], none, none, .store 1 (.tmp 78) (.tmp 73))] [
        .op none (some 79) (.iaddr 1 (.tmp 68) (.tmp 69)),
        .op none none (.store 1 (.tmp 79) (.tmp 77))],
      .op none (some 80) (.mov (.tmp 11)),
      .op none (some 8) (.mov (.tmp 80)),
      .op none (some 9) (.mov (.const (.bool true))),
      .ret] [],
    .draw [
      ([], none, (some 81), .mov (.tmp 0)),
      ([], none, (some 82), .mov (.tmp 10)),
      ([], none, (some 83), .mov (.tmp 0)),
      ([], none, (some 84), .mov (.tmp 11)),
      ([], none, (some 85), .mov (.tmp 0)),
      ([], none, (some 86), .mov (.tmp 11)),
      ([4, 5], none, (some 87), .iaddr 1 (.tmp 85) (.tmp 86)),
      ([6, 4, 5], none, (some 88), .load1 (.tmp 87)),
      ([], none, (some 89), .mov (.tmp 0)),
      ([], none, (some 90), .mov (.tmp 10)),
      ([8, 9], none, (some 91), .iaddr 1 (.tmp 89) (.tmp 90)),
      ([10, 8, 9], none, (some 92), .load1 (.tmp 91)),
      ([0, 1, 4, 5, 6, 7, 11, 10, 8, 9], none, (some 93), .iaddr 1 (.tmp 81) (.tmp 82)),
      ([12, 7, 0, 1, 4, 5, 6, 11, 10, 8, 9], none, none, .store 1 (.tmp 93) (.tmp 88))] [
      .op none (some 94) (.iaddr 1 (.tmp 83) (.tmp 84)),
      .op none none (.store 1 (.tmp 94) (.tmp 92))],
    .op none (some 95) (.mov (.tmp 10)),
    .op none (some 96) (.ibin .add (.tmp 95) (.const (.int .i64 1))),
    .op none (some 10) (.mov (.tmp 96)),
    .op none (some 97) (.mov (.tmp 11)),
    .op none (some 98) (.ibin .sub (.tmp 97) (.const (.int .i64 1))),
    .op none (some 11) (.mov (.tmp 98)),
    .block 4 [
      .loop [
        .block 5 [
          .block 6 [
            .loop [
              .draw [
                ([], none, (some 99), .mov (.tmp 10)),
                ([], none, (some 100), .mov (.tmp 11)),
                ([0, 1], none, (some 101), .ibin .leq (.tmp 99) (.tmp 100)),
                ([2, 0, 1], none, (some 102), .mov (.tmp 101)),
                ([3, 2, 0, 1], (some (some 102, true)), (some 103), .mov (.tmp 0)),
                ([3, 2, 0, 1], (some (some 102, true)), (some 104), .mov (.tmp 10)),
                ([4, 5, 3, 2, 0, 1], (some (some 102, true)), (some 105), .iaddr 1 (.tmp 103) (.tmp 104)),
                ([6, 3, 4, 5, 2, 0, 1], (some (some 102, true)), (some 106), .load1 (.tmp 105)),
                ([3, 2, 0, 1], (some (some 102, true)), (some 107), .mov (.tmp 0)),
                ([3, 2, 0, 1], (some (some 102, true)), (some 108), .mov (.tmp 1)),
                ([8, 9, 3, 2, 0, 1], (some (some 102, true)), (some 109), .iaddr 1 (.tmp 107) (.tmp 108)),
                ([10, 3, 8, 9, 2, 0, 1], (some (some 102, true)), (some 110), .load1 (.tmp 109))] [
                .op (some (some 102, true)) (some 111) (.call f_cmp_Less_uint64 #[(.tmp 106), (.tmp 110)]),
                .op none (some 112) (.pick (.tmp 102) (.tmp 111) (.const (.bool false)))],
              .cond (.tmp 112) [] [
                .exit 6],
              .block 7 [
                .op none (some 113) (.mov (.tmp 10)),
                .op none (some 114) (.ibin .add (.tmp 113) (.const (.int .i64 1))),
                .op none (some 10) (.mov (.tmp 114))]]],
          .block 8 [
            .loop [
              .draw [
                ([], none, (some 115), .mov (.tmp 10)),
                ([], none, (some 116), .mov (.tmp 11)),
                ([0, 1], none, (some 117), .ibin .leq (.tmp 115) (.tmp 116)),
                ([2, 0, 1], none, (some 118), .mov (.tmp 117)),
                ([3, 2, 0, 1], (some (some 118, true)), (some 119), .mov (.tmp 0)),
                ([3, 2, 0, 1], (some (some 118, true)), (some 120), .mov (.tmp 11)),
                ([4, 5, 3, 2, 0, 1], (some (some 118, true)), (some 121), .iaddr 1 (.tmp 119) (.tmp 120)),
                ([6, 3, 4, 5, 2, 0, 1], (some (some 118, true)), (some 122), .load1 (.tmp 121)),
                ([3, 2, 0, 1], (some (some 118, true)), (some 123), .mov (.tmp 0)),
                ([3, 2, 0, 1], (some (some 118, true)), (some 124), .mov (.tmp 1)),
                ([8, 9, 3, 2, 0, 1], (some (some 118, true)), (some 125), .iaddr 1 (.tmp 123) (.tmp 124)),
                ([10, 3, 8, 9, 2, 0, 1], (some (some 118, true)), (some 126), .load1 (.tmp 125))] [
                .op (some (some 118, true)) (some 127) (.call f_cmp_Less_uint64 #[(.tmp 122), (.tmp 126)]),
                .op (some (some 118, true)) (some 128) (.un .not (.tmp 127)),
                .op none (some 129) (.pick (.tmp 118) (.tmp 128) (.const (.bool false)))],
              .cond (.tmp 129) [] [
                .exit 8],
              .block 9 [
                .op none (some 130) (.mov (.tmp 11)),
                .op none (some 131) (.ibin .sub (.tmp 130) (.const (.int .i64 1))),
                .op none (some 11) (.mov (.tmp 131))]]],
          .op none (some 132) (.mov (.tmp 10)),
          .op none (some 133) (.mov (.tmp 11)),
          .op none (some 134) (.ibin .gtr (.tmp 132) (.tmp 133)),
          .cond (.tmp 134) [
            .exit 4] [],
          .draw [
            ([], none, (some 135), .mov (.tmp 0)),
            ([], none, (some 136), .mov (.tmp 10)),
            ([], none, (some 137), .mov (.tmp 0)),
            ([], none, (some 138), .mov (.tmp 11)),
            ([], none, (some 139), .mov (.tmp 0)),
            ([], none, (some 140), .mov (.tmp 11)),
            ([4, 5], none, (some 141), .iaddr 1 (.tmp 139) (.tmp 140)),
            ([6, 4, 5], none, (some 142), .load1 (.tmp 141)),
            ([], none, (some 143), .mov (.tmp 0)),
            ([], none, (some 144), .mov (.tmp 10)),
            ([8, 9], none, (some 145), .iaddr 1 (.tmp 143) (.tmp 144)),
            ([10, 8, 9], none, (some 146), .load1 (.tmp 145)),
            ([0, 1, 4, 5, 6, 7, 11, 10, 8, 9], none, (some 147), .iaddr 1 (.tmp 135) (.tmp 136)),
            ([12, 7, 0, 1, 4, 5, 6, 11, 10, 8, 9], none, none, .store 1 (.tmp 147) (.tmp 142))] [
            .op none (some 148) (.iaddr 1 (.tmp 137) (.tmp 138)),
            .op none none (.store 1 (.tmp 148) (.tmp 146))],
          .op none (some 149) (.mov (.tmp 10)),
          .op none (some 150) (.ibin .add (.tmp 149) (.const (.int .i64 1))),
          .op none (some 10) (.mov (.tmp 150)),
          .op none (some 151) (.mov (.tmp 11)),
          .op none (some 152) (.ibin .sub (.tmp 151) (.const (.int .i64 1))),
          .op none (some 11) (.mov (.tmp 152))]]],
    .draw [
      ([], none, (some 153), .mov (.tmp 0)),
      ([], none, (some 154), .mov (.tmp 11)),
      ([], none, (some 155), .mov (.tmp 0)),
      ([], none, (some 156), .mov (.tmp 1)),
      ([], none, (some 157), .mov (.tmp 0)),
      ([], none, (some 158), .mov (.tmp 1)),
      ([4, 5], none, (some 159), .iaddr 1 (.tmp 157) (.tmp 158)),
      ([6, 4, 5], none, (some 160), .load1 (.tmp 159)),
      ([], none, (some 161), .mov (.tmp 0)),
      ([], none, (some 162), .mov (.tmp 11)),
      ([8, 9], none, (some 163), .iaddr 1 (.tmp 161) (.tmp 162)),
      ([10, 8, 9], none, (some 164), .load1 (.tmp 163)),
      ([0, 1, 4, 5, 6, 7, 11, 10, 8, 9], none, (some 165), .iaddr 1 (.tmp 153) (.tmp 154)),
      ([12, 7, 0, 1, 4, 5, 6, 11, 10, 8, 9], none, none, .store 1 (.tmp 165) (.tmp 160))] [
      .op none (some 166) (.iaddr 1 (.tmp 155) (.tmp 156)),
      .op none none (.store 1 (.tmp 166) (.tmp 164))],
    .op none (some 167) (.mov (.tmp 11)),
    .op none (some 8) (.mov (.tmp 167)),
    .op none (some 9) (.mov (.const (.bool false))),
    .ret] }
def b_slices_nextPowerOfTwo (f_math_bits_Len : Nat) : Body := { n := 7, res := [.tmp 2], code := [
    .op none (some 2) (.mov (.const (.int .u64 0))),
    .op none (some 3) (.mov (.tmp 0)),
    .op none (some 4) (.toInt .u64 (.tmp 3)),
    .op none (some 5) (.call f_math_bits_Len #[(.tmp 4)]),
    .op none (some 6) (.ibin .shl (.const (.int .u64 1)) (.tmp 5)),
    .op none (some 2) (.mov (.tmp 6)),
    .ret] }
def b_Pslices_xorshift_Next : Body := { n := 33, res := [.tmp 2], code := [
    .op none (some 2) (.mov (.const (.int .u64 0))),
    .draw [
      ([], none, (some 3), .mov (.tmp 0)),
      ([0], none, (some 4), .nilc (.tmp 3)),
      ([1, 0], none, (some 5), .load1 (.tmp 4)),
      ([], none, (some 6), .mov (.tmp 0)),
      ([3], none, (some 7), .nilc (.tmp 6)),
      ([4, 3], none, (some 8), .load1 (.tmp 7)),
      ([5, 4, 3], none, (some 9), .ibin .shl (.tmp 8) (.const (.int .u64 13)))] [
      .op none (some 10) (.ibin .xor (.tmp 5) (.tmp 9)),
      .op none (some 11) (.nilc (.tmp 3)),
      .op none none (.store 1 (.tmp 11) (.tmp 10))],
    .draw [
      ([], none, (some 12), .mov (.tmp 0)),
      ([0], none, (some 13), .nilc (.tmp 12)),
      ([1, 0], none, (some 14), .load1 (.tmp 13)),
      ([], none, (some 15), .mov (.tmp 0)),
      ([3], none, (some 16), .nilc (.tmp 15)),
      ([4, 3], none, (some 17), .load1 (.tmp 16)),
      ([5, 4, 3], none, (some 18), .ibin .shr (.tmp 17) (.const (.int .u64 7)))] [
      .op none (some 19) (.ibin .xor (.tmp 14) (.tmp 18)),
      .op none (some 20) (.nilc (.tmp 12)),
      .op none none (.store 1 (.tmp 20) (.tmp 19))],
    .draw [
      ([], none, (some 21), .mov (.tmp 0)),
      ([0], none, (some 22), .nilc (.tmp 21)),
      ([1, 0], none, (some 23), .load1 (.tmp 22)),
      ([], none, (some 24), .mov (.tmp 0)),
      ([3], none, (some 25), .nilc (.tmp 24)),
      ([4, 3], none, (some 26), .load1 (.tmp 25)),
      ([5, 4, 3], none, (some 27), .ibin .shl (.tmp 26) (.const (.int .u64 17)))] [
      .op none (some 28) (.ibin .xor (.tmp 23) (.tmp 27)),
      .op none (some 29) (.nilc (.tmp 21)),
      .op none none (.store 1 (.tmp 29) (.tmp 28))],
    .op none (some 30) (.mov (.tmp 0)),
    .op none (some 31) (.nilc (.tmp 30)),
    .op none (some 32) (.load1 (.tmp 31)),
    .op none (some 2) (.mov (.tmp 32)),
    .ret] }
def b_slices_siftDownOrdered_uint64 (f_cmp_Less_uint64 : Nat) : Body := { n := 76, res := [], code := [
    .op none (some 10) (.mov (.tmp 1)),
    .op none (some 8) (.mov (.tmp 10)),
    .block 0 [
      .loop [
        .block 1 [
          .op none (some 11) (.mov (.tmp 8)),
          .op none (some 12) (.ibin .mul (.const (.int .i64 2)) (.tmp 11)),
          .op none (some 13) (.ibin .add (.tmp 12) (.const (.int .i64 1))),
          .op none (some 9) (.mov (.tmp 13)),
          .op none (some 14) (.mov (.tmp 9)),
          .op none (some 15) (.mov (.tmp 2)),
          .op none (some 16) (.ibin .geq (.tmp 14) (.tmp 15)),
          .cond (.tmp 16) [
            .exit 0] [],
          .draw [
            ([], none, (some 17), .mov (.tmp 9)),
            ([0], none, (some 18), .ibin .add (.tmp 17) (.const (.int .i64 1))),
            ([], none, (some 19), .mov (.tmp 2)),
            ([1, 2, 0], none, (some 20), .ibin .lss (.tmp 18) (.tmp 19)),
            ([3, 1, 2, 0], none, (some 21), .mov (.tmp 20)),
            ([4, 3, 1, 2, 0], (some (some 21, true)), (some 22), .mov (.tmp 0)),
            ([4, 3, 1, 2, 0], (some (some 21, true)), (some 23), .mov (.tmp 3)),
            ([4, 3, 1, 2, 0], (some (some 21, true)), (some 24), .mov (.tmp 9)),
            ([6, 7, 4, 3, 1, 2, 0], (some (some 21, true)), (some 25), .ibin .add (.tmp 23) (.tmp 24)),
            ([5, 8, 4, 3, 1, 2, 0, 6, 7], (some (some 21, true)), (some 26), .iaddr 1 (.tmp 22) (.tmp 25)),
            ([9, 4, 5, 8, 3, 1, 2, 0, 6, 7], (some (some 21, true)), (some 27), .load1 (.tmp 26)),
            ([4, 3, 1, 2, 0], (some (some 21, true)), (some 28), .mov (.tmp 0)),
            ([4, 3, 1, 2, 0], (some (some 21, true)), (some 29), .mov (.tmp 3)),
            ([4, 3, 1, 2, 0], (some (some 21, true)), (some 30), .mov (.tmp 9)),
            ([12, 13, 4, 3, 1, 2, 0], (some (some 21, true)), (some 31), .ibin .add (.tmp 29) (.tmp 30)),
            ([14, 4, 12, 13, 3, 1, 2, 0], (some (some 21, true)), (some 32), .ibin .add (.tmp 31) (.const (.int .i64 1))),
            ([11, 15, 4, 3, 1, 2, 0, 14, 12, 13], (some (some 21, true)), (some 33), .iaddr 1 (.tmp 28) (.tmp 32)),
            ([16, 4, 11, 15, 3, 1, 2, 0, 14, 12, 13], (some (some 21, true)), (some 34), .load1 (.tmp 33))] [
            .op (some (some 21, true)) (some 35) (.call f_cmp_Less_uint64 #[(.tmp 27), (.tmp 34)]),
            .op none (some 36) (.pick (.tmp 21) (.tmp 35) (.const (.bool false)))],
          .cond (.tmp 36) [
            .op none (some 37) (.mov (.tmp 9)),
            .op none (some 38) (.ibin .add (.tmp 37) (.const (.int .i64 1))),
            .op none (some 9) (.mov (.tmp 38))] [],
          .draw [
            ([], none, (some 39), .mov (.tmp 0)),
            ([], none, (some 40), .mov (.tmp 3)),
            ([], none, (some 41), .mov (.tmp 8)),
            ([1, 2], none, (some 42), .ibin .add (.tmp 40) (.tmp 41)),
            ([0, 3, 1, 2], none, (some 43), .iaddr 1 (.tmp 39) (.tmp 42)),
            ([4, 0, 3, 1, 2], none, (some 44), .load1 (.tmp 43)),
            ([], none, (some 45), .mov (.tmp 0)),
            ([], none, (some 46), .mov (.tmp 3)),
            ([], none, (some 47), .mov (.tmp 9)),
            ([7, 8], none, (some 48), .ibin .add (.tmp 46) (.tmp 47)),
            ([6, 9, 7, 8], none, (some 49), .iaddr 1 (.tmp 45) (.tmp 48)),
            ([10, 6, 9, 7, 8], none, (some 50), .load1 (.tmp 49))] [
            .op none (some 51) (.call f_cmp_Less_uint64 #[(.tmp 44), (.tmp 50)]),
            .op none (some 52) (.un .not (.tmp 51))],
          .cond (.tmp 52) [
            .ret] [],
          .draw [
            ([], none, (some 53), .mov (.tmp 0)),
            ([], none, (some 54), .mov (.tmp 3)),
            ([], none, (some 55), .mov (.tmp 8)),
            ([1, 2], none, (some 56), .ibin .add (.tmp 54) (.tmp 55)),
            ([], none, (some 57), .mov (.tmp 0)),
            ([], none, (some 58), .mov (.tmp 3)),
            ([], none, (some 59), .mov (.tmp 9)),
            ([5, 6], none, (some 60), .ibin .add (.tmp 58) (.tmp 59)),
            ([], none, (some 61), .mov (.tmp 0)),
            ([], none, (some 62), .mov (.tmp 3)),
            ([], none, (some 63), .mov (.tmp 9)),
            ([9, 10], none, (some 64), .ibin .add (.tmp 62) (.tmp 63)),
            ([8, 11, 9, 10], none, (some 65), .iaddr 1 (.tmp 61) (.tmp 64)),
            ([12, 8, 11, 9, 10], none, (some 66), .load1 (.tmp 65)),
            ([], none, (some 67), .mov (.tmp 0)),
            ([], none, (some 68), .mov (.tmp 3)),
            ([], none, (some 69), .mov (.tmp 8)),
            ([15, 16], none, (some 70), .ibin .add (.tmp 68) (.tmp 69)),
            ([14, 17, 15, 16], none, (some 71), .iaddr 1 (.tmp 67) (.tmp 70)),
            ([18, 14, 17, 15, 16], none, (some 72), .load1 (.tmp 71)),
            ([0, 3, 1, 2, 8, 9, 10, 11, 12, 13, 19, 18, 14, 17, 15, 16], none, (some 73), .iaddr 1 (.tmp 53) (.tmp 56)),
            ([20, 13, 0, 1, 2, 3, 8, 9, 10, 11, 12, 19, 18, 14, 17, 15, 16], none, none, .store 1 (.tmp 73) (.tmp 66))] [
            .op none (some 74) (.iaddr 1 (.tmp 57) (.tmp 60)),
            .op none none (.store 1 (.tmp 74) (.tmp 72))],
          .op none (some 75) (.mov (.tmp 9)),
          .op none (some 8) (.mov (.tmp 75))]]]] }
def b_slices_medianAdjacentOrdered_uint64 (f_slices_medianOrdered_uint64 : Nat) : Body := { n := 15, res := [.tmp 6], code := [
    .op none (some 6) (.mov (.const (.int .i64 0))),
    .op none (some 7) (.mov (.tmp 0)),
    .op none (some 8) (.mov (.tmp 1)),
    .op none (some 9) (.ibin .sub (.tmp 8) (.const (.int .i64 1))),
    .op none (some 10) (.mov (.tmp 1)),
    .op none (some 11) (.mov (.tmp 1)),
    .op none (some 12) (.ibin .add (.tmp 11) (.const (.int .i64 1))),
    .op none (some 13) (.mov (.tmp 2)),
    .op none (some 14) (.call f_slices_medianOrdered_uint64 #[(.tmp 7), (.tmp 9), (.tmp 10), (.tmp 12), (.tmp 13)]),
    .op none (some 6) (.mov (.tmp 14)),
    .ret] }
def b_slices_medianOrdered_uint64 (f_slices_order2Ordered_uint64 : Nat) : Body := { n := 36, res := [.tmp 10], code := [
    .op none (some 10) (.mov (.const (.int .i64 0))),
    .op none (some 12) (.mov (.tmp 0)),
    .op none (some 13) (.mov (.tmp 1)),
    .op none (some 14) (.mov (.tmp 2)),
    .op none (some 15) (.mov (.tmp 4)),
    .op none (some 16) (.call f_slices_order2Ordered_uint64 #[(.tmp 12), (.tmp 13), (.tmp 14), (.tmp 15)]),
    .op none (some 11) (.mov (.tmp 16)),
    .op none (some 17) (.ext (.tmp 11) 0),
    .op none (some 18) (.ext (.tmp 11) 1),
    .op none (some 1) (.mov (.tmp 17)),
    .op none (some 2) (.mov (.tmp 18)),
    .op none (some 20) (.mov (.tmp 0)),
    .op none (some 21) (.mov (.tmp 2)),
    .op none (some 22) (.mov (.tmp 3)),
    .op none (some 23) (.mov (.tmp 4)),
    .op none (some 24) (.call f_slices_order2Ordered_uint64 #[(.tmp 20), (.tmp 21), (.tmp 22), (.tmp 23)]),
    .op none (some 19) (.mov (.tmp 24)),
    .op none (some 25) (.ext (.tmp 19) 0),
    .op none (some 26) (.ext (.tmp 19) 1),
    .op none (some 2) (.mov (.tmp 25)),
    .op none (some 3) (.mov (.tmp 26)),
    .op none (some 28) (.mov (.tmp 0)),
    .op none (some 29) (.mov (.tmp 1)),
    .op none (some 30) (.mov (.tmp 2)),
    .op none (some 31) (.mov (.tmp 4)),
    .op none (some 32) (.call f_slices_order2Ordered_uint64 #[(.tmp 28), (.tmp 29), (.tmp 30), (.tmp 31)]),
    .op none (some 27) (.mov (.tmp 32)),
    .op none (some 33) (.ext (.tmp 27) 0),
    .op none (some 34) (.ext (.tmp 27) 1),
    .op none (some 1) (.mov (.tmp 33)),
    .op none (some 2) (.mov (.tmp 34)),
    .op none (some 35) (.mov (.tmp 2)),
    .op none (some 10) (.mov (.tmp 35)),
    .ret] }
def b_slices_order2Ordered_uint64 (f_cmp_Less_uint64 : Nat) : Body := { n := 28, res := [.tmp 8, .tmp 9], code := [
    .op none (some 8) (.mov (.const (.int .i64 0))),
    .op none (some 9) (.mov (.const (.int .i64 0))),
    .draw [
      ([], none, (some 10), .mov (.tmp 0)),
      ([], none, (some 11), .mov (.tmp 2)),
      ([0, 1], none, (some 12), .iaddr 1 (.tmp 10) (.tmp 11)),
      ([2, 0, 1], none, (some 13), .load1 (.tmp 12)),
      ([], none, (some 14), .mov (.tmp 0)),
      ([], none, (some 15), .mov (.tmp 1)),
      ([4, 5], none, (some 16), .iaddr 1 (.tmp 14) (.tmp 15)),
      ([6, 4, 5], none, (some 17), .load1 (.tmp 16))] [
      .op none (some 18) (.call f_cmp_Less_uint64 #[(.tmp 13), (.tmp 17)])],
    .cond (.tmp 18) [
      .op none (some 19) (.mov (.tmp 3)),
      .op none (some 20) (.nilc (.tmp 19)),
      .op none (some 21) (.load1 (.tmp 20)),
      .op none (some 22) (.ibin .add (.tmp 21) (.const (.int .i64 1))),
      .op none (some 23) (.nilc (.tmp 19)),
      .op none none (.store 1 (.tmp 23) (.tmp 22)),
      .op none (some 24) (.mov (.tmp 2)),
      .op none (some 25) (.mov (.tmp 1)),
      .op none (some 8) (.mov (.tmp 24)),
      .op none (some 9) (.mov (.tmp 25)),
      .ret] [],
    .op none (some 26) (.mov (.tmp 1)),
    .op none (some 27) (.mov (.tmp 2)),
    .op none (some 8) (.mov (.tmp 26)),
    .op none (some 9) (.mov (.tmp 27)),
    .ret] }
end Go.Sp
