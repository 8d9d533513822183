/- Proved: for every list of steps spinneylaw14.ForestAnew returns true and leaves its argument as it was; no condition. This text: part 6 of 11. -/
import Derived.Test.YtlffmofhoeodfaaDoorW5
namespace Go.Sp
def b_Pforest_Forest_Where (f_Pforest_Forest_is f_Pforest_Forest_Where_1 f_slices_IndexFunc_forest_tree_forest_tree f_Pforest_Forest_root f_Pforest_Forest_rows f_pos_Left : Nat) (T_api_Hash T_uint64 T_Pforest_node : Nat) : Body := { n := 77, res := [.tmp 4, .tmp 5], code := [
    .op none (some 3) (.box T_api_Hash (.tmp 1)),
    .op none (some 4) (.mov (.const (.int .u64 0))),
    .op none (some 5) (.mov (.const (.bool false))),
    .op none (some 11) (.mov (.tmp 0)),
    .op none (some 12) (.call f_Pforest_Forest_is #[(.tmp 11)]),
    .op none (some 13) (.un .not (.tmp 12)),
    .cond (.tmp 13) [
      .op none (some 4) (.mov (.const (.int .u64 0))),
      .op none (some 5) (.mov (.const (.bool false))),
      .ret] [],
    .draw [
      ([], none, (some 15), .mov (.tmp 0)),
      ([0], none, (some 16), .nilc (.tmp 15)),
      ([1, 0], none, (some 17), .faddr 2 (.tmp 16)),
      ([2, 1, 0], none, (some 18), .load1 (.tmp 17)),
      ([], none, (some 19), .loadN 32 (.tmp 3)),
      ([3, 4, 2, 1, 0], none, (some 20), .lookup T_api_Hash (.int .u64 0) (.tmp 18) (.tmp 19) true),
      ([5, 3, 4, 2, 1, 0], none, (some 14), .mov (.tmp 20)),
      ([6, 5, 3, 4, 2, 1, 0], none, (some 21), .ext (.tmp 14) 0),
      ([6, 5, 3, 4, 2, 1, 0], none, (some 22), .ext (.tmp 14) 1),
      ([], none, (some 6), .new T_uint64 (rle [(1, .int .u64 0)])),
      ([9, 7, 0, 1, 2, 3, 4, 5, 6], none, none, .store 1 (.tmp 6) (.tmp 21))] [
      .op none (some 7) (.mov (.tmp 22))],
    .op none (some 23) (.mov (.tmp 7)),
    .op none (some 24) (.un .not (.tmp 23)),
    .cond (.tmp 24) [
      .op none (some 4) (.mov (.const (.int .u64 0))),
      .op none (some 5) (.mov (.const (.bool false))),
      .ret] [],
    .op none (some 25) (.mov (.tmp 0)),
    .op none (some 26) (.nilc (.tmp 25)),
    .op none (some 27) (.faddr 1 (.tmp 26)),
    .op none (some 28) (.load1 (.tmp 27)),
    .op none (some 29) (.fn f_Pforest_Forest_Where_1 #[] #[(.tmp 6)]),
    .op none (some 30) (.call f_slices_IndexFunc_forest_tree_forest_tree #[(.tmp 28), (.tmp 29)]),
    .op none (some 8) (.mov (.tmp 30)),
    .draw [
      ([], none, (some 31), .mov (.tmp 0)),
      ([], none, (some 32), .mov (.tmp 0)),
      ([1], none, (some 33), .nilc (.tmp 32)),
      ([2, 1], none, (some 34), .faddr 1 (.tmp 33)),
      ([3, 2, 1], none, (some 35), .load1 (.tmp 34)),
      ([], none, (some 36), .mov (.tmp 8)),
      ([4, 5, 3, 2, 1], none, (some 37), .iaddr 3 (.tmp 35) (.tmp 36)),
      ([6, 4, 5, 3, 2, 1], none, (some 38), .loadN 3 (.tmp 37)),
      ([0, 7, 6, 4, 5, 3, 2, 1], none, (some 39), .call f_Pforest_Forest_root #[(.tmp 31), (.tmp 38)]),
      ([], none, (some 40), .mov (.tmp 0)),
      ([9], none, (some 41), .nilc (.tmp 40)),
      ([10, 9], none, (some 42), .faddr 1 (.tmp 41)),
      ([11, 10, 9], none, (some 43), .load1 (.tmp 42)),
      ([], none, (some 44), .mov (.tmp 8)),
      ([12, 13, 11, 10, 9], none, (some 45), .iaddr 3 (.tmp 43) (.tmp 44)),
      ([14, 12, 13, 11, 10, 9], none, (some 46), .faddr 0 (.tmp 45)),
      ([15, 14, 12, 13, 11, 10, 9], none, (some 47), .load1 (.tmp 46)),
      ([8, 0, 1, 2, 3, 4, 5, 6, 7], none, (some 9), .mov (.tmp 39))] [
      .op none (some 10) (.mov (.tmp 47))],
    .block 0 [
      .loop [
        .op none (some 48) (.mov (.tmp 10)),
        .op none (some 49) (.nilc (.tmp 48)),
        .op none (some 50) (.faddr 32 (.tmp 49)),
        .op none (some 51) (.load1 (.tmp 50)),
        .op none (some 52) (.bin .neq T_Pforest_node (.tmp 51) (.const (.pointer none))),
        .cond (.tmp 52) [] [
          .exit 0],
        .block 1 [
          .op none (some 54) (.mov (.tmp 9)),
          .op none (some 55) (.mov (.tmp 0)),
          .op none (some 56) (.call f_Pforest_Forest_rows #[(.tmp 55)]),
          .op none (some 57) (.call f_pos_Left #[(.tmp 54), (.tmp 56)]),
          .op none (some 53) (.mov (.tmp 57)),
          .op none (some 58) (.ext (.tmp 53) 0),
          .op none (some 59) (.ext (.tmp 53) 1),
          .op none (some 9) (.mov (.tmp 58)),
          .draw [
            ([], none, (some 60), .load1 (.tmp 6)),
            ([], none, (some 61), .mov (.tmp 10)),
            ([1], none, (some 62), .nilc (.tmp 61)),
            ([2, 1], none, (some 63), .faddr 34 (.tmp 62)),
            ([3, 2, 1], none, (some 64), .load1 (.tmp 63))] [
            .op none (some 65) (.ibin .lss (.tmp 60) (.tmp 64))],
          .cond (.tmp 65) [
            .op none (some 66) (.mov (.tmp 10)),
            .op none (some 67) (.nilc (.tmp 66)),
            .op none (some 68) (.faddr 32 (.tmp 67)),
            .op none (some 69) (.load1 (.tmp 68)),
            .op none (some 10) (.mov (.tmp 69))] [
            .op none (some 70) (.mov (.tmp 10)),
            .op none (some 71) (.nilc (.tmp 70)),
            .op none (some 72) (.faddr 33 (.tmp 71)),
            .op none (some 73) (.load1 (.tmp 72)),
            .op none (some 10) (.mov (.tmp 73)),
            .op none (some 74) (.mov (.tmp 9)),
            .op none (some 75) (.ibin .add (.tmp 74) (.const (.int .u64 1))),
            .op none (some 9) (.mov (.tmp 75))]]]],
    .op none (some 76) (.mov (.tmp 9)),
    .op none (some 4) (.mov (.tmp 76)),
    .op none (some 5) (.mov (.const (.bool true))),
    .ret] }
def b_Pforest_Forest_Stump (f_Pforest_Forest_is : Nat) (T_api_Stump T_forest_tree T_api_Root T_Pforest_node : Nat) : Body := { n := 42, res := [.cell true 2 2], code := [
    .op none (some 2) (.new T_api_Stump (rle [(1, .int .u64 0), (1, .slice none 0 0)])),
    .op none (some 7) (.mov (.tmp 0)),
    .op none (some 8) (.call f_Pforest_Forest_is #[(.tmp 7)]),
    .op none (some 9) (.un .not (.tmp 8)),
    .cond (.tmp 9) [
      .op none (some 10) (.mk (rle [(1, .int .u64 0), (1, .slice none 0 0)]) []),
      .op none none (.store 2 (.tmp 2) (.tmp 10)),
      .ret] [],
    .op none (some 11) (.mov (.tmp 0)),
    .op none (some 12) (.nilc (.tmp 11)),
    .op none (some 13) (.faddr 0 (.tmp 12)),
    .op none (some 14) (.load1 (.tmp 13)),
    .op none (some 15) (.mk (rle [(1, .int .u64 0), (1, .slice none 0 0)]) [(0, 1, (.tmp 14))]),
    .op none (some 3) (.new T_api_Stump (rle [(1, .int .u64 0), (1, .slice none 0 0)])),
    .op none none (.store 2 (.tmp 3) (.tmp 15)),
    .op none (some 16) (.mov (.tmp 0)),
    .op none (some 17) (.nilc (.tmp 16)),
    .op none (some 18) (.faddr 1 (.tmp 17)),
    .op none (some 19) (.load1 (.tmp 18)),
    .op none (some 20) (.lenS (.tmp 19)),
    .op none (some 21) (.mov (.const (.int .i64 0))),
    .block 0 [
      .loop [
        .op none (some 22) (.ibin .lss (.tmp 21) (.tmp 20)),
        .cond (.tmp 22) [] [
          .exit 0],
        .block 1 [
          .op none (some 23) (.iaddr 3 (.tmp 19) (.tmp 21)),
          .op none (some 24) (.loadN 3 (.tmp 23)),
          .op none (some 5) (.new T_forest_tree (rle [(1, .pointer none), (1, .int .u64 0), (1, .int .i64 0)])),
          .op none none (.store 3 (.tmp 5) (.tmp 24)),
          .op none (some 6) (.new T_api_Root (rle [(1, .bool false), (32, .int .u8 0)])),
          .op none (some 25) (.faddr 0 (.tmp 5)),
          .op none (some 26) (.load1 (.tmp 25)),
          .op none (some 27) (.bin .neq T_Pforest_node (.tmp 26) (.const (.pointer none))),
          .cond (.tmp 27) [
            .op none (some 28) (.faddr 0 (.tmp 5)),
            .op none (some 29) (.load1 (.tmp 28)),
            .op none (some 30) (.nilc (.tmp 29)),
            .op none (some 31) (.faddr 0 (.tmp 30)),
            .op none (some 32) (.loadN 32 (.tmp 31)),
            .op none (some 33) (.mk (rle [(1, .bool false), (32, .int .u8 0)]) [(0, 1, (.const (.bool true))), (1, 32, (.tmp 32))]),
            .op none none (.store 33 (.tmp 6) (.tmp 33))] [],
          .op none (some 34) (.faddr 1 (.tmp 3)),
          .op none (some 35) (.load1 (.tmp 34)),
          .op none (some 36) (.loadN 33 (.tmp 6)),
          .op none (some 37) (.mkSlice T_api_Root 1 (rle [(1, .bool false), (32, .int .u8 0)]) [(0, 33, (.tmp 36))]),
          .op none (some 38) (.append T_api_Root 33 33 (rle [(1, .bool false), (32, .int .u8 0)]) (.tmp 35) (.tmp 37)),
          .op none (some 39) (.faddr 1 (.tmp 3)),
          .op none none (.store 1 (.tmp 39) (.tmp 38))],
        .op none (some 40) (.ibin .add (.tmp 21) (.const (.int .i64 1))),
        .op none (some 21) (.mov (.tmp 40))]],
    .op none (some 41) (.loadN 2 (.tmp 3)),
    .op none none (.store 2 (.tmp 2) (.tmp 41)),
    .ret] }
def b_forest_New (T_forest_Forest : Nat) : Body := { n := 4, res := [.tmp 0], code := [
    .op none (some 0) (.mov (.const (.pointer none))),
    .op none (some 1) (.mkMap),
    .op none (some 2) (.mk (rle [(1, .int .u64 0), (1, .slice none 0 0), (1, .map none), (2, .int .i64 0)]) [(2, 1, (.tmp 1))]),
    .op none (some 3) (.box T_forest_Forest (.tmp 2)),
    .op none (some 0) (.mov (.tmp 3)),
    .ret] }
def b_Pforest_Forest_Modify (f_Pforest_Forest_is f_Pforest_Forest_going f_Pforest_Forest_coming f_maps_Values_map_api_Hashuint64_api_Hash_uint64 f_slices_Sorted_uint64 f_forest_deleted f_forest_grown f_Pforest_Forest_change : Nat) (T_forest_Undo T_api_Hash : Nat) : Body := { n := 110, res := [.cell true 7 6, .tmp 7], code := [
    .op none (some 6) (.new T_forest_Undo (rle [(1, .pointer none), (2, .int .i64 0), (1, .int .u64 0), (1, .slice none 0 0), (2, .map none)])),
    .op none (some 7) (.mov (.const (.int .i64 0))),
    .op none (some 15) (.mov (.tmp 0)),
    .op none (some 16) (.call f_Pforest_Forest_is #[(.tmp 15)]),
    .op none (some 17) (.un .not (.tmp 16)),
    .cond (.tmp 17) [
      .op none (some 18) (.mk (rle [(1, .pointer none), (2, .int .i64 0), (1, .int .u64 0), (1, .slice none 0 0), (2, .map none)]) []),
      .op none none (.store 7 (.tmp 6) (.tmp 18)),
      .op none (some 7) (.mov (.const (.int .i64 1))),
      .ret] [],
    .op none (some 20) (.mov (.tmp 0)),
    .op none (some 21) (.mov (.tmp 1)),
    .op none (some 22) (.call f_Pforest_Forest_going #[(.tmp 20), (.tmp 21)]),
    .op none (some 19) (.mov (.tmp 22)),
    .op none (some 23) (.ext (.tmp 19) 0),
    .op none (some 24) (.ext (.tmp 19) 1),
    .op none (some 8) (.mov (.tmp 23)),
    .op none (some 9) (.mov (.tmp 24)),
    .op none (some 25) (.mov (.tmp 9)),
    .op none (some 26) (.ibin .neq (.tmp 25) (.const (.int .i64 0))),
    .cond (.tmp 26) [
      .op none (some 27) (.mk (rle [(1, .pointer none), (2, .int .i64 0), (1, .int .u64 0), (1, .slice none 0 0), (2, .map none)]) []),
      .op none (some 28) (.mov (.tmp 9)),
      .op none none (.store 7 (.tmp 6) (.tmp 27)),
      .op none (some 7) (.mov (.tmp 28)),
      .ret] [],
    .op none (some 30) (.mov (.tmp 0)),
    .op none (some 31) (.mov (.tmp 2)),
    .op none (some 32) (.mov (.tmp 8)),
    .op none (some 33) (.call f_Pforest_Forest_coming #[(.tmp 30), (.tmp 31), (.tmp 32)]),
    .op none (some 29) (.mov (.tmp 33)),
    .op none (some 34) (.ext (.tmp 29) 0),
    .op none (some 35) (.ext (.tmp 29) 1),
    .op none (some 10) (.mov (.tmp 34)),
    .op none (some 9) (.mov (.tmp 35)),
    .op none (some 36) (.mov (.tmp 9)),
    .op none (some 37) (.ibin .neq (.tmp 36) (.const (.int .i64 0))),
    .cond (.tmp 37) [
      .op none (some 38) (.mk (rle [(1, .pointer none), (2, .int .i64 0), (1, .int .u64 0), (1, .slice none 0 0), (2, .map none)]) []),
      .op none (some 39) (.mov (.tmp 9)),
      .op none none (.store 7 (.tmp 6) (.tmp 38)),
      .op none (some 7) (.mov (.tmp 39)),
      .ret] [],
    .op none (some 40) (.mov (.tmp 0)),
    .op none (some 41) (.nilc (.tmp 40)),
    .op none (some 42) (.faddr 4 (.tmp 41)),
    .op none (some 43) (.load1 (.tmp 42)),
    .op none (some 44) (.ibin .add (.tmp 43) (.const (.int .i64 1))),
    .op none (some 45) (.nilc (.tmp 40)),
    .op none (some 46) (.faddr 4 (.tmp 45)),
    .op none none (.store 1 (.tmp 46) (.tmp 44)),
    .draw [
      ([], none, (some 47), .mov (.tmp 0)),
      ([], none, (some 48), .mov (.tmp 0)),
      ([1], none, (some 49), .nilc (.tmp 48)),
      ([2, 1], none, (some 50), .faddr 4 (.tmp 49)),
      ([3, 2, 1], none, (some 51), .load1 (.tmp 50)),
      ([], none, (some 52), .mov (.tmp 0)),
      ([5], none, (some 53), .nilc (.tmp 52)),
      ([6, 5], none, (some 54), .faddr 3 (.tmp 53)),
      ([7, 6, 5], none, (some 55), .load1 (.tmp 54)),
      ([], none, (some 56), .mov (.tmp 0)),
      ([9], none, (some 57), .nilc (.tmp 56)),
      ([10, 9], none, (some 58), .faddr 0 (.tmp 57)),
      ([11, 10, 9], none, (some 59), .load1 (.tmp 58)),
      ([], none, (some 60), .mov (.tmp 0)),
      ([13], none, (some 61), .nilc (.tmp 60)),
      ([14, 13], none, (some 62), .faddr 1 (.tmp 61)),
      ([15, 14, 13], none, (some 63), .load1 (.tmp 62)),
      ([], none, (some 64), .mov (.tmp 8)),
      ([], none, (some 65), .mov (.tmp 10)),
      ([0, 4, 8, 12, 16, 17, 18, 3, 2, 1, 7, 6, 5, 11, 10, 9, 15, 14, 13], none, (some 66), .mk (rle [(1, .pointer none), (2, .int .i64 0), (1, .int .u64 0), (1, .slice none 0 0), (2, .map none)]) [(0, 1, (.tmp 47)), (1, 1, (.tmp 51)), (2, 1, (.tmp 55)), (3, 1, (.tmp 59)), (4, 1, (.tmp 63)), (5, 1, (.tmp 64)), (6, 1, (.tmp 65))]),
      ([], none, (some 11), .new T_forest_Undo (rle [(1, .pointer none), (2, .int .i64 0), (1, .int .u64 0), (1, .slice none 0 0), (2, .map none)]))] [
      .op none none (.store 7 (.tmp 11) (.tmp 66))],
    .draw [
      ([], none, (some 67), .mov (.tmp 0)),
      ([0], none, (some 68), .nilc (.tmp 67)),
      ([1, 0], none, (some 69), .faddr 1 (.tmp 68)),
      ([2, 1, 0], none, (some 70), .load1 (.tmp 69)),
      ([], none, (some 71), .mov (.tmp 8)),
      ([4], none, (some 72), .call f_maps_Values_map_api_Hashuint64_api_Hash_uint64 #[(.tmp 71)]),
      ([5, 4], none, (some 73), .call f_slices_Sorted_uint64 #[(.tmp 72)])] [
      .op none (some 74) (.call f_forest_deleted #[(.tmp 70), (.tmp 73)]),
      .op none (some 12) (.mov (.tmp 74))],
    .op none (some 75) (.mov (.tmp 2)),
    .op none (some 76) (.lenS (.tmp 75)),
    .op none (some 77) (.mov (.const (.int .i64 0))),
    .block 0 [
      .loop [
        .op none (some 78) (.ibin .lss (.tmp 77) (.tmp 76)),
        .cond (.tmp 78) [] [
          .exit 0],
        .block 1 [
          .op none (some 79) (.iaddr 32 (.tmp 75) (.tmp 77)),
          .op none (some 80) (.loadN 32 (.tmp 79)),
          .op none (some 14) (.new T_api_Hash (rle [(32, .int .u8 0)])),
          .op none none (.store 32 (.tmp 14) (.tmp 80)),
          .draw [
            ([], none, (some 81), .mov (.tmp 12)),
            ([], none, (some 82), .loadN 32 (.tmp 14)),
            ([], none, (some 83), .mov (.tmp 0)),
            ([2], none, (some 84), .nilc (.tmp 83)),
            ([3, 2], none, (some 85), .faddr 0 (.tmp 84)),
            ([4, 3, 2], none, (some 86), .load1 (.tmp 85))] [
            .op none (some 87) (.call f_forest_grown #[(.tmp 81), (.tmp 82), (.tmp 86)]),
            .op none (some 12) (.mov (.tmp 87))],
          .op none (some 88) (.mov (.tmp 0)),
          .op none (some 89) (.nilc (.tmp 88)),
          .op none (some 90) (.faddr 0 (.tmp 89)),
          .op none (some 91) (.load1 (.tmp 90)),
          .op none (some 92) (.ibin .add (.tmp 91) (.const (.int .u64 1))),
          .op none (some 93) (.nilc (.tmp 88)),
          .op none (some 94) (.faddr 0 (.tmp 93)),
          .op none none (.store 1 (.tmp 94) (.tmp 92))],
        .op none (some 95) (.ibin .add (.tmp 77) (.const (.int .i64 1))),
        .op none (some 77) (.mov (.tmp 95))]],
    .draw [
      ([], none, (some 96), .mov (.tmp 0)),
      ([], none, (some 97), .mov (.tmp 0)),
      ([], none, (some 98), .mov (.tmp 12)),
      ([], none, (some 99), .faddr 1 (.tmp 11)),
      ([3], none, (some 100), .load1 (.tmp 99)),
      ([0, 2], none, (some 101), .nilc (.tmp 96)),
      ([5, 0, 2], none, (some 102), .faddr 1 (.tmp 101)),
      ([6, 2, 0, 5], none, none, .store 1 (.tmp 102) (.tmp 98))] [
      .op none (some 103) (.nilc (.tmp 97)),
      .op none (some 104) (.faddr 3 (.tmp 103)),
      .op none none (.store 1 (.tmp 104) (.tmp 100))],
    .op none (some 105) (.mov (.tmp 0)),
    .op none (some 106) (.mov (.tmp 8)),
    .op none (some 107) (.mov (.tmp 10)),
    .op none (some 108) (.call f_Pforest_Forest_change #[(.tmp 105), (.tmp 106), (.tmp 107)]),
    .op none (some 109) (.loadN 7 (.tmp 11)),
    .op none none (.store 7 (.tmp 6) (.tmp 109)),
    .op none (some 7) (.mov (.const (.int .i64 0))),
    .ret] }
def b_Pforest_Forest_Leaves (f_Pforest_Forest_is f_maps_Keys_map_api_Hashuint64_api_Hash_uint64 f_Pforest_Forest_Leaves_1 f_slices_SortedFunc_api_Hash : Nat) (T_Pforest_Forest : Nat) : Body := { n := 13, res := [.tmp 2], code := [
    .op none (some 1) (.box T_Pforest_Forest (.tmp 0)),
    .op none (some 2) (.mov (.const (.slice none 0 0))),
    .op none (some 3) (.load1 (.tmp 1)),
    .op none (some 4) (.call f_Pforest_Forest_is #[(.tmp 3)]),
    .op none (some 5) (.un .not (.tmp 4)),
    .cond (.tmp 5) [
      .op none (some 2) (.mov (.const (.slice none 0 0))),
      .ret] [],
    .op none (some 6) (.load1 (.tmp 1)),
    .op none (some 7) (.nilc (.tmp 6)),
    .op none (some 8) (.faddr 2 (.tmp 7)),
    .op none (some 9) (.load1 (.tmp 8)),
    .op none (some 10) (.call f_maps_Keys_map_api_Hashuint64_api_Hash_uint64 #[(.tmp 9)]),
    .op none (some 11) (.fn f_Pforest_Forest_Leaves_1 #[] #[(.tmp 1)]),
    .op none (some 12) (.call f_slices_SortedFunc_api_Hash #[(.tmp 10), (.tmp 11)]),
    .op none (some 2) (.mov (.tmp 12)),
    .ret] }
def b_Pforest_Forest_is (T_Pforest_Forest T_map_api_Hashuint64 : Nat) : Body := { n := 12, res := [.tmp 2], code := [
    .op none (some 2) (.mov (.const (.bool false))),
    .op none (some 3) (.mov (.tmp 0)),
    .op none (some 4) (.bin .neq T_Pforest_Forest (.tmp 3) (.const (.pointer none))),
    .op none (some 5) (.mov (.tmp 4)),
    .op (some (some 5, true)) (some 6) (.mov (.tmp 0)),
    .op (some (some 5, true)) (some 7) (.nilc (.tmp 6)),
    .op (some (some 5, true)) (some 8) (.faddr 2 (.tmp 7)),
    .op (some (some 5, true)) (some 9) (.load1 (.tmp 8)),
    .op (some (some 5, true)) (some 10) (.bin .neq T_map_api_Hashuint64 (.tmp 9) (.const (.map none))),
    .op none (some 11) (.pick (.tmp 5) (.tmp 10) (.const (.bool false))),
    .op none (some 2) (.mov (.tmp 11)),
    .ret] }
def b_Pforest_Forest_going (T_api_Hash : Nat) : Body := { n := 48, res := [.tmp 4, .tmp 5], code := [
    .op none (some 4) (.mov (.const (.map none))),
    .op none (some 5) (.mov (.const (.int .i64 0))),
    .op none (some 14) (.mkMap),
    .op none (some 6) (.mov (.tmp 14)),
    .op none (some 7) (.mov (.const (.bool false))),
    .op none (some 15) (.mov (.tmp 1)),
    .op none (some 16) (.lenS (.tmp 15)),
    .op none (some 17) (.mov (.const (.int .i64 0))),
    .block 0 [
      .loop [
        .op none (some 18) (.ibin .lss (.tmp 17) (.tmp 16)),
        .cond (.tmp 18) [] [
          .exit 0],
        .block 1 [
          .op none (some 19) (.iaddr 32 (.tmp 15) (.tmp 17)),
          .op none (some 20) (.loadN 32 (.tmp 19)),
          .op none (some 9) (.new T_api_Hash (rle [(32, .int .u8 0)])),
          .op none none (.store 32 (.tmp 9) (.tmp 20)),
          .draw [
            ([], none, (some 22), .mov (.tmp 0)),
            ([0], none, (some 23), .nilc (.tmp 22)),
            ([1, 0], none, (some 24), .faddr 2 (.tmp 23)),
            ([2, 1, 0], none, (some 25), .load1 (.tmp 24)),
            ([], none, (some 26), .loadN 32 (.tmp 9)),
            ([3, 4, 2, 1, 0], none, (some 27), .lookup T_api_Hash (.int .u64 0) (.tmp 25) (.tmp 26) true),
            ([5, 3, 4, 2, 1, 0], none, (some 21), .mov (.tmp 27)),
            ([6, 5, 3, 4, 2, 1, 0], none, (some 28), .ext (.tmp 21) 0),
            ([6, 5, 3, 4, 2, 1, 0], none, (some 29), .ext (.tmp 21) 1),
            ([7, 0, 1, 2, 3, 4, 5, 6], none, (some 10), .mov (.tmp 28))] [
            .op none (some 11) (.mov (.tmp 29))],
          .op none (some 30) (.mov (.tmp 11)),
          .op none (some 31) (.un .not (.tmp 30)),
          .cond (.tmp 31) [
            .op none (some 4) (.mov (.const (.map none))),
            .op none (some 5) (.mov (.const (.int .i64 5))),
            .ret] [],
          .op none (some 33) (.mov (.tmp 6)),
          .op none (some 34) (.loadN 32 (.tmp 9)),
          .op none (some 35) (.lookup T_api_Hash (.int .u64 0) (.tmp 33) (.tmp 34) true),
          .op none (some 32) (.mov (.tmp 35)),
          .op none (some 36) (.ext (.tmp 32) 0),
          .op none (some 37) (.ext (.tmp 32) 1),
          .op none (some 12) (.mov (.tmp 36)),
          .op none (some 13) (.mov (.tmp 37)),
          .op none (some 38) (.mov (.tmp 7)),
          .op none (some 39) (.mov (.tmp 38)),
          .op (some (some 39, false)) (some 40) (.mov (.tmp 13)),
          .op none (some 41) (.pick (.tmp 39) (.const (.bool true)) (.tmp 40)),
          .op none (some 7) (.mov (.tmp 41)),
          .op none (some 42) (.mov (.tmp 6)),
          .op none (some 43) (.loadN 32 (.tmp 9)),
          .op none (some 44) (.mov (.tmp 10)),
          .op none none (.mapUpd T_api_Hash (.tmp 42) (.tmp 43) (.tmp 44))],
        .op none (some 45) (.ibin .add (.tmp 17) (.const (.int .i64 1))),
        .op none (some 17) (.mov (.tmp 45))]],
    .op none (some 46) (.mov (.tmp 7)),
    .cond (.tmp 46) [
      .op none (some 4) (.mov (.const (.map none))),
      .op none (some 5) (.mov (.const (.int .i64 24))),
      .ret] [],
    .op none (some 47) (.mov (.tmp 6)),
    .op none (some 4) (.mov (.tmp 47)),
    .op none (some 5) (.mov (.const (.int .i64 0))),
    .ret] }
def b_Pforest_Forest_Where_1 (f_forest_tree_size : Nat) (T_forest_tree : Nat) : Body := { n := 17, res := [.tmp 3], code := [
    .op none (some 2) (.box T_forest_tree (.tmp 0)),
    .op none (some 3) (.mov (.const (.bool false))),
    .draw [
      ([], none, (some 4), .load1 (.tmp 1)),
      ([], none, (some 5), .faddr 1 (.tmp 2)),
      ([1], none, (some 6), .load1 (.tmp 5)),
      ([0, 2, 1], none, (some 7), .ibin .geq (.tmp 4) (.tmp 6)),
      ([3, 0, 2, 1], none, (some 8), .mov (.tmp 7)),
      ([4, 3, 0, 2, 1], (some (some 8, true)), (some 9), .load1 (.tmp 1)),
      ([4, 3, 0, 2, 1], (some (some 8, true)), (some 10), .faddr 1 (.tmp 2)),
      ([6, 4, 3, 0, 2, 1], (some (some 8, true)), (some 11), .load1 (.tmp 10)),
      ([5, 7, 4, 3, 0, 2, 1, 6], (some (some 8, true)), (some 12), .ibin .sub (.tmp 9) (.tmp 11)),
      ([4, 3, 0, 2, 1], (some (some 8, true)), (some 13), .loadN 3 (.tmp 2)),
      ([9, 4, 3, 0, 2, 1], (some (some 8, true)), (some 14), .call f_forest_tree_size #[(.tmp 13)])] [
      .op (some (some 8, true)) (some 15) (.ibin .lss (.tmp 12) (.tmp 14)),
      .op none (some 16) (.pick (.tmp 8) (.tmp 15) (.const (.bool false))),
      .op none (some 3) (.mov (.tmp 16))],
    .ret] }
def b_forest_tree_size (T_forest_tree : Nat) : Body := { n := 6, res := [.tmp 2], code := [
    .op none (some 1) (.box T_forest_tree (.tmp 0)),
    .op none (some 2) (.mov (.const (.int .u64 0))),
    .op none (some 3) (.faddr 2 (.tmp 1)),
    .op none (some 4) (.load1 (.tmp 3)),
    .op none (some 5) (.ibin .shl (.const (.int .u64 1)) (.tmp 4)),
    .op none (some 2) (.mov (.tmp 5)),
    .ret] }
def b_Pforest_Forest_root (f_pos_Root : Nat) (T_forest_tree : Nat) : Body := { n := 18, res := [.tmp 4], code := [
    .op none (some 3) (.box T_forest_tree (.tmp 1)),
    .op none (some 4) (.mov (.const (.int .u64 0))),
    .draw [
      ([], none, (some 8), .mov (.tmp 0)),
      ([0], none, (some 9), .nilc (.tmp 8)),
      ([1, 0], none, (some 10), .faddr 0 (.tmp 9)),
      ([2, 1, 0], none, (some 11), .load1 (.tmp 10)),
      ([], none, (some 12), .faddr 2 (.tmp 3)),
      ([4], none, (some 13), .load1 (.tmp 12)),
      ([3, 5, 2, 1, 0, 4], none, (some 14), .call f_pos_Root #[(.tmp 11), (.tmp 13)]),
      ([6, 3, 5, 2, 1, 0, 4], none, (some 7), .mov (.tmp 14)),
      ([7, 6, 3, 5, 2, 1, 0, 4], none, (some 15), .ext (.tmp 7) 0),
      ([7, 6, 3, 5, 2, 1, 0, 4], none, (some 16), .ext (.tmp 7) 1),
      ([8, 6, 0, 1, 2, 3, 4, 5, 7], none, (some 5), .mov (.tmp 15))] [
      .op none (some 6) (.mov (.tmp 16))],
    .op none (some 17) (.mov (.tmp 5)),
    .op none (some 4) (.mov (.tmp 17)),
    .ret] }
def b_Pforest_Forest_rows (f_pos_Rows : Nat) : Body := { n := 14, res := [.tmp 2], code := [
    .op none (some 2) (.mov (.const (.int .i64 0))),
    .op none (some 6) (.mov (.tmp 0)),
    .op none (some 7) (.nilc (.tmp 6)),
    .op none (some 8) (.faddr 0 (.tmp 7)),
    .op none (some 9) (.load1 (.tmp 8)),
    .op none (some 10) (.call f_pos_Rows #[(.tmp 9)]),
    .op none (some 5) (.mov (.tmp 10)),
    .op none (some 11) (.ext (.tmp 5) 0),
    .op none (some 12) (.ext (.tmp 5) 1),
    .op none (some 3) (.mov (.tmp 11)),
    .op none (some 4) (.mov (.tmp 12)),
    .op none (some 13) (.mov (.tmp 3)),
    .op none (some 2) (.mov (.tmp 13)),
    .ret] }
def b_Pforest_Forest_coming (T_api_Hash : Nat) : Body := { n := 74, res := [.tmp 6, .tmp 7], code := [
    .op none (some 6) (.mov (.const (.map none))),
    .op none (some 7) (.mov (.const (.int .i64 0))),
    .op none (some 17) (.mkMap),
    .op none (some 8) (.mov (.tmp 17)),
    .op none (some 18) (.mov (.tmp 1)),
    .op none (some 19) (.lenS (.tmp 18)),
    .op none (some 20) (.mov (.const (.int .i64 0))),
    .block 0 [
      .loop [
        .op none (some 21) (.ibin .lss (.tmp 20) (.tmp 19)),
        .cond (.tmp 21) [] [
          .exit 0],
        .block 1 [
          .op none (some 22) (.mov (.tmp 20)),
          .op none (some 23) (.iaddr 32 (.tmp 18) (.tmp 20)),
          .op none (some 24) (.loadN 32 (.tmp 23)),
          .op none (some 10) (.new T_api_Hash (rle [(32, .int .u8 0)])),
          .op none (some 9) (.mov (.tmp 22)),
          .op none none (.store 32 (.tmp 10) (.tmp 24)),
          .draw [
            ([], none, (some 26), .mov (.tmp 0)),
            ([0], none, (some 27), .nilc (.tmp 26)),
            ([1, 0], none, (some 28), .faddr 2 (.tmp 27)),
            ([2, 1, 0], none, (some 29), .load1 (.tmp 28)),
            ([], none, (some 30), .loadN 32 (.tmp 10)),
            ([3, 4, 2, 1, 0], none, (some 31), .lookup T_api_Hash (.int .u64 0) (.tmp 29) (.tmp 30) true),
            ([5, 3, 4, 2, 1, 0], none, (some 25), .mov (.tmp 31)),
            ([6, 5, 3, 4, 2, 1, 0], none, (some 32), .ext (.tmp 25) 0),
            ([6, 5, 3, 4, 2, 1, 0], none, (some 33), .ext (.tmp 25) 1),
            ([7, 0, 1, 2, 3, 4, 5, 6], none, (some 11), .mov (.tmp 32))] [
            .op none (some 12) (.mov (.tmp 33))],
          .op none (some 35) (.mov (.tmp 2)),
          .op none (some 36) (.loadN 32 (.tmp 10)),
          .op none (some 37) (.lookup T_api_Hash (.int .u64 0) (.tmp 35) (.tmp 36) true),
          .op none (some 34) (.mov (.tmp 37)),
          .op none (some 38) (.ext (.tmp 34) 0),
          .op none (some 39) (.ext (.tmp 34) 1),
          .op none (some 13) (.mov (.tmp 38)),
          .op none (some 14) (.mov (.tmp 39)),
          .op none (some 41) (.mov (.tmp 8)),
          .op none (some 42) (.loadN 32 (.tmp 10)),
          .op none (some 43) (.lookup T_api_Hash (.int .u64 0) (.tmp 41) (.tmp 42) true),
          .op none (some 40) (.mov (.tmp 43)),
          .op none (some 44) (.ext (.tmp 40) 0),
          .op none (some 45) (.ext (.tmp 40) 1),
          .op none (some 15) (.mov (.tmp 44)),
          .op none (some 16) (.mov (.tmp 45)),
          .op none (some 46) (.mov (.tmp 12)),
          .op none (some 47) (.mov (.tmp 46)),
          .op (some (some 47, true)) (some 48) (.mov (.tmp 14)),
          .op (some (some 47, true)) (some 49) (.un .not (.tmp 48)),
          .op none (some 50) (.pick (.tmp 47) (.tmp 49) (.const (.bool false))),
          .op none (some 51) (.mov (.tmp 50)),
          .op (some (some 51, false)) (some 52) (.mov (.tmp 16)),
          .op none (some 53) (.pick (.tmp 51) (.const (.bool true)) (.tmp 52)),
          .cond (.tmp 53) [
            .op none (some 6) (.mov (.const (.map none))),
            .op none (some 7) (.mov (.const (.int .i64 6))),
            .ret] [],
          .draw [
            ([], none, (some 54), .mov (.tmp 8)),
            ([], none, (some 55), .loadN 32 (.tmp 10)),
            ([], none, (some 56), .mov (.tmp 0)),
            ([2], none, (some 57), .nilc (.tmp 56)),
            ([3, 2], none, (some 58), .faddr 0 (.tmp 57)),
            ([4, 3, 2], none, (some 59), .load1 (.tmp 58)),
            ([], none, (some 60), .mov (.tmp 9)),
            ([6], none, (some 61), .toInt .u64 (.tmp 60)),
            ([5, 7, 4, 3, 2, 6], none, (some 62), .ibin .add (.tmp 59) (.tmp 61))] [
            .op none none (.mapUpd T_api_Hash (.tmp 54) (.tmp 55) (.tmp 62))]],
        .op none (some 63) (.ibin .add (.tmp 20) (.const (.int .i64 1))),
        .op none (some 20) (.mov (.tmp 63))]],
    .op none (some 64) (.mov (.tmp 1)),
    .op none (some 65) (.lenS (.tmp 64)),
    .op none (some 66) (.toInt .u64 (.tmp 65)),
    .op none (some 67) (.mov (.tmp 0)),
    .op none (some 68) (.nilc (.tmp 67)),
    .op none (some 69) (.faddr 0 (.tmp 68)),
    .op none (some 70) (.load1 (.tmp 69)),
    .op none (some 71) (.ibin .sub (.const (.int .u64 9223372036854775807)) (.tmp 70)),
    .op none (some 72) (.ibin .gtr (.tmp 66) (.tmp 71)),
    .cond (.tmp 72) [
      .op none (some 6) (.mov (.const (.map none))),
      .op none (some 7) (.mov (.const (.int .i64 35))),
      .ret] [],
    .op none (some 73) (.mov (.tmp 8)),
    .op none (some 6) (.mov (.tmp 73)),
    .op none (some 7) (.mov (.const (.int .i64 0))),
    .ret] }
def b_forest_deleted (f_slices_Clone_forest_tree_forest_tree f_slices_BinarySearch_uint64_uint64 f_forest_tree_size f_Pforest_node_without : Nat) (T_forest_tree : Nat) : Body := { n := 51, res := [.tmp 4], code := [
    .op none (some 4) (.mov (.const (.slice none 0 0))),
    .op none (some 12) (.mov (.tmp 0)),
    .op none (some 13) (.call f_slices_Clone_forest_tree_forest_tree #[(.tmp 12)]),
    .op none (some 5) (.mov (.tmp 13)),
    .op none (some 14) (.mov (.tmp 5)),
    .op none (some 15) (.lenS (.tmp 14)),
    .op none (some 16) (.mov (.const (.int .i64 0))),
    .block 0 [
      .loop [
        .op none (some 17) (.ibin .lss (.tmp 16) (.tmp 15)),
        .cond (.tmp 17) [] [
          .exit 0],
        .block 1 [
          .op none (some 18) (.mov (.tmp 16)),
          .op none (some 19) (.iaddr 3 (.tmp 14) (.tmp 16)),
          .op none (some 20) (.loadN 3 (.tmp 19)),
          .op none (some 7) (.new T_forest_tree (rle [(1, .pointer none), (1, .int .u64 0), (1, .int .i64 0)])),
          .op none (some 6) (.mov (.tmp 18)),
          .op none none (.store 3 (.tmp 7) (.tmp 20)),
          .op none (some 22) (.mov (.tmp 1)),
          .op none (some 23) (.faddr 1 (.tmp 7)),
          .op none (some 24) (.load1 (.tmp 23)),
          .op none (some 25) (.call f_slices_BinarySearch_uint64_uint64 #[(.tmp 22), (.tmp 24)]),
          .op none (some 21) (.mov (.tmp 25)),
          .op none (some 26) (.ext (.tmp 21) 0),
          .op none (some 27) (.ext (.tmp 21) 1),
          .op none (some 8) (.mov (.tmp 26)),
          .op none (some 9) (.mov (.tmp 27)),
          .draw [
            ([], none, (some 29), .mov (.tmp 1)),
            ([], none, (some 30), .faddr 1 (.tmp 7)),
            ([1], none, (some 31), .load1 (.tmp 30)),
            ([], none, (some 32), .loadN 3 (.tmp 7)),
            ([3], none, (some 33), .call f_forest_tree_size #[(.tmp 32)]),
            ([2, 4, 1, 3], none, (some 34), .ibin .add (.tmp 31) (.tmp 33)),
            ([0, 5, 4, 2, 1, 3], none, (some 35), .call f_slices_BinarySearch_uint64_uint64 #[(.tmp 29), (.tmp 34)]),
            ([6, 0, 5, 4, 2, 1, 3], none, (some 28), .mov (.tmp 35)),
            ([7, 6, 0, 5, 4, 2, 1, 3], none, (some 36), .ext (.tmp 28) 0),
            ([7, 6, 0, 5, 4, 2, 1, 3], none, (some 37), .ext (.tmp 28) 1),
            ([8, 6, 0, 1, 2, 3, 4, 5, 7], none, (some 10), .mov (.tmp 36))] [
            .op none (some 11) (.mov (.tmp 37))],
          .draw [
            ([], none, (some 38), .mov (.tmp 5)),
            ([], none, (some 39), .mov (.tmp 6)),
            ([], none, (some 40), .faddr 0 (.tmp 7)),
            ([2], none, (some 41), .load1 (.tmp 40)),
            ([], none, (some 42), .mov (.tmp 1)),
            ([], none, (some 43), .mov (.tmp 8)),
            ([], none, (some 44), .mov (.tmp 10)),
            ([4, 5, 6], none, (some 45), .slS 1 (.tmp 42) (some (.tmp 43)) (some (.tmp 44))),
            ([3, 7, 2, 4, 5, 6], none, (some 46), .call f_Pforest_node_without #[(.tmp 41), (.tmp 45)])] [
            .op none (some 47) (.iaddr 3 (.tmp 38) (.tmp 39)),
            .op none (some 48) (.faddr 0 (.tmp 47)),
            .op none none (.store 1 (.tmp 48) (.tmp 46))]],
        .op none (some 49) (.ibin .add (.tmp 16) (.const (.int .i64 1))),
        .op none (some 16) (.mov (.tmp 49))]],
    .op none (some 50) (.mov (.tmp 5)),
    .op none (some 4) (.mov (.tmp 50)),
    .ret] }
def b_forest_grown (f_forest_joined : Nat) (T_api_Hash T_forest_node T_forest_tree : Nat) : Body := { n := 57, res := [.tmp 6], code := [
    .op none (some 4) (.box T_api_Hash (.tmp 1)),
    .op none (some 6) (.mov (.const (.slice none 0 0))),
    .op none (some 9) (.loadN 32 (.tmp 4)),
    .op none (some 10) (.mk (rle [(32, .int .u8 0), (2, .pointer none), (1, .int .u64 0)]) [(0, 32, (.tmp 9))]),
    .op none (some 11) (.box T_forest_node (.tmp 10)),
    .op none (some 12) (.mov (.tmp 2)),
    .op none (some 13) (.mk (rle [(1, .pointer none), (1, .int .u64 0), (1, .int .i64 0)]) [(0, 1, (.tmp 11)), (1, 1, (.tmp 12))]),
    .op none (some 7) (.new T_forest_tree (rle [(1, .pointer none), (1, .int .u64 0), (1, .int .i64 0)])),
    .op none none (.store 3 (.tmp 7) (.tmp 13)),
    .block 0 [
      .loop [
        .draw [
          ([], none, (some 14), .mov (.tmp 0)),
          ([0], none, (some 15), .lenS (.tmp 14)),
          ([1, 0], none, (some 16), .ibin .gtr (.tmp 15) (.const (.int .i64 0))),
          ([2, 1, 0], none, (some 17), .mov (.tmp 16)),
          ([3, 2, 1, 0], (some (some 17, true)), (some 18), .mov (.tmp 0)),
          ([3, 2, 1, 0], (some (some 17, true)), (some 19), .mov (.tmp 0)),
          ([5, 3, 2, 1, 0], (some (some 17, true)), (some 20), .lenS (.tmp 19)),
          ([6, 3, 5, 2, 1, 0], (some (some 17, true)), (some 21), .ibin .sub (.tmp 20) (.const (.int .i64 1))),
          ([4, 7, 3, 2, 1, 0, 6, 5], (some (some 17, true)), (some 22), .iaddr 3 (.tmp 18) (.tmp 21)),
          ([8, 3, 4, 7, 2, 1, 0, 6, 5], (some (some 17, true)), (some 23), .faddr 2 (.tmp 22)),
          ([9, 3, 8, 4, 7, 2, 1, 0, 6, 5], (some (some 17, true)), (some 24), .load1 (.tmp 23)),
          ([3, 2, 1, 0], (some (some 17, true)), (some 25), .faddr 2 (.tmp 7)),
          ([11, 3, 2, 1, 0], (some (some 17, true)), (some 26), .load1 (.tmp 25))] [
          .op (some (some 17, true)) (some 27) (.ibin .eql (.tmp 24) (.tmp 26)),
          .op none (some 28) (.pick (.tmp 17) (.tmp 27) (.const (.bool false)))],
        .cond (.tmp 28) [] [
          .exit 0],
        .block 1 [
          .op none (some 29) (.mov (.tmp 0)),
          .op none (some 30) (.mov (.tmp 0)),
          .op none (some 31) (.lenS (.tmp 30)),
          .op none (some 32) (.ibin .sub (.tmp 31) (.const (.int .i64 1))),
          .op none (some 33) (.iaddr 3 (.tmp 29) (.tmp 32)),
          .op none (some 34) (.loadN 3 (.tmp 33)),
          .op none (some 8) (.new T_forest_tree (rle [(1, .pointer none), (1, .int .u64 0), (1, .int .i64 0)])),
          .op none none (.store 3 (.tmp 8) (.tmp 34)),
          .op none (some 35) (.mov (.tmp 0)),
          .op none (some 36) (.mov (.tmp 0)),
          .op none (some 37) (.lenS (.tmp 36)),
          .op none (some 38) (.ibin .sub (.tmp 37) (.const (.int .i64 1))),
          .op none (some 39) (.slS 3 (.tmp 35) none (some (.tmp 38))),
          .op none (some 0) (.mov (.tmp 39)),
          .draw [
            ([], none, (some 40), .faddr 0 (.tmp 8)),
            ([0], none, (some 41), .load1 (.tmp 40)),
            ([], none, (some 42), .faddr 0 (.tmp 7)),
            ([2], none, (some 43), .load1 (.tmp 42)),
            ([], none, (some 44), .faddr 1 (.tmp 7)),
            ([4], none, (some 45), .load1 (.tmp 44)),
            ([1, 3, 5, 0, 2, 4], none, (some 46), .call f_forest_joined #[(.tmp 41), (.tmp 43), (.tmp 45)]),
            ([], none, (some 47), .faddr 1 (.tmp 8)),
            ([7], none, (some 48), .load1 (.tmp 47)),
            ([], none, (some 49), .faddr 2 (.tmp 7)),
            ([9], none, (some 50), .load1 (.tmp 49)),
            ([10, 9], none, (some 51), .ibin .add (.tmp 50) (.const (.int .i64 1)))] [
            .op none (some 52) (.mk (rle [(1, .pointer none), (1, .int .u64 0), (1, .int .i64 0)]) [(0, 1, (.tmp 46)), (1, 1, (.tmp 48)), (2, 1, (.tmp 51))]),
            .op none none (.store 3 (.tmp 7) (.tmp 52))]]]],
    .op none (some 53) (.mov (.tmp 0)),
    .op none (some 54) (.loadN 3 (.tmp 7)),
    .op none (some 55) (.mkSlice T_forest_tree 1 (rle [(1, .pointer none), (1, .int .u64 0), (1, .int .i64 0)]) [(0, 3, (.tmp 54))]),
    .op none (some 56) (.append T_forest_tree 3 24 (rle [(1, .pointer none), (1, .int .u64 0), (1, .int .i64 0)]) (.tmp 53) (.tmp 55)),
    .op none (some 6) (.mov (.tmp 56)),
    .ret] }
def b_Pforest_Forest_change (f_maps_Copy_map_api_Hashuint64_map_api_Hashuint64_api_Hash_uint64 : Nat) (T_api_Hash : Nat) : Body := { n := 24, res := [], code := [
    .op none (some 7) (.mov (.tmp 1)),
    .op none (some 8) (.range (.tmp 7)),
    .block 0 [
      .loop [
        .op none (some 9) (.next (.tmp 8)),
        .op none (some 10) (.ext (.tmp 9) 0),
        .cond (.tmp 10) [] [
          .exit 0],
        .block 1 [
          .op none (some 11) (.entry (.tmp 8)),
          .op none (some 12) (.ext (.tmp 11) 0),
          .op none (some 6) (.new T_api_Hash (rle [(32, .int .u8 0)])),
          .op none none (.store 32 (.tmp 6) (.tmp 12)),
          .draw [
            ([], none, (some 13), .mov (.tmp 0)),
            ([0], none, (some 14), .nilc (.tmp 13)),
            ([1, 0], none, (some 15), .faddr 2 (.tmp 14)),
            ([2, 1, 0], none, (some 16), .load1 (.tmp 15)),
            ([], none, (some 17), .loadN 32 (.tmp 6))] [
            .op none none (.delete T_api_Hash (.tmp 16) (.tmp 17))]]]],
    .op none (some 18) (.mov (.tmp 0)),
    .op none (some 19) (.nilc (.tmp 18)),
    .op none (some 20) (.faddr 2 (.tmp 19)),
    .op none (some 21) (.load1 (.tmp 20)),
    .op none (some 22) (.mov (.tmp 2)),
    .op none (some 23) (.call f_maps_Copy_map_api_Hashuint64_map_api_Hashuint64_api_Hash_uint64 #[(.tmp 21), (.tmp 22)])] }
def b_Pforest_Forest_Leaves_1 (f_cmp_Compare_uint64 : Nat) (T_api_Hash : Nat) : Body := { n := 19, res := [.tmp 5], code := [
    .op none (some 3) (.box T_api_Hash (.tmp 0)),
    .op none (some 4) (.box T_api_Hash (.tmp 1)),
    .op none (some 5) (.mov (.const (.int .i64 0))),
    .draw [
      ([], none, (some 6), .load1 (.tmp 2)),
      ([0], none, (some 7), .nilc (.tmp 6)),
      ([1, 0], none, (some 8), .faddr 2 (.tmp 7)),
      ([2, 1, 0], none, (some 9), .load1 (.tmp 8)),
      ([], none, (some 10), .loadN 32 (.tmp 3)),
      ([3, 4, 2, 1, 0], none, (some 11), .lookup T_api_Hash (.int .u64 0) (.tmp 9) (.tmp 10) false),
      ([], none, (some 12), .load1 (.tmp 2)),
      ([6], none, (some 13), .nilc (.tmp 12)),
      ([7, 6], none, (some 14), .faddr 2 (.tmp 13)),
      ([8, 7, 6], none, (some 15), .load1 (.tmp 14)),
      ([], none, (some 16), .loadN 32 (.tmp 4)),
      ([9, 10, 8, 7, 6], none, (some 17), .lookup T_api_Hash (.int .u64 0) (.tmp 15) (.tmp 16) false)] [
      .op none (some 18) (.call f_cmp_Compare_uint64 #[(.tmp 11), (.tmp 17)]),
      .op none (some 5) (.mov (.tmp 18))],
    .ret] }
def b_Pforest_node_without (f_slices_BinarySearch_uint64_uint64 f_Pforest_node_without f_forest_joined : Nat) (T_Pforest_node : Nat) : Body := { n := 46, res := [.tmp 4], code := [
    .op none (some 4) (.mov (.const (.pointer none))),
    .op none (some 7) (.mov (.tmp 1)),
    .op none (some 8) (.lenS (.tmp 7)),
    .op none (some 9) (.ibin .eql (.tmp 8) (.const (.int .i64 0))),
    .cond (.tmp 9) [
      .op none (some 10) (.mov (.tmp 0)),
      .op none (some 4) (.mov (.tmp 10)),
      .ret] [],
    .op none (some 11) (.mov (.tmp 0)),
    .op none (some 12) (.nilc (.tmp 11)),
    .op none (some 13) (.faddr 32 (.tmp 12)),
    .op none (some 14) (.load1 (.tmp 13)),
    .op none (some 15) (.bin .eql T_Pforest_node (.tmp 14) (.const (.pointer none))),
    .cond (.tmp 15) [
      .op none (some 4) (.mov (.const (.pointer none))),
      .ret] [],
    .op none (some 17) (.mov (.tmp 1)),
    .op none (some 18) (.mov (.tmp 0)),
    .op none (some 19) (.nilc (.tmp 18)),
    .op none (some 20) (.faddr 34 (.tmp 19)),
    .op none (some 21) (.load1 (.tmp 20)),
    .op none (some 22) (.call f_slices_BinarySearch_uint64_uint64 #[(.tmp 17), (.tmp 21)]),
    .op none (some 16) (.mov (.tmp 22)),
    .op none (some 23) (.ext (.tmp 16) 0),
    .op none (some 24) (.ext (.tmp 16) 1),
    .op none (some 5) (.mov (.tmp 23)),
    .op none (some 6) (.mov (.tmp 24)),
    .draw [
      ([], none, (some 25), .mov (.tmp 0)),
      ([0], none, (some 26), .nilc (.tmp 25)),
      ([1, 0], none, (some 27), .faddr 32 (.tmp 26)),
      ([2, 1, 0], none, (some 28), .load1 (.tmp 27)),
      ([], none, (some 29), .mov (.tmp 1)),
      ([], none, (some 30), .mov (.tmp 5)),
      ([4, 5], none, (some 31), .slS 1 (.tmp 29) none (some (.tmp 30))),
      ([3, 6, 2, 1, 0, 4, 5], none, (some 32), .call f_Pforest_node_without #[(.tmp 28), (.tmp 31)]),
      ([], none, (some 33), .mov (.tmp 0)),
      ([8], none, (some 34), .nilc (.tmp 33)),
      ([9, 8], none, (some 35), .faddr 33 (.tmp 34)),
      ([10, 9, 8], none, (some 36), .load1 (.tmp 35)),
      ([], none, (some 37), .mov (.tmp 1)),
      ([], none, (some 38), .mov (.tmp 5)),
      ([12, 13], none, (some 39), .slS 1 (.tmp 37) (some (.tmp 38)) none),
      ([11, 14, 7, 10, 9, 8, 12, 13, 3, 6, 2, 1, 0, 4, 5], none, (some 40), .call f_Pforest_node_without #[(.tmp 36), (.tmp 39)]),
      ([], none, (some 41), .mov (.tmp 0)),
      ([16], none, (some 42), .nilc (.tmp 41)),
      ([17, 16], none, (some 43), .faddr 34 (.tmp 42)),
      ([18, 17, 16], none, (some 44), .load1 (.tmp 43))] [
      .op none (some 45) (.call f_forest_joined #[(.tmp 32), (.tmp 40), (.tmp 44)]),
      .op none (some 4) (.mov (.tmp 45))],
    .ret] }
def b_forest_joined (f_leaf_Parent : Nat) (T_Pforest_node T_forest_node : Nat) : Body := { n := 29, res := [.tmp 6], code := [
    .op none (some 6) (.mov (.const (.pointer none))),
    .block 0 [
      .op none (some 8) (.mov (.tmp 0)),
      .op none (some 9) (.bin .eql T_Pforest_node (.tmp 8) (.const (.pointer none))),
      .op none (some 7) (.mov (.tmp 9)),
      .cond (.tmp 7) [
        .op none (some 10) (.mov (.tmp 1)),
        .op none (some 6) (.mov (.tmp 10)),
        .ret] [
        .op none (some 12) (.mov (.tmp 1)),
        .op none (some 13) (.bin .eql T_Pforest_node (.tmp 12) (.const (.pointer none))),
        .op none (some 11) (.mov (.tmp 13)),
        .cond (.tmp 11) [
          .op none (some 14) (.mov (.tmp 0)),
          .op none (some 6) (.mov (.tmp 14)),
          .ret] []]],
    .draw [
      ([], none, (some 15), .mov (.tmp 0)),
      ([0], none, (some 16), .nilc (.tmp 15)),
      ([1, 0], none, (some 17), .faddr 0 (.tmp 16)),
      ([2, 1, 0], none, (some 18), .loadN 32 (.tmp 17)),
      ([], none, (some 19), .mov (.tmp 1)),
      ([4], none, (some 20), .nilc (.tmp 19)),
      ([5, 4], none, (some 21), .faddr 0 (.tmp 20)),
      ([6, 5, 4], none, (some 22), .loadN 32 (.tmp 21)),
      ([3, 7, 2, 1, 0, 6, 5, 4], none, (some 23), .call f_leaf_Parent #[(.tmp 18), (.tmp 22)]),
      ([], none, (some 24), .mov (.tmp 0)),
      ([], none, (some 25), .mov (.tmp 1)),
      ([], none, (some 26), .mov (.tmp 2))] [
      .op none (some 27) (.mk (rle [(32, .int .u8 0), (2, .pointer none), (1, .int .u64 0)]) [(0, 32, (.tmp 23)), (32, 1, (.tmp 24)), (33, 1, (.tmp 25)), (34, 1, (.tmp 26))]),
      .op none (some 28) (.box T_forest_node (.tmp 27)),
      .op none (some 6) (.mov (.tmp 28))],
    .ret] }
end Go.Sp

namespace Go.Sp
section
variable {H : Type} (par : H → H → H)
inductive Tr (H : Type) where
  | leaf (h : H)
  | pair (h : H) (l r : Tr H) (m : Nat)
def Tr.hash {H : Type} : Tr H → H
  | .leaf h => h
  | .pair h _ _ _ => h
def joinT : Option (Tr H) → Option (Tr H) → Nat → Option (Tr H)
  | none, r, _ => r
  | some l, none, _ => some l
  | some l, some r, m => some (.pair (par l.hash r.hash) l r m)
/-- a tree without the leaves of these numbers -/
def withoutT : Tr H → List Nat → Option (Tr H)
  | .leaf h, l => if l = [] then some (.leaf h) else none
  | .pair h a b m, l => if l = [] then some (.pair h a b m) else joinT par (withoutT a (l.filter fun x => decide (x < m))) (withoutT b (l.filter fun x => decide (m ≤ x))) m
def withoutO : Option (Tr H) → List Nat → Option (Tr H)
  | none, _ => none
  | some t, l => withoutT par t l
/-- the tree over 2 ^ k leaves from number f on -/
def buildT (L : Nat → Option H) : Nat → Nat → Option (Tr H)
  | 0, f => (L f).map .leaf
  | k + 1, f => joinT par (buildT L k f) (buildT L k (f + 2 ^ k)) (f + 2 ^ k)
def delL (L : Nat → Option H) (l : List Nat) (i : Nat) : Option H := if i ∈ l then none else L i
theorem buildT_congr {L L' : Nat → Option H} : ∀ (k f : Nat), (∀ i, f ≤ i → i < f + 2 ^ k → L i = L' i) → buildT par L k f = buildT par L' k f := by
  intro k
  induction k with
  | zero => intro f h; simp only [buildT]; rw [h f (Nat.le_refl _) (by simp)]
  | succ k ih =>
    intro f h
    simp only [buildT]
    have hp : 0 < 2 ^ k := Nat.pow_pos (by omega)
    rw [ih f fun i h1 h2 => h i h1 (by rw [Nat.pow_succ]; omega), ih (f + 2 ^ k) fun i h1 h2 => h i (by omega) (by rw [Nat.pow_succ]; omega)]
theorem joinT_none {a b : Option (Tr H)} {m : Nat} : joinT par a b m = none ↔ a = none ∧ b = none := by
  cases a <;> cases b <;> simp [joinT]
theorem buildT_none {L : Nat → Option H} : ∀ (k f : Nat), buildT par L k f = none ↔ ∀ i, f ≤ i → i < f + 2 ^ k → L i = none := by
  intro k
  induction k with
  | zero =>
    intro f
    simp only [buildT, Option.map_eq_none_iff]
    constructor
    · intro h i h1 h2
      have : i = f := by simp at h2; omega
      rw [this]; exact h
    · intro h; exact h f (Nat.le_refl _) (by simp)
  | succ k ih =>
    intro f
    have hp : 0 < 2 ^ k := Nat.pow_pos (by omega)
    simp only [buildT, joinT_none, ih]
    constructor
    · rintro ⟨h1, h2⟩ i h3 h4
      rw [Nat.pow_succ] at h4
      rcases Nat.lt_or_ge i (f + 2 ^ k) with h | h
      · exact h1 i h3 h
      · exact h2 i h (by omega)
    · intro h
      exact ⟨fun i h1 h2 => h i h1 (by rw [Nat.pow_succ]; omega), fun i h1 h2 => h i (by omega) (by rw [Nat.pow_succ]; omega)⟩
theorem withoutT_nil (t : Tr H) : withoutT par t [] = some t := by cases t <;> simp [withoutT]
theorem without_build {L : Nat → Option H} : ∀ (k f : Nat) (l : List Nat), (∀ x ∈ l, f ≤ x ∧ x < f + 2 ^ k ∧ (L x).isSome = true) → withoutO par (buildT par L k f) l = buildT par (delL L l) k f := by
  intro k
  induction k with
  | zero =>
    intro f l h
    have hl : ∀ x ∈ l, x = f := fun x hx => by have := h x hx; simp at this; omega
    simp only [buildT]
    cases hf : L f with
    | none =>
      have : l = [] := by
        cases l with
        | nil => rfl
        | cons x l =>
          have h1 := (h x List.mem_cons_self).2.2
          rw [hl x List.mem_cons_self, hf] at h1; cases h1
      subst this
      simp [withoutO, delL, hf]
    | some a =>
      simp only [Option.map_some, withoutO, withoutT]
      split
      · rename_i h0; subst h0; simp [delL, hf]
      · rename_i h0
        have : f ∈ l := by
          cases l with
          | nil => exact absurd rfl h0
          | cons x l => rw [← hl x List.mem_cons_self]; exact List.mem_cons_self
        simp [delL, this]
  | succ k ih =>
    intro f l h
    have hp : 0 < 2 ^ k := Nat.pow_pos (by omega)
    have ha : ∀ x ∈ l.filter fun x => decide (x < f + 2 ^ k), f ≤ x ∧ x < f + 2 ^ k ∧ (L x).isSome = true := by
      intro x hx
      simp only [List.mem_filter, decide_eq_true_eq] at hx
      exact ⟨(h x hx.1).1, hx.2, (h x hx.1).2.2⟩
    have hb : ∀ x ∈ l.filter fun x => decide (f + 2 ^ k ≤ x), f + 2 ^ k ≤ x ∧ x < f + 2 ^ k + 2 ^ k ∧ (L x).isSome = true := by
      intro x hx
      simp only [List.mem_filter, decide_eq_true_eq] at hx
      have := (h x hx.1).2.1
      rw [Nat.pow_succ] at this
      exact ⟨hx.2, by omega, (h x hx.1).2.2⟩
    have iha := ih f _ ha
    have ihb := ih (f + 2 ^ k) _ hb
    have ca : buildT par (delL L (l.filter fun x => decide (x < f + 2 ^ k))) k f = buildT par (delL L l) k f := by
      refine buildT_congr par k f fun i h1 h2 => ?_
      simp only [delL, List.mem_filter, decide_eq_true_eq, h2, and_true]
    have cb : buildT par (delL L (l.filter fun x => decide (f + 2 ^ k ≤ x))) k (f + 2 ^ k) = buildT par (delL L l) k (f + 2 ^ k) := by
      refine buildT_congr par k _ fun i h1 h2 => ?_
      simp only [delL, List.mem_filter, decide_eq_true_eq, h1, and_true]
    rw [ca] at iha
    rw [cb] at ihb
    simp only [buildT]
    have noneOf : ∀ g, buildT par L k g = none → ∀ m : List Nat, (∀ x ∈ m, g ≤ x ∧ x < g + 2 ^ k ∧ (L x).isSome = true) → m = [] := by
      intro g hg m hm
      cases m with
      | nil => rfl
      | cons x m =>
        have h1 := hm x List.mem_cons_self
        have := (buildT_none par k g).1 hg x h1.1 h1.2.1
        rw [this] at h1; simp at h1
    cases hA : buildT par L k f with
    | none =>
      have hn : buildT par (delL L l) k f = none := by rw [← iha, hA]; rfl
      have he := noneOf f hA _ ha
      have hall : (l.filter fun x => decide (f + 2 ^ k ≤ x)) = l := by
        rw [List.filter_eq_self]
        intro x hx
        have : ¬ x < f + 2 ^ k := fun hlt => by
          have : x ∈ l.filter fun x => decide (x < f + 2 ^ k) := by simp [hx, hlt]
          rw [he] at this; simp at this
        simp; omega
      rw [hall] at ihb
      rw [hn]
      simp only [joinT]
      exact ihb
    | some ta =>
      cases hB : buildT par L k (f + 2 ^ k) with
      | none =>
        have hn : buildT par (delL L l) k (f + 2 ^ k) = none := by rw [← ihb, hB]; rfl
        have he := noneOf _ hB _ hb
        have hall : (l.filter fun x => decide (x < f + 2 ^ k)) = l := by
          rw [List.filter_eq_self]
          intro x hx
          have : ¬ f + 2 ^ k ≤ x := fun hlt => by
            have : x ∈ l.filter fun x => decide (f + 2 ^ k ≤ x) := by simp [hx, hlt]
            rw [he] at this; simp at this
          simp; omega
        rw [hall, hA] at iha
        rw [hn, ← iha]
        simp only [joinT, withoutO]
        cases withoutT par ta l <;> rfl
      | some tb =>
        simp only [joinT, withoutO, withoutT]
        rw [hA] at iha
        rw [hB] at ihb
        simp only [withoutO] at iha ihb
        split
        · rename_i h0
          subst h0
          simp only [List.filter_nil, withoutT_nil] at iha ihb
          rw [← iha, ← ihb]
        · rw [iha, ihb]
/-- the first leaf's number of the tree of height h -/
def firstN (n h : Nat) : Nat := n / 2 ^ (h + 1) * 2 ^ (h + 1)
abbrev TT (H : Type) := Option (Tr H) × Nat × Nat
/-- the trees of a forest of n leaves, the highest first -/
def treesT (L : Nat → Option H) (n : Nat) : List (TT H) := (treesN n).map fun h => (buildT par L h (firstN n h), firstN n h, h)
/-- the heights of the trees, the lowest first, from j on -/
def highs (n j : Nat) : List Nat := (List.range' j (63 - j)).filter (bitN n)
theorem treesBelow_rev (n : Nat) : ∀ k, (treesBelow n k).reverse = (List.range k).filter (bitN n) := by
  intro k
  induction k with
  | zero => rfl
  | succ k ih =>
    rw [List.range_succ, List.filter_append, ← ih, treesBelow]
    by_cases h : bitN n k = true
    · simp [h]
    · simp [h]
theorem treesN_rev {n : Nat} (h : n < 2 ^ 63) : (treesN n).reverse = highs n 0 := by
  rw [treesN, if_pos h, treesBelow_rev, highs, List.range_eq_range']
/-- a leaf more: from the lowest tree on -/
def growT : List (TT H) → TT H → List (TT H)
  | [], t => [t]
  | l :: r, t => if l.2.2 = t.2.2 then growT r (joinT par l.1 t.1 t.2.1, l.2.1, t.2.2 + 1) else t :: l :: r
theorem highs_step {n j : Nat} (hj : j < 63) : highs n j = if bitN n j = true then j :: highs n (j + 1) else highs n (j + 1) := by
  unfold highs
  rw [show 63 - j = (63 - (j + 1)) + 1 by omega, List.range'_succ, List.filter_cons]
theorem bit_above {n q j i : Nat} (hn : n = q * 2 ^ j + (2 ^ j - 1)) (hi : j < i) (hq : q % 2 = 0) : bitN (n + 1) i = bitN n i ∧ (n + 1) / 2 ^ (i + 1) = n / 2 ^ (i + 1) := by
  have hp : 0 < 2 ^ j := Nat.pow_pos (by omega)
  have e1 : n + 1 = (q + 1) * 2 ^ j := by rw [hn, Nat.add_mul]; omega
  have key : ∀ i, j < i → (n + 1) / 2 ^ i = n / 2 ^ i := by
    intro i hi
    obtain ⟨d, rfl⟩ : ∃ d, i = j + 1 + d := ⟨i - (j + 1), by omega⟩
    have a1 : (n + 1) / 2 ^ j = q + 1 := by rw [e1]; exact Nat.mul_div_cancel _ hp
    have a2 : n / 2 ^ j = q := by
      rw [hn, Nat.mul_comm, Nat.mul_add_div hp, Nat.div_eq_of_lt (by omega)]; rfl
    rw [Nat.pow_add, Nat.pow_succ, Nat.mul_assoc, ← Nat.div_div_eq_div_mul, ← Nat.div_div_eq_div_mul, ← Nat.div_div_eq_div_mul, ← Nat.div_div_eq_div_mul, a1, a2]
    congr 1
    omega
  exact ⟨by simp only [bitN, key i hi], key (i + 1) (by omega)⟩
/-- the trees of n + 1 leaves, of those of n -/
theorem grow_trees {L : Nat → Option H} {n : Nat} {L' : Nat → Option H} (hL : ∀ i, i < n → L' i = L i) : ∀ (d j q : Nat), d + j = 63 → n = q * 2 ^ j + (2 ^ j - 1) → n + 1 < 2 ^ 63 →
    growT par ((highs n j).map fun h => (buildT par L h (firstN n h), firstN n h, h)) (buildT par L' j (n + 1 - 2 ^ j), n + 1 - 2 ^ j, j) =
      (highs (n + 1) j).map fun h => (buildT par L' h (firstN (n + 1) h), firstN (n + 1) h, h) := by
  intro d
  induction d with
  | zero =>
    intro j q hd hn h63
    have : j = 63 := by omega
    subst this
    have : 0 < 2 ^ 63 := by decide
    have : q = 0 := by
      rcases Nat.eq_zero_or_pos q with h | h
      · exact h
      · have := Nat.le_mul_of_pos_left (2 ^ 63) h; omega
    subst this
    omega
  | succ d ih =>
    intro j q hd hn h63
    have hj : j < 63 := by omega
    have hp : 0 < 2 ^ j := Nat.pow_pos (by omega)
    have a2 : n / 2 ^ j = q := by
      rw [hn, Nat.mul_comm, Nat.mul_add_div hp, Nat.div_eq_of_lt (by omega)]; rfl
    have e1 : n + 1 = (q + 1) * 2 ^ j := by rw [Nat.add_mul]; omega
    have a1 : (n + 1) / 2 ^ j = q + 1 := by rw [e1]; exact Nat.mul_div_cancel _ hp
    have hbn : bitN n j = (q % 2 == 1) := by rw [bitN, a2]
    have hbn1 : bitN (n + 1) j = ((q + 1) % 2 == 1) := by rw [bitN, a1]
    rw [highs_step hj]
    by_cases hq : q % 2 = 1
    · rw [if_pos (by rw [hbn]; simp [hq])]
      simp only [List.map_cons, growT, if_true]
      have hf : firstN n j + 2 ^ j = n + 1 - 2 ^ j := by
        rw [firstN, Nat.pow_succ, ← Nat.div_div_eq_div_mul, a2]
        have : q / 2 * (2 ^ j * 2) = (q / 2 * 2) * 2 ^ j := by rw [Nat.mul_comm (2 ^ j) 2, Nat.mul_assoc]
        rw [this, show q / 2 * 2 = q - 1 by omega, hn]
        obtain ⟨p, rfl⟩ : ∃ p, q = p + 1 := ⟨q - 1, by omega⟩
        rw [Nat.add_sub_cancel, Nat.add_mul]
        omega
      have hfl : firstN n j = n + 1 - 2 ^ (j + 1) := by rw [Nat.pow_succ]; omega
      have hjoin : joinT par (buildT par L j (firstN n j)) (buildT par L' j (n + 1 - 2 ^ j)) (n + 1 - 2 ^ j) = buildT par L' (j + 1) (n + 1 - 2 ^ (j + 1)) := by
        simp only [buildT]
        rw [← hfl, hf]
        congr 1
        refine buildT_congr par j _ fun i h1 h2 => (hL i ?_).symm
        omega
      rw [hjoin, hfl]
      have := ih (j + 1) (q / 2) (by omega) (by
        have : q / 2 * 2 ^ (j + 1) = (q / 2 * 2) * 2 ^ j := by rw [Nat.pow_succ, Nat.mul_comm (2 ^ j) 2, Nat.mul_assoc]
        rw [this, show q / 2 * 2 = q - 1 by omega, Nat.pow_succ]
        obtain ⟨p, rfl⟩ : ∃ p, q = p + 1 := ⟨q - 1, by omega⟩
        rw [hn, Nat.add_sub_cancel, Nat.add_mul]
        omega) h63
      rw [this]
      rw [highs_step (n := n + 1) hj, if_neg (by rw [hbn1]; simp; omega)]
    · have hq0 : q % 2 = 0 := by omega
      rw [if_neg (by rw [hbn]; simp; omega)]
      have hstop : ∀ (l : List Nat) (t : TT H), (∀ h ∈ l, t.2.2 < h) → growT par (l.map fun h => (buildT par L h (firstN n h), firstN n h, h)) t = t :: l.map fun h => (buildT par L h (firstN n h), firstN n h, h) := by
        intro l t hl
        cases l with
        | nil => rfl
        | cons x l =>
          simp only [List.map_cons, growT]
          rw [if_neg (by have := hl x List.mem_cons_self; omega)]
      have hgt : ∀ h ∈ highs n (j + 1), j < h := by
        intro h hh
        simp only [highs, List.mem_filter, List.mem_range'_1] at hh
        omega
      rw [hstop _ _ hgt, highs_step (n := n + 1) hj, if_pos (by rw [hbn1]; simp; omega), List.map_cons]
      have hfj : firstN (n + 1) j = n + 1 - 2 ^ j := by
        rw [firstN, Nat.pow_succ, ← Nat.div_div_eq_div_mul, a1]
        have : (q + 1) / 2 * (2 ^ j * 2) = ((q + 1) / 2 * 2) * 2 ^ j := by rw [Nat.mul_comm (2 ^ j) 2, Nat.mul_assoc]
        rw [this, show (q + 1) / 2 * 2 = q by omega, hn]
        omega
      rw [hfj]
      congr 1
      have hsame : highs (n + 1) (j + 1) = highs n (j + 1) := by
        unfold highs
        refine List.filter_congr fun i hi => ?_
        simp only [List.mem_range'_1] at hi
        exact (bit_above hn (by omega) hq0).1
      rw [hsame]
      refine List.map_congr_left fun h hh => ?_
      have hjh := hgt h hh
      have hfs : firstN (n + 1) h = firstN n h := by rw [firstN, firstN, (bit_above hn hjh hq0).2]
      rw [hfs]
      congr 1
      refine buildT_congr par h _ fun i h1 h2 => (hL i ?_).symm
      -- below n
      have hb : bitN n h = true := by
        simp only [highs, List.mem_filter] at hh; exact hh.2
      have hdiv : n / 2 ^ h = 2 * (n / 2 ^ (h + 1)) + 1 := by
        rw [Nat.pow_succ, ← Nat.div_div_eq_div_mul]
        have : n / 2 ^ h % 2 = 1 := by simpa [bitN] using hb
        omega
      have hle : n / 2 ^ h * 2 ^ h ≤ n := Nat.div_mul_le_self _ _
      rw [hdiv] at hle
      have : (2 * (n / 2 ^ (h + 1)) + 1) * 2 ^ h = firstN n h + 2 ^ h := by
        rw [firstN, Nat.pow_succ, Nat.add_mul, Nat.one_mul]
        congr 1
        rw [Nat.mul_comm 2, Nat.mul_assoc, Nat.mul_comm 2]
      omega
theorem grown_trees {L : Nat → Option H} {n : Nat} {L' : Nat → Option H} (hL : ∀ i, i < n → L' i = L i) (h63 : n + 1 < 2 ^ 63) :
    (growT par (treesT par L n).reverse ((L' n).map .leaf, n, 0)).reverse = treesT par L' (n + 1) := by
  have := grow_trees par hL 63 0 n rfl (by simp) h63
  rw [show n + 1 - 2 ^ 0 = n by simp] at this
  rw [treesT, ← List.map_reverse, treesN_rev (by omega)]
  rw [show (L' n).map Tr.leaf = buildT par L' 0 n from rfl, this, treesT, ← List.map_reverse, ← treesN_rev h63, List.reverse_reverse]
end
end Go.Sp

namespace Go.Sp
/-- where a tree's nodes lie -/
def TrAt (w : World) : Value → Tr Hash → Prop
  | v, .leaf h => ∃ b, v = ptrV b ∧ Blk w b (hC h ++ [.pointer none, .pointer none, u64V 0])
  | v, .pair h l r m => ∃ b vl vr, v = ptrV b ∧ Blk w b (hC h ++ [vl, vr, u64V m]) ∧ m < 2 ^ 62 ∧ TrAt w vl l ∧ TrAt w vr r
def OTr (w : World) (v : Value) : Option (Tr Hash) → Prop
  | none => v = .pointer none
  | some t => TrAt w v t
/-- none of these blocks is a node's -/
def NoNode (w : World) (l : List Nat) : Prop := ∀ b ∈ l, ∀ cs, Blk w b cs → ¬ (cs.length = 35 ∧ ∃ n, cs[0]? = some (.int .u8 n))
theorem hC_head (h : Hash) (r : List Value) : ∃ n, (hC h ++ r)[0]? = some (.int .u8 n) := by
  obtain ⟨l, hl⟩ := h
  cases l with
  | nil => simp at hl
  | cons x l => exact ⟨_, rfl⟩
theorem NoNode.nil (w : World) : NoNode w [] := fun b hb => by simp at hb
theorem TrAt.upd {l : List Nat} {w w' : World} (hu : Upd l w w') (hl : NoNode w l) : ∀ (t : Tr Hash) {v : Value}, TrAt w v t → TrAt w' v t := by
  intro t
  induction t with
  | leaf h =>
    rintro v ⟨b, rfl, hB⟩
    exact ⟨b, rfl, hB.upd hu fun hm => hl b hm _ hB ⟨by simp [hC_length], hC_head _ _⟩⟩
  | pair h a c m iha ihc =>
    rintro v ⟨b, vl, vr, rfl, hB, hm, h1, h2⟩
    exact ⟨b, vl, vr, rfl, hB.upd hu fun hm => hl b hm _ hB ⟨by simp [hC_length], hC_head _ _⟩, hm, iha h1, ihc h2⟩
theorem OTr.upd {l : List Nat} {w w' : World} {v : Value} {t : Option (Tr Hash)} (h : OTr w v t) (hu : Upd l w w') (hl : NoNode w l) : OTr w' v t := by
  cases t with
  | none => exact h
  | some t => exact TrAt.upd hu hl t h
theorem OTr.ext {w w' : World} {v : Value} {t : Option (Tr Hash)} (h : OTr w v t) (hu : Ext w w') : OTr w' v t := h.upd hu (NoNode.nil w)
theorem TrAt.ext {w w' : World} {v : Value} {t : Tr Hash} (h : TrAt w v t) (hu : Ext w w') : TrAt w' v t := TrAt.upd hu (NoNode.nil w) t h
/-- what a node's block bears -/
theorem TrAt.node {w : World} {v : Value} {t : Tr Hash} (h : TrAt w v t) : ∃ b x y m, v = ptrV b ∧ Blk w b (hC t.hash ++ [x, y, u64V m]) := by
  cases t with
  | leaf h' => obtain ⟨b, rfl, hB⟩ := h; exact ⟨b, _, _, _, rfl, hB⟩
  | pair h' a c m => obtain ⟨b, vl, vr, rfl, hB, _⟩ := h; exact ⟨b, _, _, _, rfl, hB⟩
theorem node_cell0 {w : World} {b : Nat} {h : Hash} {x y z : Value} (hB : Blk w b (hC h ++ [x, y, z])) : Mem w b 0 (hC h) ∧ w.cell? ⟨b, 0 + 32, none⟩ = some x ∧ w.cell? ⟨b, 0 + 33, none⟩ = some y ∧ w.cell? ⟨b, 0 + 34, none⟩ = some z := by
  refine ⟨hB.memPre, hB.cell ?_, hB.cell ?_, hB.cell ?_⟩
  all_goals rw [List.getElem?_append_right (by rw [hC_length]; omega), hC_length]; rfl
theorem fillL_cons {cs : List Value} {off size : Nat} {v : Value} {r : List (Nat × Nat × Value)} (h1 : (cellL v).length = size) (h2 : off + size ≤ cs.length) : fillL cs ((off, size, v) :: r) = fillL (splice cs off (cellL v)) r := by
  subst h1
  rw [fillL]
  simp only [Nat.beq_refl]
  rw [show Nat.ble (off + (cellL v).length) cs.length = true from Nat.ble_eq_true_of_le h2]
theorem splice_head {a b vs : List Value} (h : vs.length = a.length) : splice (a ++ b) 0 vs = vs ++ b := by
  rw [splice, List.take_zero, List.nil_append, Nat.zero_add, h, List.drop_left]
theorem leaf_fill (h : Hash) : fillL (rleL [(32, .int .u8 0), (2, .pointer none), (1, .int .u64 0)]) [(0, 32, hV h)] = some (hC h ++ [.pointer none, .pointer none, u64V 0]) := by
  have e0 : rleL [(32, Value.int .u8 0), (2, .pointer none), (1, .int .u64 0)] = List.replicate 32 (.int .u8 0) ++ [.pointer none, .pointer none, u64V 0] := rfl
  have e1 : cellL (hV h) = hC h := by simp [hV, cellL]
  rw [e0, fillL_cons (by rw [e1, hC_length]) (by simp), e1, splice_head (by rw [hC_length, List.length_replicate])]
  rfl
theorem node_fill (h : Hash) (b1 b2 : Nat) (m : Nat) : fillL (rleL [(32, .int .u8 0), (2, .pointer none), (1, .int .u64 0)]) [(0, 32, hV h), (32, 1, ptrV b1), (33, 1, ptrV b2), (34, 1, u64V m)] = some (hC h ++ [ptrV b1, ptrV b2, u64V m]) := by
  have e0 : rleL [(32, Value.int .u8 0), (2, .pointer none), (1, .int .u64 0)] = List.replicate 32 (.int .u8 0) ++ [.pointer none, .pointer none, u64V 0] := rfl
  have e1 : cellL (hV h) = hC h := by simp [hV, cellL]
  have hl := hC_length h
  rw [e0, fillL_cons (by rw [e1, hC_length]) (by simp), e1, splice_head (by rw [hC_length, List.length_replicate])]
  rw [fillL_cons (size := 1) rfl (by simp [hl])]
  rw [show splice (hC h ++ [.pointer none, .pointer none, u64V 0]) 32 (cellL (ptrV b1)) = hC h ++ [ptrV b1, .pointer none, u64V 0] from splice_at hl]
  rw [fillL_cons (size := 1) rfl (by simp [hl])]
  rw [show hC h ++ [ptrV b1, .pointer none, u64V 0] = (hC h ++ [ptrV b1]) ++ [.pointer none, u64V 0] by simp]
  rw [show splice ((hC h ++ [ptrV b1]) ++ [.pointer none, u64V 0]) 33 (cellL (ptrV b2)) = (hC h ++ [ptrV b1]) ++ [ptrV b2, u64V 0] from splice_at (by simp [hl])]
  rw [fillL_cons (size := 1) rfl (by simp [hl])]
  rw [show (hC h ++ [ptrV b1]) ++ [ptrV b2, u64V 0] = (hC h ++ [ptrV b1, ptrV b2]) ++ [u64V 0] by simp]
  rw [show splice ((hC h ++ [ptrV b1, ptrV b2]) ++ [u64V 0]) 34 (cellL (u64V m)) = (hC h ++ [ptrV b1, ptrV b2]) ++ [u64V m] from splice_at (by simp [hl])]
  simp [fillL]
/-- the functions of forest -/
structure ForF (P : Program) extends LeafF P where
  joined : Nat
  TNode : Nat
  TNodeS : Nat
  TNE : Nat
  h_joined : Has P joined (b_forest_joined parent TNode TNodeS)
  h_TNode : P.underlying TNode = some (.pointer TNE)
section
variable {P : Program} {f : Nat} {w : World}
theorem ok_eq_ptrnil {T E : Nat} {e : Env} {x y : Operand} {b : Nat} (hT : P.underlying T = some (.pointer E)) (hx : e.ev x = some (ptrV b)) (hy : e.ev y = some (.pointer none)) : OpOK P (.bin .eql T x y) e w (Just (.bool false) w) := ok_eq_nil hT hx hy
theorem ok_eq_nilnil {T E : Nat} {e : Env} {x y : Operand} (hT : P.underlying T = some (.pointer E)) (hx : e.ev x = some (.pointer none)) (hy : e.ev y = some (.pointer none)) : OpOK P (.bin .eql T x y) e w (Just (.bool true) w) := ok_eq_nil hT hx hy
theorem joined_ok (A : ForF P) (hT : Tabs A.toShaF w) {vl vr : Value} {a c : Option (Tr Hash)} (m : Nat) (hm : m < 2 ^ 62) (hl : OTr w vl a) (hr : OTr w vr c) :
    Ret P A.joined [vl, vr, u64V m] w fun v w' => OTr w' v (joinT parH a c m) ∧ Ext w w' := by
  refine Ret.of_exec A.h_joined (Nat.le_of_ble_eq_true rfl) fun ct hc => ?_
  dsimp only [b_forest_joined, argEnv]
  repeat (first | refine xtm rfl rfl rfl ?_ | refine xgr rfl ?_ | refine xgs rfl rfl ?_ | refine xgu rfl rfl ?_ | refine xg0 rfl ?_ | refine xct rfl ?_ | refine xcf rfl ?_ | refine xbk ?_ | refine xsq ?_ | refine xbl ?_ | refine xex rfl ?_)
  cases a with
  | none =>
    have : vl = .pointer none := hl
    subst this
    refine xju (ok_eq_nilnil A.h_TNode rfl rfl) rfl ?_
    repeat (first | refine xtm rfl rfl rfl ?_ | refine xgr rfl ?_ | refine xgs rfl rfl ?_ | refine xgu rfl rfl ?_ | refine xg0 rfl ?_ | refine xct rfl ?_ | refine xcf rfl ?_ | refine xbk ?_ | refine xsq ?_ | refine xbl ?_ | refine xex rfl ?_)
    exact xre hc [_] ⟨rfl, trivial⟩ ⟨hr, Upd.refl _ _⟩
  | some ta =>
    obtain ⟨bl, x1, y1, m1, rfl, hBl⟩ := TrAt.node hl
    refine xju (ok_eq_ptrnil A.h_TNode rfl rfl) rfl ?_
    repeat (first | refine xtm rfl rfl rfl ?_ | refine xgr rfl ?_ | refine xgs rfl rfl ?_ | refine xgu rfl rfl ?_ | refine xg0 rfl ?_ | refine xct rfl ?_ | refine xcf rfl ?_ | refine xbk ?_ | refine xsq ?_ | refine xbl ?_ | refine xex rfl ?_)
    cases c with
    | none =>
      have : vr = .pointer none := hr
      subst this
      refine xju (ok_eq_nilnil A.h_TNode rfl rfl) rfl ?_
      repeat (first | refine xtm rfl rfl rfl ?_ | refine xgr rfl ?_ | refine xgs rfl rfl ?_ | refine xgu rfl rfl ?_ | refine xg0 rfl ?_ | refine xct rfl ?_ | refine xcf rfl ?_ | refine xbk ?_ | refine xsq ?_ | refine xbl ?_ | refine xex rfl ?_)
      exact xre hc [_] ⟨rfl, trivial⟩ ⟨hl, Upd.refl _ _⟩
    | some tc =>
      obtain ⟨br, x2, y2, m2, rfl, hBr⟩ := TrAt.node hr
      refine xju (ok_eq_ptrnil A.h_TNode rfl rfl) rfl ?_
      repeat (first | refine xtm rfl rfl rfl ?_ | refine xgr rfl ?_ | refine xgs rfl rfl ?_ | refine xgu rfl rfl ?_ | refine xg0 rfl ?_ | refine xct rfl ?_ | refine xcf rfl ?_ | refine xbk ?_ | refine xsq ?_ | refine xbl ?_ | refine xex rfl ?_)
      refine xen [(0, ptrV bl), (1, ptrV br), (2, u64V m)] ⟨rfl, rfl, rfl, trivial⟩ ?_
      refine exec_dwr rfl rfl rfl ?_
      repeat (first | refine wtm rfl rfl rfl ?_ | refine wgt rfl rfl rfl rfl ?_ | refine wgs rfl rfl ?_)
      refine ws_keep (hV ta.hash) rfl (fun W hu => ok_loadN (b := bl) (o := 0 + 0) rfl (node_cell0 (hBl.upd hu)).1 (hC_length _)) ?_
      repeat (first | refine wtm rfl rfl rfl ?_ | refine wgt rfl rfl rfl rfl ?_ | refine wgs rfl rfl ?_)
      refine ws_keep (hV tc.hash) rfl (fun W hu => ok_loadN (b := br) (o := 0 + 0) rfl (node_cell0 (hBr.upd hu)).1 (hC_length _)) ?_
      refine ws_ext (hV (parH ta.hash tc.hash)) rfl (fun W hu => ok_call rfl (parH_ok A.toLeafF (hT.upd hu) ta.hash tc.hash)) ?_
      repeat (first | refine wtm rfl rfl rfl ?_ | refine wgt rfl rfl rfl rfl ?_ | refine wgs rfl rfl ?_)
      refine ws_fin fun W hu => ?_
      refine xju (ok_mkL (l := [(0, 32, hV (parH ta.hash tc.hash)), (32, 1, ptrV bl), (33, 1, ptrV br), (34, 1, u64V m)]) (cs := hC (parH ta.hash tc.hash) ++ [ptrV bl, ptrV br, u64V m]) rfl (node_fill _ _ _ _)) rfl ?_
      refine exec_box rfl rfl ?_
      intro b w2 hb hs hu2 hB
      repeat (first | refine xtm rfl rfl rfl ?_ | refine xgr rfl ?_ | refine xgs rfl rfl ?_ | refine xgu rfl rfl ?_ | refine xg0 rfl ?_ | refine xct rfl ?_ | refine xcf rfl ?_ | refine xbk ?_ | refine xsq ?_ | refine xbl ?_ | refine xex rfl ?_)
      refine xre hc [_] ⟨rfl, trivial⟩ ⟨?_, hu.trans hu2⟩
      exact ⟨b, _, _, rfl, by simpa [Value.cells] using hB, hm, (TrAt.ext hl hu).ext hu2, (TrAt.ext hr hu).ext hu2⟩
end
end Go.Sp

namespace Go.Sp
theorem count_at {l : List Nat} {x i : Nat} (hi : i ≤ l.length) (h1 : ∀ j v, j < i → l[j]? = some v → v < x) (h2 : ∀ j v, i ≤ j → l[j]? = some v → ¬ v < x) :
    l.take i = l.filter (fun y => decide (y < x)) ∧ l.drop i = l.filter (fun y => decide (x ≤ y)) := by
  have ht : ∀ y ∈ l.take i, y < x := by
    intro y hy
    obtain ⟨j, hj⟩ := List.getElem?_of_mem hy
    rw [List.getElem?_take] at hj
    split at hj
    · exact h1 j y (by assumption) hj
    · cases hj
  have hd : ∀ y ∈ l.drop i, ¬ y < x := by
    intro y hy
    obtain ⟨j, hj⟩ := List.getElem?_of_mem hy
    rw [List.getElem?_drop] at hj
    exact h2 (i + j) y (by omega) hj
  constructor
  · conv => rhs; rw [← List.take_append_drop i l]
    rw [List.filter_append, List.filter_eq_self.2 (by intro y hy; simpa using ht y hy), List.filter_eq_nil_iff.2 (by intro y hy; simpa using hd y hy), List.append_nil]
  · conv => rhs; rw [← List.take_append_drop i l]
    rw [List.filter_append, List.filter_eq_nil_iff.2 (by intro y hy; have := ht y hy; simp; omega), List.filter_eq_self.2 (by intro y hy; have := hd y hy; simp; omega), List.nil_append]
theorem sorted_get {l : List Nat} (hs : l.Pairwise (· ≤ ·)) {i j : Nat} {a b : Nat} (hij : i ≤ j) (ha : l[i]? = some a) (hb : l[j]? = some b) : a ≤ b := by
  obtain ⟨hi, rfl⟩ := List.getElem?_eq_some_iff.1 ha
  obtain ⟨hj, rfl⟩ := List.getElem?_eq_some_iff.1 hb
  rcases Nat.eq_or_lt_of_le hij with h | h
  · subst h; exact Nat.le_refl _
  · exact List.pairwise_iff_getElem.1 hs i j hi hj h
/-- the functions of forest that find and take out -/
structure ForG (P : Program) extends ForF P where
  sf : SortF P
  snan : Nat
  bins : Nat
  without : Nat
  h_snan : Has P snan b_slices_isNaN_uint64
  h_bins : Has P bins (b_slices_BinarySearch_uint64_uint64 sf.less snan)
  h_without : Has P without (b_Pforest_node_without bins without joined TNode)
section
variable {P : Program} {f : Nat} {w : World}
theorem snan_ok (h : Has P f b_slices_isNaN_uint64) (a : Nat) : RetV P f [u64V a] w (.bool false) := by
  refine Ret.of_exec h (Nat.le_of_ble_eq_true rfl) fun c hc => ?_
  dsimp only [b_slices_isNaN_uint64, argEnv]
  repeat (first | refine xtm rfl rfl rfl ?_ | refine xgr rfl ?_ | refine xgs rfl rfl ?_ | refine xgu rfl rfl ?_ | refine xg0 rfl ?_ | refine xct rfl ?_ | refine xcf rfl ?_ | refine xbk ?_ | refine xsq ?_ | refine xbl ?_ | refine xex rfl ?_)
  refine xpu (pv_neqI (a := a) (b := a) (q := false) rfl rfl (by simp)) rfl ?_
  repeat (first | refine xtm rfl rfl rfl ?_ | refine xgr rfl ?_ | refine xgs rfl rfl ?_ | refine xgu rfl rfl ?_ | refine xg0 rfl ?_ | refine xct rfl ?_ | refine xcf rfl ?_ | refine xbk ?_ | refine xsq ?_ | refine xbl ?_ | refine xex rfl ?_)
  exact xre hc [_] ⟨rfl, trivial⟩ ⟨rfl, Upd.refl _ _⟩
/-- how many are below x; whether x stands behind them -/
def cntN (l : List Nat) (x : Nat) : Nat := (l.filter (fun y => decide (y < x))).length
def foundN (l : List Nat) (x : Nat) : Bool := l[cntN l x]? == some x
theorem cntN_le (l : List Nat) (x : Nat) : cntN l x ≤ l.length := List.length_filter_le _ _
theorem cntN_of {l : List Nat} {x i : Nat} (hi : i ≤ l.length) (h : l.take i = l.filter (fun y => decide (y < x))) : cntN l x = i := by
  rw [cntN, ← h]; simp; omega
theorem cntN_split {l : List Nat} (hs : l.Pairwise (· ≤ ·)) (x : Nat) : l.take (cntN l x) = l.filter (fun y => decide (y < x)) ∧ l.drop (cntN l x) = l.filter (fun y => decide (x ≤ y)) := by
  induction l with
  | nil => simp [cntN]
  | cons a l ih =>
    obtain ⟨ha, hl⟩ := List.pairwise_cons.1 hs
    by_cases h : a < x
    · have e : cntN (a :: l) x = cntN l x + 1 := by simp [cntN, h]
      obtain ⟨i1, i2⟩ := ih hl
      rw [e]
      simp only [List.take_succ_cons, List.drop_succ_cons, i1, i2]
      simp [h]
    · have hn : l.filter (fun y => decide (y < x)) = [] := List.filter_eq_nil_iff.2 fun y hy => by have := ha y hy; simp; omega
      have hall : l.filter (fun y => decide (x ≤ y)) = l := List.filter_eq_self.2 fun y hy => by have := ha y hy; simp; omega
      have e : cntN (a :: l) x = 0 := by simp [cntN, h, hn]
      rw [e]
      simp only [List.take_zero, List.drop_zero]
      simp [h, hn, hall, show x ≤ a by omega]
/-- slices.BinarySearch at numbers that rise -/
theorem bins_ok (A : ForG P) {v : Value} {l : List Nat} (x : Nat) (hS : SlC w v 1 l.length (l.map u64V)) (hs : l.Pairwise (· ≤ ·)) (hl : l.length < 2 ^ 40) :
    RetV P A.bins [v, u64V x] w (.tuple #[intV' (cntN l x), .bool (foundN l x)]) := by
  refine Ret.of_exec A.h_bins (Nat.le_of_ble_eq_true rfl) fun c hc => ?_
  dsimp only [b_slices_BinarySearch_uint64_uint64, argEnv]
  refine xtm rfl rfl rfl ?_
  refine xtm rfl rfl rfl ?_
  refine xtm rfl rfl rfl ?_
  refine xpu (hS.lenS rfl) rfl ?_
  repeat (first | refine xtm rfl rfl rfl ?_ | refine xgr rfl ?_ | refine xgs rfl rfl ?_ | refine xgu rfl rfl ?_ | refine xg0 rfl ?_ | refine xct rfl ?_ | refine xcf rfl ?_ | refine xbk ?_ | refine xsq ?_ | refine xbl ?_ | refine xex rfl ?_)
  have hcell : ∀ (W : World) (j y : Nat), Ext w W → l[j]? = some y → ∃ b o cap, v = .slice (some ⟨b, o, none⟩) l.length cap ∧ W.cell? ⟨b, o + j * 1, none⟩ = some (u64V y) := by
    intro W j y hu hy
    have hj := (List.getElem?_eq_some_iff.1 hy).1
    obtain ⟨b, o, cap, hv, hm, _⟩ := (hS.upd hu (by simp)).at (by omega)
    exact ⟨b, o, cap, hv, by rw [Nat.mul_one]; exact hm j _ (by rw [List.getElem?_map, hy]; rfl)⟩
  refine exec_inner_join (S := Nat) (fun i W => i ≤ l.length ∧ (∀ j v, j < i → l[j]? = some v → v < x) ∧ (∀ j v, i ≤ j → l[j]? = some v → ¬ v < x) ∧ Ext w W)
    (fun i => [(0, v), (1, u64V x), (6, intV' l.length), (7, intV' i)]) ?_ ?_
  · refine xlo (S := Nat × Nat) (fun s W => s.1 ≤ s.2 ∧ s.2 ≤ l.length ∧ (∀ j v, j < s.1 → l[j]? = some v → v < x) ∧ (∀ j v, s.2 ≤ j → l[j]? = some v → ¬ v < x) ∧ Ext w W)
      (fun s => [(0, v), (1, u64V x), (6, intV' l.length), (7, intV' s.1), (8, intV' s.2)]) (fun s => s.2 - s.1) (0, l.length) ⟨Nat.zero_le _, Nat.le_refl _, fun j v h => by simp at h, fun j v h hj => by have := (List.getElem?_eq_some_iff.1 hj).1; simp at h; omega, Upd.refl _ _⟩ ⟨rfl, rfl, rfl, rfl, rfl, trivial⟩ ?_
    rintro ⟨i, j⟩ W ⟨i1, i2, i3, i4, iU⟩
    simp only at i1 i2 i3 i4
    repeat (first | refine xtm rfl rfl rfl ?_ | refine xgr rfl ?_ | refine xgs rfl rfl ?_ | refine xgu rfl rfl ?_ | refine xg0 rfl ?_ | refine xct rfl ?_ | refine xcf rfl ?_ | refine xbk ?_ | refine xsq ?_ | refine xbl ?_ | refine xex rfl ?_)
    by_cases hij : i < j
    · refine xpu (pv_lssI (a := i) (b := j) (q := true) rfl rfl (by simpa using hij)) rfl ?_
      repeat (first | refine xtm rfl rfl rfl ?_ | refine xgr rfl ?_ | refine xgs rfl rfl ?_ | refine xgu rfl rfl ?_ | refine xg0 rfl ?_ | refine xct rfl ?_ | refine xcf rfl ?_ | refine xbk ?_ | refine xsq ?_ | refine xbl ?_ | refine xex rfl ?_)
      refine xpu (pv_addI (a := i) (b := j) rfl rfl (by omega)) rfl ?_
      refine xpu (pv_toU (a := i + j) rfl (by omega)) rfl ?_
      refine xju (ok_shrU (a := i + j) (j := 1) rfl rfl (by omega)) rfl ?_
      refine xpu (pv_toI (a := (i + j) / 2 ^ 1) rfl (by omega)) rfl ?_
      generalize hh : (i + j) / 2 ^ 1 = h
      have h1 : i ≤ h ∧ h < j := by omega
      repeat (first | refine xtm rfl rfl rfl ?_ | refine xgr rfl ?_ | refine xgs rfl rfl ?_ | refine xgu rfl rfl ?_ | refine xg0 rfl ?_ | refine xct rfl ?_ | refine xcf rfl ?_ | refine xbk ?_ | refine xsq ?_ | refine xbl ?_ | refine xex rfl ?_)
      obtain ⟨y, hy⟩ : ∃ y, l[h]? = some y := ⟨_, List.getElem?_eq_getElem (by omega)⟩
      obtain ⟨b, o, cap, hv, hm⟩ := hcell W h y iU hy
      refine xju (ok_iaddr (N := 1) (b := b) (o := o) (len := l.length) (cap := cap) (by rw [← hv]; rfl) rfl h rfl (by omega)) rfl ?_
      refine exec_load1 (b := b) (o := o + h * 1) (v := u64V y) rfl rfl hm ?_
      repeat (first | refine xtm rfl rfl rfl ?_ | refine xgr rfl ?_ | refine xgs rfl rfl ?_ | refine xgu rfl rfl ?_ | refine xg0 rfl ?_ | refine xct rfl ?_ | refine xcf rfl ?_ | refine xbk ?_ | refine xsq ?_ | refine xbl ?_ | refine xex rfl ?_)
      refine xca rfl rfl (less_ok A.sf.h_nan A.sf.h_less y x) ?_
      rintro _ W1 ⟨rfl, hu1⟩
      refine exec_cond rfl (fun hq => ?_) (fun hq => ?_)
      · simp only [ltN, decide_eq_true_eq] at hq
        repeat (first | refine xtm rfl rfl rfl ?_ | refine xgr rfl ?_ | refine xgs rfl rfl ?_ | refine xgu rfl rfl ?_ | refine xg0 rfl ?_ | refine xct rfl ?_ | refine xcf rfl ?_ | refine xbk ?_ | refine xsq ?_ | refine xbl ?_ | refine xex rfl ?_)
        refine xpu (pv_addI (a := h) (b := 1) rfl rfl (by omega)) rfl ?_
        repeat (first | refine xtm rfl rfl rfl ?_ | refine xgr rfl ?_ | refine xgs rfl rfl ?_ | refine xgu rfl rfl ?_ | refine xg0 rfl ?_ | refine xct rfl ?_ | refine xcf rfl ?_ | refine xbk ?_ | refine xsq ?_ | refine xbl ?_ | refine xex rfl ?_)
        refine xag (h + 1, j) ⟨by show h + 1 ≤ j; omega, i2, fun k z hk hz => ?_, i4, iU.trans hu1⟩ (by show j - (h + 1) < j - i; omega) ⟨rfl, rfl, rfl, rfl, rfl, trivial⟩
        have := sorted_get hs (show k ≤ h by have : k < h + 1 := hk; omega) hz hy
        omega
      · simp only [ltN, decide_eq_false_iff_not] at hq
        repeat (first | refine xtm rfl rfl rfl ?_ | refine xgr rfl ?_ | refine xgs rfl rfl ?_ | refine xgu rfl rfl ?_ | refine xg0 rfl ?_ | refine xct rfl ?_ | refine xcf rfl ?_ | refine xbk ?_ | refine xsq ?_ | refine xbl ?_ | refine xex rfl ?_)
        refine xag (i, h) ⟨h1.1, by show h ≤ l.length; omega, i3, fun k z hk hz => ?_, iU.trans hu1⟩ (by show h - i < j - i; omega) ⟨rfl, rfl, rfl, rfl, rfl, trivial⟩
        have := sorted_get hs (show h ≤ k from hk) hy hz
        omega
    · refine xpu (pv_lssI (a := i) (b := j) (q := false) rfl rfl (by simpa using hij)) rfl ?_
      repeat (first | refine xtm rfl rfl rfl ?_ | refine xgr rfl ?_ | refine xgs rfl rfl ?_ | refine xgu rfl rfl ?_ | refine xg0 rfl ?_ | refine xct rfl ?_ | refine xcf rfl ?_ | refine xbk ?_ | refine xsq ?_ | refine xbl ?_ | refine xex rfl ?_)
      have : i = j := by omega
      subst this
      exact exec_meet i ⟨i2, i3, i4, iU⟩ ⟨rfl, rfl, rfl, rfl, trivial⟩
  rintro i W ⟨i1, i3, i4, iU⟩
  obtain ⟨c1, c2⟩ := count_at i1 i3 i4
  have hci := cntN_of i1 c1
  have hfo : foundN l x = (l[i]? == some x) := by rw [foundN, hci]
  rw [hci] at hc
  repeat (first | refine xtm rfl rfl rfl ?_ | refine xgr rfl ?_ | refine xgs rfl rfl ?_ | refine xgu rfl rfl ?_ | refine xg0 rfl ?_ | refine xct rfl ?_ | refine xcf rfl ?_ | refine xbk ?_ | refine xsq ?_ | refine xbl ?_ | refine xex rfl ?_)
  by_cases hin : i < l.length
  · refine xpu (pv_lssI (a := i) (b := l.length) (q := true) rfl rfl (by simpa using hin)) rfl ?_
    repeat (first | refine xtm rfl rfl rfl ?_ | refine xgr rfl ?_ | refine xgs rfl rfl ?_ | refine xgu rfl rfl ?_ | refine xg0 rfl ?_ | refine xct rfl ?_ | refine xcf rfl ?_ | refine xbk ?_ | refine xsq ?_ | refine xbl ?_ | refine xex rfl ?_)
    obtain ⟨y, hy⟩ : ∃ y, l[i]? = some y := ⟨_, List.getElem?_eq_getElem hin⟩
    obtain ⟨b, o, cap, hv, hm⟩ := hcell W i y iU hy
    refine xju (ok_iaddr (N := 1) (b := b) (o := o) (len := l.length) (cap := cap) (by rw [← hv]; rfl) rfl i rfl hin) rfl ?_
    refine xgr rfl ?_
    refine exec_load1 (b := b) (o := o + i * 1) (v := u64V y) rfl rfl hm ?_
    repeat (first | refine xtm rfl rfl rfl ?_ | refine xgr rfl ?_ | refine xgs rfl rfl ?_ | refine xgu rfl rfl ?_ | refine xg0 rfl ?_ | refine xct rfl ?_ | refine xcf rfl ?_ | refine xbk ?_ | refine xsq ?_ | refine xbl ?_ | refine xex rfl ?_)
    by_cases hyx : y = x
    · refine xpu (pv_eqlI (a := y) (b := x) (q := true) rfl rfl (by simpa using hyx)) rfl ?_
      repeat (first | refine xtm rfl rfl rfl ?_ | refine xgr rfl ?_ | refine xgs rfl rfl ?_ | refine xgu rfl rfl ?_ | refine xg0 rfl ?_ | refine xct rfl ?_ | refine xcf rfl ?_ | refine xbk ?_ | refine xsq ?_ | refine xbl ?_ | refine xex rfl ?_)
      refine xre hc [_, _] ⟨rfl, rfl, trivial⟩ ⟨?_, iU⟩
      rw [hfo, hy, hyx]; simp [single]
    · refine xpu (pv_eqlI (a := y) (b := x) (q := false) rfl rfl (by simpa using hyx)) rfl ?_
      repeat (first | refine xtm rfl rfl rfl ?_ | refine xgr rfl ?_ | refine xgs rfl rfl ?_ | refine xgu rfl rfl ?_ | refine xg0 rfl ?_ | refine xct rfl ?_ | refine xcf rfl ?_ | refine xbk ?_ | refine xsq ?_ | refine xbl ?_ | refine xex rfl ?_)
      refine xju (ok_iaddr (N := 1) (b := b) (o := o) (len := l.length) (cap := cap) (by rw [← hv]; rfl) rfl i rfl hin) rfl ?_
      refine xgr rfl ?_
      refine exec_load1 (b := b) (o := o + i * 1) (v := u64V y) rfl rfl hm ?_
      refine xgr rfl ?_
      refine xca rfl rfl (snan_ok A.h_snan y) ?_
      rintro _ W1 ⟨rfl, hu1⟩
      repeat (first | refine xtm rfl rfl rfl ?_ | refine xgr rfl ?_ | refine xgs rfl rfl ?_ | refine xgu rfl rfl ?_ | refine xg0 rfl ?_ | refine xct rfl ?_ | refine xcf rfl ?_ | refine xbk ?_ | refine xsq ?_ | refine xbl ?_ | refine xex rfl ?_)
      refine xre hc [_, _] ⟨rfl, rfl, trivial⟩ ⟨?_, iU.trans hu1⟩
      rw [hfo, hy]; simp [single, hyx]
  · refine xpu (pv_lssI (a := i) (b := l.length) (q := false) rfl rfl (by simpa using hin)) rfl ?_
    repeat (first | refine xtm rfl rfl rfl ?_ | refine xgr rfl ?_ | refine xgs rfl rfl ?_ | refine xgu rfl rfl ?_ | refine xg0 rfl ?_ | refine xct rfl ?_ | refine xcf rfl ?_ | refine xbk ?_ | refine xsq ?_ | refine xbl ?_ | refine xex rfl ?_)
    refine xre hc [_, _] ⟨rfl, rfl, trivial⟩ ⟨?_, iU⟩
    rw [hfo, List.getElem?_eq_none (by omega)]; simp [single]
/-- a part of a slice -/
def subV (v : Value) (N l h : Nat) : Value := match v with
  | .slice (some ⟨b, o, none⟩) _ cap => .slice (some (if cap = l then ⟨b, o, none⟩ else ⟨b, o + l * N, none⟩)) (h - l) (cap - l)
  | v => v
theorem ok_slSd {N len : Nat} {e : Env} {x : Operand} {v : Value} {cs : List Value} (lo hi : Option Operand) (l h : Nat) (hx : e.ev x = some v) (hs : SlC w v N len cs)
    (hlo : match lo with | none => l = 0 | some y => ∃ K, e.ev y = some (.int K (l : Int))) (hhi : match hi with | none => h = len | some y => ∃ K, e.ev y = some (.int K (h : Int)))
    (h1 : l ≤ h) (h2 : h ≤ len) : OpOK P (.slS N x lo hi) e w (Just (subV v N l h) w) := by
  rcases hs with ⟨rfl | ⟨b, o, s, cap, rfl⟩, rfl, rfl⟩ | ⟨b, o, cap, rfl, hm, hl, hc⟩
  · have hh : h = 0 := by omega
    subst hh
    have hl0 : l = 0 := by omega
    subst hl0
    exact ok_slS_nil hx (by cases lo <;> simp_all) (by cases hi <;> simp_all)
  · have hh : h = 0 := by omega
    subst hh
    have hl0 : l = 0 := by omega
    subst hl0
    exact ok_slS_odd hx (by cases lo <;> simp_all) (by cases hi <;> simp_all)
  · exact ok_slS l h hx hlo hhi h1 (by omega)
theorem subV_sl {N len l h : Nat} {v : Value} {cs : List Value} (hs : SlC w v N len cs) (h1 : l ≤ h) (h2 : h ≤ len) : SlC w (subV v N l h) N (h - l) ((cs.take (h * N)).drop (l * N)) := by
  rcases hs with ⟨rfl | ⟨b, o, s, cap, rfl⟩, rfl, rfl⟩ | ⟨b, o, cap, rfl, hm, hl, hc⟩
  · have hh : h = 0 := by omega
    subst hh
    have hl0 : l = 0 := by omega
    subst hl0
    exact .inl ⟨.inl rfl, rfl, by simp⟩
  · have hh : h = 0 := by omega
    subst hh
    have hl0 : l = 0 := by omega
    subst hl0
    exact .inl ⟨.inr ⟨_, _, _, _, rfl⟩, rfl, by simp⟩
  · have hN : h * N ≤ len * N := Nat.mul_le_mul_right _ h2
    simp only [subV]
    split
    · have e1 : (cs.take (h * N)).drop (l * N) = [] := List.drop_eq_nil_of_le (by
        have : h = l := by omega
        subst this
        simp; omega)
      rw [e1]
      exact .inr ⟨b, o, _, rfl, fun i v hi => by simp at hi, by rw [show h - l = 0 by omega]; simp, by omega⟩
    · refine .inr ⟨b, o + l * N, _, rfl, hm.at _ _, ?_, by omega⟩
      simp only [List.length_drop, List.length_take, hl]
      rw [Nat.min_eq_left hN, Nat.sub_mul]
/-- a tree without some of its leaves -/
theorem without_ok (A : ForG P) : ∀ (t : Tr Hash) (w : World) (v sv : Value) (l : List Nat), Tabs A.toShaF w → TrAt w v t → SlC w sv 1 l.length (l.map u64V) → l.Pairwise (· ≤ ·) → l.length < 2 ^ 40 →
    Ret P A.without [v, sv] w fun r w' => OTr w' r (withoutT parH t l) ∧ Ext w w' := by
  intro t
  induction t with
  | leaf h =>
    intro w v sv l hT ht hS hs hl
    refine Ret.of_exec A.h_without (Nat.le_of_ble_eq_true rfl) fun c hc => ?_
    dsimp only [b_Pforest_node_without, argEnv]
    refine xtm rfl rfl rfl ?_
    refine xtm rfl rfl rfl ?_
    refine xpu (hS.lenS rfl) rfl ?_
    by_cases hl0 : l.length = 0
    · refine xpu (pv_eqlI (a := l.length) (b := 0) (q := true) rfl rfl (by simpa using hl0)) rfl ?_
      repeat (first | refine xtm rfl rfl rfl ?_ | refine xgr rfl ?_ | refine xgs rfl rfl ?_ | refine xgu rfl rfl ?_ | refine xg0 rfl ?_ | refine xct rfl ?_ | refine xcf rfl ?_ | refine xbk ?_ | refine xsq ?_ | refine xbl ?_ | refine xex rfl ?_)
      have : l = [] := List.length_eq_zero_iff.1 hl0
      subst this
      exact xre hc [_] ⟨rfl, trivial⟩ ⟨by rw [withoutT_nil]; exact ht, Upd.refl _ _⟩
    refine xpu (pv_eqlI (a := l.length) (b := 0) (q := false) rfl rfl (by simpa using hl0)) rfl ?_
    obtain ⟨b, rfl, hB⟩ := ht
    repeat (first | refine xtm rfl rfl rfl ?_ | refine xgr rfl ?_ | refine xgs rfl rfl ?_ | refine xgu rfl rfl ?_ | refine xg0 rfl ?_ | refine xct rfl ?_ | refine xcf rfl ?_ | refine xbk ?_ | refine xsq ?_ | refine xbl ?_ | refine xex rfl ?_)
    refine exec_load1 (b := b) (o := 0 + 32) rfl rfl (node_cell0 hB).2.1 ?_
    refine xju (ok_eq_nilnil A.h_TNode rfl rfl) rfl ?_
    repeat (first | refine xtm rfl rfl rfl ?_ | refine xgr rfl ?_ | refine xgs rfl rfl ?_ | refine xgu rfl rfl ?_ | refine xg0 rfl ?_ | refine xct rfl ?_ | refine xcf rfl ?_ | refine xbk ?_ | refine xsq ?_ | refine xbl ?_ | refine xex rfl ?_)
    refine xre hc [_] ⟨rfl, trivial⟩ ⟨?_, Upd.refl _ _⟩
    rw [withoutT, if_neg (by intro h; subst h; exact hl0 rfl)]
    rfl
  | pair h a cc m iha ihc =>
    intro w v sv l hT ht hS hs hl
    refine Ret.of_exec A.h_without (Nat.le_of_ble_eq_true rfl) fun c hc => ?_
    dsimp only [b_Pforest_node_without, argEnv]
    refine xtm rfl rfl rfl ?_
    refine xtm rfl rfl rfl ?_
    refine xpu (hS.lenS rfl) rfl ?_
    by_cases hl0 : l.length = 0
    · refine xpu (pv_eqlI (a := l.length) (b := 0) (q := true) rfl rfl (by simpa using hl0)) rfl ?_
      repeat (first | refine xtm rfl rfl rfl ?_ | refine xgr rfl ?_ | refine xgs rfl rfl ?_ | refine xgu rfl rfl ?_ | refine xg0 rfl ?_ | refine xct rfl ?_ | refine xcf rfl ?_ | refine xbk ?_ | refine xsq ?_ | refine xbl ?_ | refine xex rfl ?_)
      have : l = [] := List.length_eq_zero_iff.1 hl0
      subst this
      exact xre hc [_] ⟨rfl, trivial⟩ ⟨by rw [withoutT_nil]; exact ht, Upd.refl _ _⟩
    refine xpu (pv_eqlI (a := l.length) (b := 0) (q := false) rfl rfl (by simpa using hl0)) rfl ?_
    obtain ⟨b, vl, vr, rfl, hB, hm, hl1, hr1⟩ := ht
    obtain ⟨bl, _, _, _, rfl, hBl⟩ := TrAt.node hl1
    repeat (first | refine xtm rfl rfl rfl ?_ | refine xgr rfl ?_ | refine xgs rfl rfl ?_ | refine xgu rfl rfl ?_ | refine xg0 rfl ?_ | refine xct rfl ?_ | refine xcf rfl ?_ | refine xbk ?_ | refine xsq ?_ | refine xbl ?_ | refine xex rfl ?_)
    refine exec_load1 (b := b) (o := 0 + 32) rfl rfl (node_cell0 hB).2.1 ?_
    refine xju (ok_eq_ptrnil A.h_TNode rfl rfl) rfl ?_
    repeat (first | refine xtm rfl rfl rfl ?_ | refine xgr rfl ?_ | refine xgs rfl rfl ?_ | refine xgu rfl rfl ?_ | refine xg0 rfl ?_ | refine xct rfl ?_ | refine xcf rfl ?_ | refine xbk ?_ | refine xsq ?_ | refine xbl ?_ | refine xex rfl ?_)
    refine exec_load1 (b := b) (o := 0 + 34) rfl rfl (node_cell0 hB).2.2.2 ?_
    refine xca rfl rfl (bins_ok A m hS hs hl) ?_
    rintro _ w1 ⟨rfl, hu1⟩
    obtain ⟨ht1, ht2⟩ := cntN_split hs m
    have hk := cntN_le l m
    generalize cntN l m = k at *
    repeat (first | refine xtm rfl rfl rfl ?_ | refine xgr rfl ?_ | refine xgs rfl rfl ?_ | refine xgu rfl rfl ?_ | refine xg0 rfl ?_ | refine xct rfl ?_ | refine xcf rfl ?_ | refine xbk ?_ | refine xsq ?_ | refine xbl ?_ | refine xex rfl ?_)
    have hB1 := hB.upd hu1
    have hS1 := hS.upd hu1 (by simp)
    refine xen [(0, ptrV b), (1, sv), (5, intV' k)] ⟨rfl, rfl, rfl, trivial⟩ ?_
    refine exec_dw [] rfl rfl rfl ?_
    repeat (first | refine dau rfl (fun _ => rfl) ?_ | refine dga rfl (fun _ => rfl) (fun _ => rfl) ?_ | refine dgs (fun _ => rfl) ?_)
    refine dw_keep (ptrV bl) (fun vs W hu _ => ok_load1 (b := b) (o := 0 + 32) rfl (node_cell0 (hB1.upd hu)).2.1) ?_
    repeat (first | refine dau rfl (fun _ => rfl) ?_ | refine dga rfl (fun _ => rfl) (fun _ => rfl) ?_ | refine dgs (fun _ => rfl) ?_)
    refine dw_rel [] (fun W _ u => SlC W u 1 (l.take k).length ((l.take k).map u64V)) rfl (fun W W' xs u _ hu h => h.upd hu (by simp)) ?_ ?_
    · intro vs W hu _
      refine (ok_slSc (N := 1) (len := l.length) (lo := none) (hi := some (.tmp 30)) 0 k rfl (hS1.upd hu (by simp)) rfl ⟨.i64, rfl⟩ (Nat.zero_le _) hk).mono ?_
      rintro u W' ⟨rfl, hs', _⟩
      refine ⟨Upd.refl _ _, ?_⟩
      have e1 : (l.take k).length = k - 0 := by simp; omega
      have e2 : (((l.map u64V).take (k * 1)).drop (0 * 1)) = (l.take k).map u64V := by simp [List.map_take]
      rw [e1, ← e2]; exact hs'
    refine dw_rel [] (fun W _ u => OTr W u (withoutT parH a (l.take k))) rfl (fun W W' xs u _ hu h => h.ext hu) ?_ ?_
    · intro vs W hu hd
      obtain ⟨h6, _⟩ := hd
      have hW := hu1.trans hu
      refine (ok_call rfl (iha W (ptrV bl) (vs 6) (l.take k) (hT.upd hW) (TrAt.ext hl1 hW) h6 (hs.sublist (List.take_sublist _ _)) (by have := List.length_take_le k l; omega))).mono ?_
      rintro u W' ⟨h1, h2⟩
      exact ⟨h2, h1⟩
    repeat (first | refine dau rfl (fun _ => rfl) ?_ | refine dga rfl (fun _ => rfl) (fun _ => rfl) ?_ | refine dgs (fun _ => rfl) ?_)
    refine dw_keep vr (fun vs W hu _ => ok_load1 (b := b) (o := 0 + 33) rfl (node_cell0 (hB1.upd hu)).2.2.1) ?_
    repeat (first | refine dau rfl (fun _ => rfl) ?_ | refine dga rfl (fun _ => rfl) (fun _ => rfl) ?_ | refine dgs (fun _ => rfl) ?_)
    refine dw_rel [] (fun W _ u => SlC W u 1 (l.drop k).length ((l.drop k).map u64V)) rfl (fun W W' xs u _ hu h => h.upd hu (by simp)) ?_ ?_
    · intro vs W hu _
      refine (ok_slSc (N := 1) (len := l.length) (lo := some (.tmp 38)) (hi := none) k l.length rfl (hS1.upd hu (by simp)) ⟨.i64, rfl⟩ rfl hk (Nat.le_refl _)).mono ?_
      rintro u W' ⟨rfl, hs', _⟩
      refine ⟨Upd.refl _ _, ?_⟩
      have e1 : (l.drop k).length = l.length - k := by simp
      have e2 : (((l.map u64V).take (l.length * 1)).drop (k * 1)) = (l.drop k).map u64V := by rw [Nat.mul_one, Nat.mul_one, List.take_of_length_le (by simp), List.map_drop]
      rw [e1, ← e2]; exact hs'
    refine dw_rel [] (fun W _ u => OTr W u (withoutT parH cc (l.drop k))) rfl (fun W W' xs u _ hu h => h.ext hu) ?_ ?_
    · intro vs W hu hd
      obtain ⟨h14, _⟩ := hd
      have hW := hu1.trans hu
      refine (ok_call rfl (ihc W vr (vs 14) (l.drop k) (hT.upd hW) (TrAt.ext hr1 hW) h14 (hs.sublist (List.drop_sublist _ _)) (by simp; omega))).mono ?_
      rintro u W' ⟨h1, h2⟩
      exact ⟨h2, h1⟩
    repeat (first | refine dau rfl (fun _ => rfl) ?_ | refine dga rfl (fun _ => rfl) (fun _ => rfl) ?_ | refine dgs (fun _ => rfl) ?_)
    refine dw_keep (u64V m) (fun vs W hu _ => ok_load1 (b := b) (o := 0 + 34) rfl (node_cell0 (hB1.upd hu)).2.2.2) ?_
    refine dw_end fun vs W hu hf => ?_
    obtain ⟨h15, _, h7, _, _⟩ := hf
    refine xca rfl rfl (joined_ok A.toForF (hT.upd (hu1.trans hu)) m hm h7 h15) ?_
    rintro r w3 ⟨hr, hu3⟩
    repeat (first | refine xtm rfl rfl rfl ?_ | refine xgr rfl ?_ | refine xgs rfl rfl ?_ | refine xgu rfl rfl ?_ | refine xg0 rfl ?_ | refine xct rfl ?_ | refine xcf rfl ?_ | refine xbk ?_ | refine xsq ?_ | refine xbl ?_ | refine xex rfl ?_)
    refine xre hc [_] ⟨rfl, trivial⟩ ⟨?_, (hu1.trans hu).trans hu3⟩
    rw [withoutT, if_neg (by intro h; subst h; exact hl0 rfl), ← ht1, ← ht2]
    exact hr
end
end Go.Sp

namespace Go.Sp
def cellsT : List Value → List (TT Hash) → List Value
  | v :: vs, t :: ts => v :: u64V t.2.1 :: intV' t.2.2 :: cellsT vs ts
  | _, _ => []
structure TreesR (w : World) (vs : List Value) (ts : List (TT Hash)) : Prop where
  len : vs.length = ts.length
  at' : ∀ (i : Nat) (v : Value) (t : TT Hash), vs[i]? = some v → ts[i]? = some t → OTr w v t.1
def TreesAt (w : World) (sv : Value) (ts : List (TT Hash)) : Prop := ∃ vs, TreesR w vs ts ∧ SlC w sv 3 ts.length (cellsT vs ts)
def TreesOwn (w : World) (sv : Value) (ts : List (TT Hash)) : Prop := ∃ vs, TreesR w vs ts ∧ OwnC w sv 3 ts.length (cellsT vs ts)
theorem TreesOwn.sl {w : World} {sv : Value} {ts : List (TT Hash)} (h : TreesOwn w sv ts) : TreesAt w sv ts := let ⟨vs, h1, h2⟩ := h; ⟨vs, h1, h2.sl⟩
theorem TreesR.upd {l : List Nat} {w w' : World} {vs : List Value} {ts : List (TT Hash)} (h : TreesR w vs ts) (hu : Upd l w w') (hl : NoNode w l) : TreesR w' vs ts := ⟨h.len, fun i v t h1 h2 => (h.at' i v t h1 h2).upd hu hl⟩
theorem TreesOwn.ext {w w' : World} {sv : Value} {ts : List (TT Hash)} (h : TreesOwn w sv ts) (hu : Ext w w') : TreesOwn w' sv ts := let ⟨vs, h1, h2⟩ := h; ⟨vs, h1.upd hu (NoNode.nil _), h2.upd hu (by simp)⟩
theorem cellsT_len : ∀ (vs : List Value) (ts : List (TT Hash)), vs.length = ts.length → (cellsT vs ts).length = ts.length * 3 := by
  intro vs
  induction vs with
  | nil => intro ts h; cases ts with
    | nil => rfl
    | cons t ts => simp at h
  | cons v vs ih => intro ts h; cases ts with
    | nil => simp at h
    | cons t ts => simp only [cellsT, List.length_cons, ih ts (by simpa using h)]; omega
theorem cellsT_get : ∀ (vs : List Value) (ts : List (TT Hash)) (i : Nat) (v : Value) (t : TT Hash), vs[i]? = some v → ts[i]? = some t → (cellsT vs ts)[i * 3]? = some v ∧ (cellsT vs ts)[i * 3 + 1]? = some (u64V t.2.1) ∧ (cellsT vs ts)[i * 3 + 2]? = some (intV' t.2.2) := by
  intro vs
  induction vs with
  | nil => intro ts i v t h; simp at h
  | cons v0 vs ih =>
    intro ts i v t h1 h2
    cases ts with
    | nil => simp at h2
    | cons t0 ts =>
      cases i with
      | zero => simp at h1 h2; subst h1; subst h2; simp [cellsT]
      | succ i =>
        have := ih ts i v t (by simpa using h1) (by simpa using h2)
        simp only [cellsT, show (i + 1) * 3 = i * 3 + 1 + 1 + 1 by omega, List.getElem?_cons_succ, show i * 3 + 1 + 1 + 1 + 1 = (i * 3 + 1) + 1 + 1 + 1 by omega, show i * 3 + 1 + 1 + 1 + 2 = (i * 3 + 2) + 1 + 1 + 1 by omega]
        exact this
theorem cellsT_take : ∀ (vs : List Value) (ts : List (TT Hash)) (k : Nat), vs.length = ts.length → (cellsT vs ts).take (k * 3) = cellsT (vs.take k) (ts.take k) := by
  intro vs
  induction vs with
  | nil => intro ts k h; simp [cellsT]
  | cons v vs ih =>
    intro ts k h
    cases ts with
    | nil => simp at h
    | cons t ts =>
      cases k with
      | zero => simp [cellsT]
      | succ k => simp only [cellsT, show (k + 1) * 3 = k * 3 + 1 + 1 + 1 by omega, List.take_succ_cons, ih ts k (by simpa using h)]
theorem cellsT_set : ∀ (vs : List Value) (ts : List (TT Hash)) (i : Nat) (v : Value), vs.length = ts.length → i < ts.length → (cellsT vs ts).set (i * 3) v = cellsT (vs.set i v) ts := by
  intro vs
  induction vs with
  | nil => intro ts i v h hi; simp at h; omega
  | cons v0 vs ih =>
    intro ts i v h hi
    cases ts with
    | nil => simp at h
    | cons t ts =>
      cases i with
      | zero => simp [cellsT]
      | succ i =>
        simp only [cellsT, show (i + 1) * 3 = i * 3 + 1 + 1 + 1 by omega, List.set_cons_succ]
        rw [ih ts i v (by simpa using h) (by simpa using hi)]
theorem cellsT_append : ∀ (vs us : List Value) (ts ss : List (TT Hash)), vs.length = ts.length → cellsT (vs ++ us) (ts ++ ss) = cellsT vs ts ++ cellsT us ss := by
  intro vs
  induction vs with
  | nil => intro us ts ss h; cases ts with
    | nil => rfl
    | cons t ts => simp at h
  | cons v vs ih => intro us ts ss h; cases ts with
    | nil => simp at h
    | cons t ts => simp only [List.cons_append, cellsT, ih us ts ss (by simpa using h)]
theorem cellsT_ok (vs : List Value) (ts : List (TT Hash)) (hv : ∀ v ∈ vs, cellValue v = true) : (cellsT vs ts).all cellValue = true := by
  induction vs generalizing ts with
  | nil => rfl
  | cons v vs ih =>
    cases ts with
    | nil => rfl
    | cons t ts =>
      simp only [cellsT, List.all_cons, Bool.and_eq_true]
      exact ⟨hv v List.mem_cons_self, rfl, rfl, ih ts fun u hu => hv u (List.mem_cons_of_mem _ hu)⟩
/-- a part of a sorted list -/
theorem part_sorted {l : List Nat} {f s k1 k2 : Nat} (h1 : l.take k1 = l.filter (fun y => decide (y < f))) (h1' : l.drop k1 = l.filter (fun y => decide (f ≤ y))) (h2 : l.take k2 = l.filter (fun y => decide (y < f + s))) (hk1 : k1 ≤ l.length) (hk2 : k2 ≤ l.length) :
    k1 ≤ k2 ∧ (l.take k2).drop k1 = l.filter (fun y => decide (f ≤ y ∧ y < f + s)) := by
  have e0 : l = l.filter (fun y => decide (y < f)) ++ l.filter (fun y => decide (f ≤ y)) := by rw [← h1, ← h1', List.take_append_drop]
  have e1 : k1 = (l.filter (fun y => decide (y < f))).length := by rw [← h1]; simp; omega
  have e2 : l.filter (fun y => decide (y < f + s)) = l.filter (fun y => decide (y < f)) ++ l.filter (fun y => decide (f ≤ y ∧ y < f + s)) := by
    conv => lhs; rw [e0]
    rw [List.filter_append, List.filter_filter, List.filter_filter]
    congr 1
    · refine List.filter_congr fun y _ => ?_
      rw [Bool.eq_iff_iff]; simp; omega
    · refine List.filter_congr fun y _ => ?_
      rw [Bool.eq_iff_iff]; simp; omega
  have e3 : k2 = (l.filter (fun y => decide (y < f + s))).length := by rw [← h2]; simp; omega
  refine ⟨?_, ?_⟩
  · rw [e1, e3, e2, List.length_append]; omega
  · rw [h2, e2, e1, List.drop_left]
/-- the functions of forest, on -/
structure ForH (P : Program) extends ForG P where
  size : Nat
  cloneT : Nat
  deleted : Nat
  TTree : Nat
  TSl : Nat
  TSe : Nat
  TCl : Nat
  TDel : Nat
  h_size : Has P size (b_forest_tree_size TTree)
  h_cloneT : Has P cloneT (b_slices_Clone_forest_tree_forest_tree TSl TCl)
  h_TSl : P.underlying TSl = some (.slice TSe)
  h_deleted : Has P deleted (b_forest_deleted cloneT bins size without TDel)
section
variable {P : Program} {f : Nat} {w : World}
theorem treeSize_ok (A : ForH P) (v : Value) (t : TT Hash) (ht : t.2.2 < 64) : RetV P A.size [.agg #[v, u64V t.2.1, intV' t.2.2]] w (u64V (2 ^ t.2.2)) := by
  refine Ret.of_exec A.h_size (Nat.le_of_ble_eq_true rfl) fun c hc => ?_
  dsimp only [b_forest_tree_size, argEnv]
  refine exec_box rfl rfl ?_
  intro b w1 hb hs hu hB
  have hB' : Blk w1 b [v, u64V t.2.1, intV' t.2.2] := by simpa [Value.cells] using hB
  repeat (first | refine xtm rfl rfl rfl ?_ | refine xgr rfl ?_ | refine xgs rfl rfl ?_ | refine xgu rfl rfl ?_ | refine xg0 rfl ?_ | refine xct rfl ?_ | refine xcf rfl ?_ | refine xbk ?_ | refine xsq ?_ | refine xbl ?_ | refine xex rfl ?_)
  refine exec_load1 (b := b) (o := 0 + 2) rfl rfl (hB'.cell rfl) ?_
  refine xju (ok_shlU (a := 1) (j := t.2.2) rfl rfl) rfl ?_
  have : 2 ^ t.2.2 < 2 ^ 64 := Nat.pow_lt_pow_right (by omega) ht
  rw [Nat.one_mul, Nat.mod_eq_of_lt this]
  repeat (first | refine xtm rfl rfl rfl ?_ | refine xgr rfl ?_ | refine xgs rfl rfl ?_ | refine xgu rfl rfl ?_ | refine xg0 rfl ?_ | refine xct rfl ?_ | refine xcf rfl ?_ | refine xbk ?_ | refine xsq ?_ | refine xbl ?_ | refine xex rfl ?_)
  exact xre hc [_] ⟨rfl, trivial⟩ ⟨rfl, hu⟩
theorem otr_cell {v : Value} {t : Option (Tr Hash)} (h : OTr w v t) : cellValue v = true := by
  cases t with
  | none => rw [show v = .pointer none from h]; rfl
  | some t => obtain ⟨b, _, _, _, rfl, _⟩ := TrAt.node h; rfl
theorem TreesR.cells {vs : List Value} {ts : List (TT Hash)} (h : TreesR w vs ts) : (cellsT vs ts).all cellValue = true := by
  refine cellsT_ok vs ts fun v hv => ?_
  obtain ⟨i, hi⟩ := List.getElem?_of_mem hv
  have hlt := (List.getElem?_eq_some_iff.1 hi).1
  exact otr_cell (h.at' i v _ hi (List.getElem?_eq_getElem (by rw [← h.len]; exact hlt)))
theorem cloneT_ok (A : ForH P) {sv : Value} {ts : List (TT Hash)} (h : TreesAt w sv ts) (hl : ts.length < 2 ^ 30) : Ret P A.cloneT [sv] w fun v w' => TreesOwn w' v ts ∧ Ext w w' ∧ (∀ b ∈ blkOf v, w.heap.size ≤ b) ∧ (sv = .slice none 0 0 → v = .slice none 0 0) := by
  obtain ⟨vs, hR, hS⟩ := h
  refine Ret.of_exec A.h_cloneT (Nat.le_of_ble_eq_true rfl) fun c hc => ?_
  dsimp only [b_slices_Clone_forest_tree_forest_tree, argEnv]
  repeat (first | refine xtm rfl rfl rfl ?_ | refine xgr rfl ?_ | refine xgs rfl rfl ?_ | refine xgu rfl rfl ?_ | refine xg0 rfl ?_ | refine xct rfl ?_ | refine xcf rfl ?_ | refine xbk ?_ | refine xsq ?_ | refine xbl ?_ | refine xex rfl ?_)
  have hS0 := hS
  rcases hS.nil_or with ⟨rfl, h0, h1⟩ | ⟨ad, ll, cap, rfl⟩
  · refine xju (ok_eq_nilslice A.h_TSl rfl rfl) rfl ?_
    repeat (first | refine xtm rfl rfl rfl ?_ | refine xgr rfl ?_ | refine xgs rfl rfl ?_ | refine xgu rfl rfl ?_ | refine xg0 rfl ?_ | refine xct rfl ?_ | refine xcf rfl ?_ | refine xbk ?_ | refine xsq ?_ | refine xbl ?_ | refine xex rfl ?_)
    refine xre hc [_] ⟨rfl, trivial⟩ ⟨⟨vs, hR, .inl ⟨rfl, h0, h1⟩⟩, Upd.refl _ _, by simp [single, blkOf], fun _ => rfl⟩
  · refine xju (ok_eq_nilslice A.h_TSl rfl rfl) rfl ?_
    repeat (first | refine xtm rfl rfl rfl ?_ | refine xgr rfl ?_ | refine xgs rfl rfl ?_ | refine xgu rfl rfl ?_ | refine xg0 rfl ?_ | refine xct rfl ?_ | refine xcf rfl ?_ | refine xbk ?_ | refine xsq ?_ | refine xbl ?_ | refine xex rfl ?_)
    refine exec_litL (N := 3) (cs := []) rfl rfl rfl rfl ?_
    intro b1 w1 hb1 hs1 hu1 hO1
    repeat (first | refine xtm rfl rfl rfl ?_ | refine xgr rfl ?_ | refine xgs rfl rfl ?_ | refine xgu rfl rfl ?_ | refine xg0 rfl ?_ | refine xct rfl ?_ | refine xcf rfl ?_ | refine xbk ?_ | refine xsq ?_ | refine xbl ?_ | refine xex rfl ?_)
    refine exec_ok (ok_append (N := 3) rfl rfl hO1 (hS0.upd hu1 (by simp)) rfl (by decide) (by omega) hR.cells) rfl ?_
    rintro v w2 ⟨hO2, hu2, hf2, _⟩
    repeat (first | refine xtm rfl rfl rfl ?_ | refine xgr rfl ?_ | refine xgs rfl rfl ?_ | refine xgu rfl rfl ?_ | refine xg0 rfl ?_ | refine xct rfl ?_ | refine xcf rfl ?_ | refine xbk ?_ | refine xsq ?_ | refine xbl ?_ | refine xex rfl ?_)
    refine xre hc [_] ⟨rfl, trivial⟩ ⟨⟨vs, ?_, by simpa [single] using hO2⟩, ?_, ?_, fun h => by cases h⟩
    · refine (hR.upd hu1 (NoNode.nil _)).upd hu2 ?_
      intro b' hb' cs hcs
      have : b' = b1 := by simpa [blkOf] using hb'
      subst this
      rcases hO1 with ⟨h, _⟩ | ⟨b'', cap', rest', hv, hBl, _, hll, _⟩
      · cases h
      · cases hv
        obtain ⟨T1, hh1⟩ := hcs
        obtain ⟨T2, hh2⟩ := hBl
        rw [hh1] at hh2
        have : cs = [] ++ rest' := by
          have := congrArg (fun o => match o with | some (Obj.cells c _ _) => c.toList | _ => []) hh2
          simpa using this
        rintro ⟨hn, _⟩; rw [this, hll] at hn; simp at hn
    · exact hu1.trans hu2 (fun b hb => .inr (by have : b = b1 := by simpa [blkOf] using hb
                                                omega))
    · intro b' hb'
      rcases hf2 b' hb' with h | h
      · have : b' = b1 := by simpa [blkOf] using h
        omega
      · have := hu1.size; omega
end
end Go.Sp

namespace Go.Sp
def partOf' (l : List Nat) (t : TT Hash) : List Nat := l.filter (fun y => decide (t.2.1 ≤ y ∧ y < t.2.1 + 2 ^ t.2.2))
def delT (l : List Nat) (t : TT Hash) : TT Hash := (withoutO parH t.1 (partOf' l t), t.2.1, t.2.2)
theorem splice_cellsT {vs : List Value} {ts : List (TT Hash)} {rest : List Value} (i : Nat) (v : Value) (hl : vs.length = ts.length) (hi : i < ts.length) :
    splice (cellsT vs ts ++ rest) (0 + i * 3 + 0) [v] = cellsT (vs.set i v) ts ++ rest := by
  have h1 := cellsT_len vs ts hl
  rw [splice_one _ _ _ (by simp [h1]; omega), Nat.zero_add, Nat.add_zero, List.set_append_left _ _ (by omega), cellsT_set vs ts i v hl hi]
section
variable {P : Program} {f : Nat} {w : World}
theorem withoutO_ok (A : ForG P) (o : Option (Tr Hash)) (w : World) (v sv : Value) (l : List Nat) (hT : Tabs A.toShaF w) (ho : OTr w v o) (hS : SlC w sv 1 l.length (l.map u64V)) (hs : l.Pairwise (· ≤ ·)) (hl : l.length < 2 ^ 40) (hn : o = none → l = []) :
    Ret P A.without [v, sv] w fun r w' => OTr w' r (withoutO parH o l) ∧ Ext w w' := by
  cases o with
  | some t => exact without_ok A t w v sv l hT ho hS hs hl
  | none =>
    have hv : v = .pointer none := ho
    have := hn rfl
    subst hv; subst this
    refine Ret.of_exec A.h_without (Nat.le_of_ble_eq_true rfl) fun c hc => ?_
    dsimp only [b_Pforest_node_without, argEnv]
    refine xtm rfl rfl rfl ?_
    refine xtm rfl rfl rfl ?_
    refine xpu (hS.lenS rfl) rfl ?_
    refine xpu (pv_eqlI (a := ([] : List Nat).length) (b := 0) (q := true) rfl rfl rfl) rfl ?_
    repeat (first | refine xtm rfl rfl rfl ?_ | refine xgr rfl ?_ | refine xgs rfl rfl ?_ | refine xgu rfl rfl ?_ | refine xg0 rfl ?_ | refine xct rfl ?_ | refine xcf rfl ?_ | refine xbk ?_ | refine xsq ?_ | refine xbl ?_ | refine xex rfl ?_)
    exact xre hc [_] ⟨rfl, trivial⟩ ⟨rfl, Upd.refl _ _⟩
set_option maxHeartbeats 800000 in
theorem deleted_ok (A : ForH P) (hT : Tabs A.toShaF w) {sv lv : Value} {ts : List (TT Hash)} {l : List Nat} (h : TreesAt w sv ts) (hl : ts.length < 2 ^ 30) (hS : SlC w lv 1 l.length (l.map u64V)) (hs : l.Pairwise (· ≤ ·)) (hll : l.length < 2 ^ 40)
    (hn : ∀ t ∈ ts, t.1 = none → partOf' l t = []) (hb : ∀ t ∈ ts, t.2.1 + 2 ^ t.2.2 < 2 ^ 63 ∧ t.2.2 < 63) :
    Ret P A.deleted [sv, lv] w fun v w' => TreesOwn w' v (ts.map (delT l)) ∧ Ext w w' ∧ (∀ b ∈ blkOf v, w.heap.size ≤ b) ∧ (sv = .slice none 0 0 → v = .slice none 0 0) := by
  refine Ret.of_exec A.h_deleted (Nat.le_of_ble_eq_true rfl) fun c hc => ?_
  dsimp only [b_forest_deleted, argEnv]
  repeat (first | refine xtm rfl rfl rfl ?_ | refine xgr rfl ?_ | refine xgs rfl rfl ?_ | refine xgu rfl rfl ?_ | refine xg0 rfl ?_ | refine xct rfl ?_ | refine xcf rfl ?_ | refine xbk ?_ | refine xsq ?_ | refine xbl ?_ | refine xex rfl ?_)
  refine xca rfl rfl (cloneT_ok A h hl) ?_
  rintro v w1 ⟨⟨vs, hR, hO⟩, hu1, hf1, hnil1⟩
  refine xtm rfl rfl rfl ?_
  refine xtm rfl rfl rfl ?_
  refine xpu (hO.sl.lenS rfl) rfl ?_
  repeat (first | refine xtm rfl rfl rfl ?_ | refine xgr rfl ?_ | refine xgs rfl rfl ?_ | refine xgu rfl rfl ?_ | refine xg0 rfl ?_ | refine xct rfl ?_ | refine xcf rfl ?_ | refine xbk ?_ | refine xsq ?_ | refine xbl ?_ | refine xex rfl ?_)
  have hlen := hR.len
  refine xlo (S := Nat × List Value) (fun s W => s.1 ≤ ts.length ∧ Ext w W ∧ s.2.length = ts.length ∧ OwnC W v 3 ts.length (cellsT s.2 ts) ∧ (∀ j u t, j < s.1 → s.2[j]? = some u → ts[j]? = some t → OTr W u (delT l t).1) ∧ (∀ j u t, s.1 ≤ j → s.2[j]? = some u → ts[j]? = some t → OTr W u t.1))
    (fun s => [(1, lv), (5, v), (14, v), (15, intV' ts.length), (16, intV' s.1)]) (fun s => ts.length - s.1) (0, vs)
    ⟨Nat.zero_le _, hu1, hlen, hO, fun j u t hj => by simp at hj, fun j u t _ h1 h2 => hR.at' j u t h1 h2⟩ ⟨rfl, rfl, rfl, rfl, rfl, trivial⟩ ?_
  rintro ⟨i, us⟩ W ⟨i1, iU, iL, iO, iD, iT⟩
  simp only at i1 iL iO iD iT
  repeat (first | refine xtm rfl rfl rfl ?_ | refine xgr rfl ?_ | refine xgs rfl rfl ?_ | refine xgu rfl rfl ?_ | refine xg0 rfl ?_ | refine xct rfl ?_ | refine xcf rfl ?_ | refine xbk ?_ | refine xsq ?_ | refine xbl ?_ | refine xex rfl ?_)
  by_cases hi : i < ts.length
  · refine xpu (pv_lssI (a := i) (b := ts.length) (q := true) rfl rfl (by simpa using hi)) rfl ?_
    repeat (first | refine xtm rfl rfl rfl ?_ | refine xgr rfl ?_ | refine xgs rfl rfl ?_ | refine xgu rfl rfl ?_ | refine xg0 rfl ?_ | refine xct rfl ?_ | refine xcf rfl ?_ | refine xbk ?_ | refine xsq ?_ | refine xbl ?_ | refine xex rfl ?_)
    obtain ⟨u, hu⟩ : ∃ u, us[i]? = some u := ⟨_, List.getElem?_eq_getElem (by omega)⟩
    obtain ⟨t, ht⟩ : ∃ t, ts[i]? = some t := ⟨_, List.getElem?_eq_getElem hi⟩
    obtain ⟨hb1, hb2⟩ := hb t (List.mem_of_getElem? ht)
    have hOt := iT i u t (Nat.le_refl _) hu ht
    have hcell := otr_cell hOt
    obtain ⟨g0, g1, g2⟩ := cellsT_get us ts i u t hu ht
    rcases iO with ⟨_, h0, _⟩ | ⟨bo, cap, rest, rfl, hBo, ho1, ho2, ho3⟩
    · omega
    have hbof := hf1 bo (by simp [blkOf])
    refine xju (ok_iaddr (N := 3) (b := bo) (o := 0) (len := ts.length) (cap := cap) rfl rfl i rfl hi) rfl ?_
    have hM3 : Mem W bo (0 + i * 3) [u, u64V t.2.1, intV' t.2.2] := hBo.memPre.sub (i * 3) (us := [u, u64V t.2.1, intV' t.2.2]) (fun k x hk => by
      match k, hk with
      | 0, hk => cases hk; exact g0
      | 1, hk => cases hk; exact g1
      | 2, hk => cases hk; exact g2)
    refine exec_loadN (b := bo) (o := 0 + i * 3) (vs := [u, u64V t.2.1, intV' t.2.2]) rfl rfl hM3 rfl ?_
    refine exec_new rfl ?_
    intro b7 w2 hb7 hs2 hu2 hB7
    refine xtm rfl rfl rfl ?_
    refine exec_store (b := b7) (o := 0) (v := .agg #[u, u64V t.2.1, intV' t.2.2]) rfl rfl hB7 rfl (by simp [rle]) (by simp [Value.cells, hcell]; exact ⟨rfl, rfl⟩) ?_
    intro w3 hu3 _ hB7'
    have hB7 : Blk w3 b7 [u, u64V t.2.1, intV' t.2.2] := hB7'
    clear hB7'
    have zW := iU.size
    have hWw3 : Ext W w3 := hu2.trans hu3 (fun b hb => .inr (by simp at hb; omega))
    have hww3 : Ext w w3 := iU.trans hWw3
    repeat (first | refine xtm rfl rfl rfl ?_ | refine xgr rfl ?_ | refine xgs rfl rfl ?_ | refine xgu rfl rfl ?_ | refine xg0 rfl ?_ | refine xct rfl ?_ | refine xcf rfl ?_ | refine xbk ?_ | refine xsq ?_ | refine xbl ?_ | refine xex rfl ?_)
    refine exec_load1 (b := b7) (o := 0 + 1) (v := u64V t.2.1) rfl rfl (hB7.cell rfl) ?_
    refine xca rfl rfl (bins_ok A.toForG t.2.1 (hS.upd hww3 (by simp)) hs hll) ?_
    rintro _ w4 ⟨rfl, hu4⟩
    obtain ⟨sp1, sp1'⟩ := cntN_split hs t.2.1
    obtain ⟨sp2, sp2'⟩ := cntN_split hs (t.2.1 + 2 ^ t.2.2)
    have hk1 := cntN_le l t.2.1
    have hk2 := cntN_le l (t.2.1 + 2 ^ t.2.2)
    obtain ⟨hk12, hpart⟩ := part_sorted sp1 sp1' sp2 hk1 hk2
    repeat (first | refine xtm rfl rfl rfl ?_ | refine xgr rfl ?_ | refine xgs rfl rfl ?_ | refine xgu rfl rfl ?_ | refine xg0 rfl ?_ | refine xct rfl ?_ | refine xcf rfl ?_ | refine xbk ?_ | refine xsq ?_ | refine xbl ?_ | refine xex rfl ?_)
    refine xen [(1, lv), (5, .slice (some ⟨bo, 0, none⟩) ts.length cap), (6, intV' i), (7, ptrV b7), (8, intV' (cntN l t.2.1)), (14, .slice (some ⟨bo, 0, none⟩) ts.length cap), (15, intV' ts.length), (16, intV' i)] ⟨rfl, rfl, rfl, rfl, rfl, rfl, rfl, rfl, trivial⟩ ?_
    have hB74 := hB7.upd hu4
    have hpw : 2 ^ t.2.2 < 2 ^ 63 := by omega
    have hww4 := hww3.trans hu4
    refine exec_dwr rfl rfl rfl ?_
    repeat (first | refine wtm rfl rfl rfl ?_ | refine wgt rfl rfl rfl rfl ?_ | refine wgs rfl rfl ?_)
    refine ws_keep (u64V t.2.1) rfl (fun X hx => ok_load1 (b := b7) (o := 0 + 1) rfl ((hB74.upd hx).cell rfl)) ?_
    refine ws_keep (.agg #[u, u64V t.2.1, intV' t.2.2]) rfl (fun X hx => ok_loadN (b := b7) (o := 0) (vs := [u, u64V t.2.1, intV' t.2.2]) rfl (hB74.upd hx).memAll rfl) ?_
    refine ws_ext (u64V (2 ^ t.2.2)) rfl (fun X hx => ok_call rfl (treeSize_ok A u t (by omega))) ?_
    refine ws_val rfl (pv_addU (a := t.2.1) (b := 2 ^ t.2.2) rfl rfl (by omega)) ?_
    refine ws_ext _ rfl (fun X hx => ok_call rfl (bins_ok A.toForG (t.2.1 + 2 ^ t.2.2) ((hS.upd hww4 (by simp)).upd hx (by simp)) hs hll)) ?_
    repeat (first | refine wtm rfl rfl rfl ?_ | refine wgt rfl rfl rfl rfl ?_ | refine wgs rfl rfl ?_)
    refine ws_fin fun w5 hu5 => ?_
    repeat (first | refine xtm rfl rfl rfl ?_ | refine xgr rfl ?_ | refine xgs rfl rfl ?_ | refine xgu rfl rfl ?_ | refine xg0 rfl ?_ | refine xct rfl ?_ | refine xcf rfl ?_ | refine xbk ?_ | refine xsq ?_ | refine xbl ?_ | refine xex rfl ?_)
    refine xen [(1, lv), (5, .slice (some ⟨bo, 0, none⟩) ts.length cap), (6, intV' i), (7, ptrV b7), (8, intV' (cntN l t.2.1)), (10, intV' (cntN l (t.2.1 + 2 ^ t.2.2))), (14, .slice (some ⟨bo, 0, none⟩) ts.length cap), (15, intV' ts.length), (16, intV' i)] ⟨rfl, rfl, rfl, rfl, rfl, rfl, rfl, rfl, rfl, trivial⟩ ?_
    have hS5 := (hS.upd hww4 (by simp)).upd hu5 (by simp)
    have hsub := subV_sl hS5 hk12 hk2
    have hsub' : SlC w5 (subV lv 1 (cntN l t.2.1) (cntN l (t.2.1 + 2 ^ t.2.2))) 1 (partOf' l t).length ((partOf' l t).map u64V) := by
      have e1 : ((l.map u64V).take (cntN l (t.2.1 + 2 ^ t.2.2) * 1)).drop (cntN l t.2.1 * 1) = (partOf' l t).map u64V := by
        rw [Nat.mul_one, Nat.mul_one, ← List.map_take, ← List.map_drop, hpart]; rfl
      have e2 : cntN l (t.2.1 + 2 ^ t.2.2) - cntN l t.2.1 = (partOf' l t).length := by
        rw [partOf', ← hpart]; simp; omega
      rw [e1, e2] at hsub; exact hsub
    have hww5 := hww4.trans hu5
    have hWw5 : Ext W w5 := (hWw3.trans hu4).trans hu5
    refine exec_dw [] rfl rfl rfl ?_
    repeat (first | refine dau rfl (fun _ => rfl) ?_ | refine dga rfl (fun _ => rfl) (fun _ => rfl) ?_ | refine dgs (fun _ => rfl) ?_)
    refine dw_keep u (fun vs' X hx _ => ok_load1 (b := b7) (o := 0 + 0) rfl (((hB74.upd hu5).upd hx).cell rfl)) ?_
    repeat (first | refine dau rfl (fun _ => rfl) ?_ | refine dga rfl (fun _ => rfl) (fun _ => rfl) ?_ | refine dgs (fun _ => rfl) ?_)
    refine dw_keep _ (fun vs' X hx _ => ok_slSd (N := 1) (len := l.length) (some (.tmp 43)) (some (.tmp 44)) (cntN l t.2.1) (cntN l (t.2.1 + 2 ^ t.2.2)) rfl (hS5.upd hx (by simp)) ⟨.i64, rfl⟩ ⟨.i64, rfl⟩ hk12 hk2) ?_
    refine dw_rel [] (fun X _ r => OTr X r (delT l t).1) rfl (fun X X' xs r _ hx h => h.ext hx) ?_ ?_
    · intro vs' X hx _
      refine (ok_call rfl (withoutO_ok A.toForG t.1 X u _ (partOf' l t) ((hT.upd hww5).upd hx) ((hOt.ext hWw5).ext hx) (hsub'.upd hx (by simp)) (hs.sublist List.filter_sublist) (Nat.lt_of_le_of_lt (List.length_filter_le _ _) hll) (fun hnn => hn t (List.mem_of_getElem? ht) hnn))).mono ?_
      rintro r X' ⟨h1, h2⟩
      exact ⟨h2, h1⟩
    refine dw_end fun vs' w6 hu6 hf => ?_
    obtain ⟨hr8, _⟩ := hf
    have hWw6 := hWw5.trans hu6
    generalize hr : vs' 8 = r at *
    have hBo6 := hBo.upd hWw6
    refine xju (ok_iaddr (N := 3) (b := bo) (o := 0) (len := ts.length) (cap := cap) rfl rfl i rfl hi) rfl ?_
    repeat (first | refine xtm rfl rfl rfl ?_ | refine xgr rfl ?_ | refine xgs rfl rfl ?_ | refine xgu rfl rfl ?_ | refine xg0 rfl ?_ | refine xct rfl ?_ | refine xcf rfl ?_ | refine xbk ?_ | refine xsq ?_ | refine xbl ?_ | refine xex rfl ?_)
    have hrc := otr_cell hr8
    have hrcells : r.cells.toList = [r] := by
      cases hd : (delT l t).1 with
      | none => rw [hd] at hr8; rw [show r = .pointer none from hr8]; rfl
      | some t' => rw [hd] at hr8; obtain ⟨b', _, _, _, rfl, _⟩ := TrAt.node hr8; rfl
    refine exec_store (b := bo) (o := 0 + i * 3 + 0) (v := r) rfl (by show some (vs' 8) = some r; rw [hr]) hBo6 (by rw [← Array.length_toList, hrcells]; rfl) (by simp [ho1]; omega) (by rw [hrcells]; simp [hrc]) ?_
    intro w7 hu7 _ hBo7
    rw [hrcells, splice_cellsT i r iL hi] at hBo7
    repeat (first | refine xtm rfl rfl rfl ?_ | refine xgr rfl ?_ | refine xgs rfl rfl ?_ | refine xgu rfl rfl ?_ | refine xg0 rfl ?_ | refine xct rfl ?_ | refine xcf rfl ?_ | refine xbk ?_ | refine xsq ?_ | refine xbl ?_ | refine xex rfl ?_)
    refine xpu (pv_addI (a := i) (b := 1) rfl rfl (by omega)) rfl ?_
    repeat (first | refine xtm rfl rfl rfl ?_ | refine xgr rfl ?_ | refine xgs rfl rfl ?_ | refine xgu rfl rfl ?_ | refine xg0 rfl ?_ | refine xct rfl ?_ | refine xcf rfl ?_ | refine xbk ?_ | refine xsq ?_ | refine xbl ?_ | refine xex rfl ?_)
    have hno : NoNode w6 [bo] := by
      intro b' hb' cs hcs
      have : b' = bo := by simpa using hb'
      subst this
      obtain ⟨T1, hh1⟩ := hcs
      obtain ⟨T2, hh2⟩ := hBo6
      rw [hh1] at hh2
      have : cs = cellsT us ts ++ rest := by
        have := congrArg (fun o => match o with | some (Obj.cells c _ _) => c.toList | _ => []) hh2
        simpa using this
      rintro ⟨hn, _⟩; rw [this, ho2] at hn; omega
    refine xag (i + 1, us.set i r) ⟨by show i + 1 ≤ ts.length; omega, (iU.trans hWw6).trans hu7 (fun b hb => .inr (by simp at hb; omega)), by simp [iL], .inr ⟨bo, cap, rest, rfl, hBo7, ?_, ?_, ho3⟩, ?_, ?_⟩ (by show ts.length - (i + 1) < ts.length - i; omega) ⟨rfl, rfl, rfl, rfl, rfl, trivial⟩
    · exact cellsT_len _ _ (by simp [iL])
    · rw [List.length_append, cellsT_len _ _ (by simp [iL]), ← ho2, List.length_append, cellsT_len _ _ iL]
    · intro j u' t' hj h1 h2
      by_cases hji : j = i
      · subst hji
        rw [ht] at h2; cases h2
        rw [List.getElem?_set_self (by omega)] at h1
        cases h1
        exact hr8.upd hu7 hno
      · rw [List.getElem?_set_ne (Ne.symm hji)] at h1
        exact ((iD j u' t' (by have : j < i + 1 := hj; omega) h1 h2).ext hWw6).upd hu7 hno
    · intro j u' t' hj h1 h2
      have : i + 1 ≤ j := hj
      rw [List.getElem?_set_ne (by omega)] at h1
      exact ((iT j u' t' (by omega) h1 h2).ext hWw6).upd hu7 hno
  · refine xpu (pv_lssI (a := i) (b := ts.length) (q := false) rfl rfl (by simpa using hi)) rfl ?_
    have : i = ts.length := by omega
    subst this
    repeat (first | refine xtm rfl rfl rfl ?_ | refine xgr rfl ?_ | refine xgs rfl rfl ?_ | refine xgu rfl rfl ?_ | refine xg0 rfl ?_ | refine xct rfl ?_ | refine xcf rfl ?_ | refine xbk ?_ | refine xsq ?_ | refine xbl ?_ | refine xex rfl ?_)
    refine xre hc [_] ⟨rfl, trivial⟩ ⟨⟨us, ⟨by simp [iL], ?_⟩, ?_⟩, iU, hf1, hnil1⟩
    · intro j u t h1 h2
      rw [List.getElem?_map] at h2
      cases htj : ts[j]? with
      | none => rw [htj] at h2; cases h2
      | some t' =>
        rw [htj] at h2; cases h2
        exact iD j u t' (List.getElem?_eq_some_iff.1 htj).1 h1 htj
    · have : cellsT us (ts.map (delT l)) = cellsT us ts := by
        have key : ∀ (us : List Value) (ts : List (TT Hash)), cellsT us (ts.map (delT l)) = cellsT us ts := by
          intro us
          induction us with
          | nil => intro ts; cases ts <;> rfl
          | cons u us ih => intro ts; cases ts with
            | nil => rfl
            | cons t ts => simp only [List.map_cons, cellsT, ih]; rfl
        exact key us ts
      rw [this, List.length_map]
      exact iO
end
end Go.Sp

namespace Go.Sp
theorem otr_ptr {w : World} {v : Value} {t : Option (Tr Hash)} (h : OTr w v t) : ∃ p, v = .pointer p := by
  cases t with
  | none => exact ⟨none, h⟩
  | some t => obtain ⟨b, _, _, _, rfl, _⟩ := TrAt.node h; exact ⟨_, rfl⟩
/-- the functions of forest, on -/
structure ForI (P : Program) extends ForH P where
  grown : Nat
  TGH : Nat
  TGN : Nat
  TGT : Nat
  h_grown : Has P grown (b_forest_grown joined TGH TGN TGT)
theorem growT_step {a : List (TT Hash)} {l t : TT Hash} (h : l.2.2 = t.2.2) : growT parH (l :: a) t = growT parH a (joinT parH l.1 t.1 t.2.1, l.2.1, t.2.2 + 1) := by rw [growT, if_pos h]
theorem growT_stop {a : List (TT Hash)} {l t : TT Hash} (h : ¬ l.2.2 = t.2.2) : growT parH (l :: a) t = t :: l :: a := by rw [growT, if_neg h]
theorem take_rev {α : Type} {ts : List α} {k : Nat} {t : α} (h : ts[k]? = some t) : (ts.take (k + 1)).reverse = t :: (ts.take k).reverse := by
  rw [List.take_add_one, h]; simp
theorem blk_inj {w : World} {b : Nat} {cs cs' : List Value} (h : Blk w b cs) (h' : Blk w b cs') : cs = cs' := by
  obtain ⟨T1, h1⟩ := h
  obtain ⟨T2, h2⟩ := h'
  rw [h1] at h2
  have := congrArg (fun o => match o with | some (Obj.cells c _ _) => c.toList | _ => []) h2
  simpa using this
theorem NoNode.of {w : World} {b : Nat} {cs : List Value} (h : Blk w b cs) (hl : cs.length ≠ 35) : NoNode w [b] := by
  intro b' hb' cs' hcs'
  have : b' = b := by simpa using hb'
  subst this
  rw [blk_inj hcs' h]; exact fun hn => hl hn.1
theorem OwnC.nonode {w : World} {v : Value} {len : Nat} {cs : List Value} (h : OwnC w v 3 len cs) : NoNode w (blkOf v) := by
  rcases h with ⟨rfl, _⟩ | ⟨b, cap, rest, rfl, hB, _, hl, _⟩
  · exact NoNode.nil w
  · exact NoNode.of hB (by rw [hl]; omega)
section
variable {P : Program} {f : Nat} {w : World}
set_option maxHeartbeats 800000 in
theorem grown_ok (A : ForI P) (hT : Tabs A.toShaF w) {sv : Value} {ts : List (TT Hash)} (hd : Hash) (num : Nat) (h : TreesOwn w sv ts) (hl : ts.length < 64) (hnum : num < 2 ^ 62) (hb : ∀ t ∈ ts, t.2.1 < 2 ^ 62 ∧ t.2.2 < 62) :
    Ret P A.grown [sv, hV hd, u64V num] w fun v w' => TreesOwn w' v (growT parH ts.reverse (some (.leaf hd), num, 0)).reverse ∧ Upd (blkOf sv) w w' ∧ ∀ b ∈ blkOf v, b ∈ blkOf sv ∨ w.heap.size ≤ b := by
  obtain ⟨vs, hR, hO⟩ := h
  have hlen := hR.len
  refine Ret.of_exec A.h_grown (Nat.le_of_ble_eq_true rfl) fun c hc => ?_
  dsimp only [b_forest_grown, argEnv]
  refine exec_box rfl rfl ?_
  intro b4 w1 hb4 hs1 hu1 hB4
  rw [hV_cells] at hB4
  repeat (first | refine xtm rfl rfl rfl ?_ | refine xgr rfl ?_ | refine xgs rfl rfl ?_ | refine xgu rfl rfl ?_ | refine xg0 rfl ?_ | refine xct rfl ?_ | refine xcf rfl ?_ | refine xbk ?_ | refine xsq ?_ | refine xbl ?_ | refine xex rfl ?_)
  refine exec_loadN (b := b4) (o := 0) (vs := hC hd) rfl rfl hB4.memAll (hC_length hd) ?_
  refine xju (ok_mkL (l := [(0, 32, hV hd)]) (cs := hC hd ++ [.pointer none, .pointer none, u64V 0]) rfl (leaf_fill hd)) rfl ?_
  refine exec_box rfl rfl ?_
  intro bn w2 hbn hs2 hu2 hBn
  have hBn' : Blk w2 bn (hC hd ++ [.pointer none, .pointer none, u64V 0]) := by simpa [Value.cells] using hBn
  repeat (first | refine xtm rfl rfl rfl ?_ | refine xgr rfl ?_ | refine xgs rfl rfl ?_ | refine xgu rfl rfl ?_ | refine xg0 rfl ?_ | refine xct rfl ?_ | refine xcf rfl ?_ | refine xbk ?_ | refine xsq ?_ | refine xbl ?_ | refine xex rfl ?_)
  refine xju (ok_mkL (l := [(0, 1, ptrV bn), (1, 1, u64V num)]) (cs := [ptrV bn, u64V num, intV' 0]) rfl rfl) rfl ?_
  refine exec_new_store (v := .agg #[ptrV bn, u64V num, intV' 0]) rfl rfl rfl rfl rfl rfl ?_
  intro b7 w3 hb7 hs3 hu3 hB7
  have hB7' : Blk w3 b7 [ptrV bn, u64V num, intV' 0] := hB7
  have hE3 : Ext w w3 := (hu1.trans hu2).trans hu3
  have hlf : OTr w3 (ptrV bn) (some (.leaf hd)) := ⟨bn, rfl, hBn'.upd hu3⟩
  repeat (first | refine xtm rfl rfl rfl ?_ | refine xgr rfl ?_ | refine xgs rfl rfl ?_ | refine xgu rfl rfl ?_ | refine xg0 rfl ?_ | refine xct rfl ?_ | refine xcf rfl ?_ | refine xbk ?_ | refine xsq ?_ | refine xbl ?_ | refine xex rfl ?_)
  refine exec_inner_join (S := Nat × TT Hash × Value × Value) (fun s W => s.1 ≤ ts.length ∧ growT parH ts.reverse (some (.leaf hd), num, 0) = s.2.1 :: (ts.take s.1).reverse ∧ Blk W b7 [s.2.2.1, u64V s.2.1.2.1, intV' s.2.1.2.2] ∧ OTr W s.2.2.1 s.2.1.1 ∧ OwnC W s.2.2.2 3 s.1 (cellsT (vs.take s.1) (ts.take s.1)) ∧ Ext w W ∧ blkOf s.2.2.2 = blkOf sv)
    (fun s => [(0, s.2.2.2), (7, ptrV b7)]) ?_ ?_
  · refine xlo (S := Nat × TT Hash × Value × Value) (fun s W => s.1 ≤ ts.length ∧ growT parH (ts.take s.1).reverse s.2.1 = growT parH ts.reverse (some (.leaf hd), num, 0) ∧ s.2.1.2.1 < 2 ^ 62 ∧ s.2.1.2.2 < 63 ∧ Blk W b7 [s.2.2.1, u64V s.2.1.2.1, intV' s.2.1.2.2] ∧ OTr W s.2.2.1 s.2.1.1 ∧ OwnC W s.2.2.2 3 s.1 (cellsT (vs.take s.1) (ts.take s.1)) ∧ Ext w W ∧ blkOf s.2.2.2 = blkOf sv)
      (fun s => [(0, s.2.2.2), (7, ptrV b7)]) (fun s => s.1) (ts.length, (some (.leaf hd), num, 0), ptrV bn, sv)
      ⟨Nat.le_refl _, by simp, hnum, by show 0 < 63; omega, hB7', hlf, ?_, hE3, rfl⟩ ⟨rfl, rfl, trivial⟩ ?_
    · show OwnC w3 sv 3 ts.length (cellsT (vs.take ts.length) (ts.take ts.length))
      rw [List.take_length, ← hlen, List.take_length, hlen]; exact hO.upd hE3 (by simp)
    rintro ⟨k, t, tv, v⟩ W ⟨k1, kE, kf, kh, kB, kO, kS, kU, kb⟩
    simp only at k1 kE kf kh kB kO kS kb
    have zW := kU.size
    obtain ⟨p7, rfl⟩ := otr_ptr kO
    by_cases hk0 : k = 0
    · subst hk0
      have hv0 : ∃ a c', v = .slice a 0 c' := by
        rcases kS with ⟨rfl, _⟩ | ⟨b, cap, rest, rfl, _⟩ <;> exact ⟨_, _, rfl⟩
      obtain ⟨a, c', rfl⟩ := hv0
      refine exec_dwr rfl rfl rfl ?_
      repeat (first | refine wtm rfl rfl rfl ?_ | refine wgt rfl rfl rfl rfl ?_ | refine wgs rfl rfl ?_)
      refine ws_val rfl (pv_gtrI (a := 0) (b := 0) (q := false) rfl rfl rfl) ?_
      repeat (first | refine wtm rfl rfl rfl ?_ | refine wgt rfl rfl rfl rfl ?_ | refine wgs rfl rfl ?_)
      refine ws_fin fun W1 hw1 => ?_
      repeat (first | refine xtm rfl rfl rfl ?_ | refine xgr rfl ?_ | refine xgs rfl rfl ?_ | refine xgu rfl rfl ?_ | refine xg0 rfl ?_ | refine xct rfl ?_ | refine xcf rfl ?_ | refine xbk ?_ | refine xsq ?_ | refine xbl ?_ | refine xex rfl ?_)
      refine exec_meet (0, t, .pointer p7, .slice a 0 c') ⟨Nat.zero_le _, ?_, kB.upd hw1, kO.ext hw1, kS.upd hw1 (by simp), kU.trans hw1, kb⟩ ⟨rfl, rfl, trivial⟩
      rw [← kE]; rfl
    obtain ⟨k, rfl⟩ : ∃ j, k = j + 1 := ⟨k - 1, by omega⟩
    obtain ⟨l, hl'⟩ : ∃ l, ts[k]? = some l := ⟨_, List.getElem?_eq_getElem (by omega)⟩
    obtain ⟨u, hu⟩ : ∃ u, vs[k]? = some u := ⟨_, List.getElem?_eq_getElem (by omega)⟩
    obtain ⟨hlf1, hlh⟩ := hb l (List.mem_of_getElem? hl')
    obtain ⟨g0, g1, g2⟩ := cellsT_get (vs.take (k + 1)) (ts.take (k + 1)) k u l (by rw [List.getElem?_take, if_pos (by omega)]; exact hu) (by rw [List.getElem?_take, if_pos (by omega)]; exact hl')
    have hOu := (hR.at' k u l hu hl').ext kU
    obtain ⟨pu, rfl⟩ := otr_ptr hOu
    rw [take_rev hl'] at kE
    have kS0 := kS
    rcases kS with ⟨_, h0, _⟩ | ⟨b, cap, rest, rfl, hBl, ho1, ho2, ho3⟩
    · omega
    have hM3 : Mem W b (0 + k * 3) [.pointer pu, u64V l.2.1, intV' l.2.2] := hBl.memPre.sub (k * 3) (us := [.pointer pu, u64V l.2.1, intV' l.2.2]) (fun j x hj => by
      match j, hj with
      | 0, hj => cases hj; exact g0
      | 1, hj => cases hj; exact g1
      | 2, hj => cases hj; exact g2)
    refine exec_dwr rfl rfl rfl ?_
    repeat (first | refine wtm rfl rfl rfl ?_ | refine wgt rfl rfl rfl rfl ?_ | refine wgs rfl rfl ?_)
    refine ws_val rfl (pv_gtrI (a := k + 1) (b := 0) (q := true) rfl rfl (by simp)) ?_
    repeat (first | refine wtm rfl rfl rfl ?_ | refine wgt rfl rfl rfl rfl ?_ | refine wgs rfl rfl ?_)
    refine ws_gval rfl rfl (pv_subI (a := k + 1) (b := 1) rfl rfl (by omega) (by omega)) ?_
    refine ws_gkeep _ rfl rfl (fun X hx => ok_iaddr (N := 3) (b := b) (o := 0) (len := k + 1) (cap := cap) rfl rfl k rfl (by omega)) ?_
    repeat (first | refine wtm rfl rfl rfl ?_ | refine wgt rfl rfl rfl rfl ?_ | refine wgs rfl rfl ?_)
    refine ws_gkeep (intV' l.2.2) rfl rfl (fun X hx => ok_load1 (b := b) (o := 0 + k * 3 + 2) rfl ((hM3.upd hx) 2 _ rfl)) ?_
    repeat (first | refine wtm rfl rfl rfl ?_ | refine wgt rfl rfl rfl rfl ?_ | refine wgs rfl rfl ?_)
    refine ws_gkeep (intV' t.2.2) rfl rfl (fun X hx => ok_load1 (b := b7) (o := 0 + 2) rfl ((kB.upd hx).cell rfl)) ?_
    refine ws_fin fun W1 hw1 => ?_
    repeat (first | refine xtm rfl rfl rfl ?_ | refine xgr rfl ?_ | refine xgs rfl rfl ?_ | refine xgu rfl rfl ?_ | refine xg0 rfl ?_ | refine xct rfl ?_ | refine xcf rfl ?_ | refine xbk ?_ | refine xsq ?_ | refine xbl ?_ | refine xex rfl ?_)
    by_cases hlt : l.2.2 = t.2.2
    · refine xpu (pv_eqlI (a := l.2.2) (b := t.2.2) (q := true) rfl rfl (by simpa using hlt)) rfl ?_
      repeat (first | refine xtm rfl rfl rfl ?_ | refine xgr rfl ?_ | refine xgs rfl rfl ?_ | refine xgu rfl rfl ?_ | refine xg0 rfl ?_ | refine xct rfl ?_ | refine xcf rfl ?_ | refine xbk ?_ | refine xsq ?_ | refine xbl ?_ | refine xex rfl ?_)
      refine xpu (pv_subI (a := k + 1) (b := 1) rfl rfl (by omega) (by omega)) rfl ?_
      refine xju (ok_iaddr (N := 3) (b := b) (o := 0) (len := k + 1) (cap := cap) rfl rfl k rfl (by omega)) rfl ?_
      refine exec_loadN (b := b) (o := 0 + k * 3) (vs := [.pointer pu, u64V l.2.1, intV' l.2.2]) rfl rfl (hM3.upd hw1) rfl ?_
      refine exec_new_store (v := .agg #[.pointer pu, u64V l.2.1, intV' l.2.2]) rfl rfl rfl rfl rfl rfl ?_
      intro b8 W2 hb8 hs8 hw2 hB8
      have hB8' : Blk W2 b8 [.pointer pu, u64V l.2.1, intV' l.2.2] := hB8
      repeat (first | refine xtm rfl rfl rfl ?_ | refine xgr rfl ?_ | refine xgs rfl rfl ?_ | refine xgu rfl rfl ?_ | refine xg0 rfl ?_ | refine xct rfl ?_ | refine xcf rfl ?_ | refine xbk ?_ | refine xsq ?_ | refine xbl ?_ | refine xex rfl ?_)
      refine xpu (pv_subI (a := k + 1) (b := 1) rfl rfl (by omega) (by omega)) rfl ?_
      refine xju (ok_slS (N := 3) (b := b) (o := 0) (len := k + 1) (cap := cap) (lo := none) (hi := some (.tmp 38)) 0 k rfl rfl ⟨.i64, rfl⟩ (by omega) (by omega)) rfl ?_
      rw [show (if cap = 0 then (⟨b, 0, none⟩ : Addr) else ⟨b, 0 + 0 * 3, none⟩) = ⟨b, 0, none⟩ from by split <;> rfl]
      repeat (first | refine xtm rfl rfl rfl ?_ | refine xgr rfl ?_ | refine xgs rfl rfl ?_ | refine xgu rfl rfl ?_ | refine xg0 rfl ?_ | refine xct rfl ?_ | refine xcf rfl ?_ | refine xbk ?_ | refine xsq ?_ | refine xbl ?_ | refine xex rfl ?_)
      have hW12 := hw1.trans hw2
      have kB2 := kB.upd hW12
      refine xen [(0, .slice (some ⟨b, 0, none⟩) k cap), (7, ptrV b7), (8, ptrV b8)] ⟨rfl, rfl, rfl, trivial⟩ ?_
      refine exec_dw [] rfl rfl rfl ?_
      repeat (first | refine dau rfl (fun _ => rfl) ?_ | refine dga rfl (fun _ => rfl) (fun _ => rfl) ?_ | refine dgs (fun _ => rfl) ?_)
      refine dw_keep (.pointer pu) (fun vs' X hx _ => ok_load1 (b := b8) (o := 0 + 0) rfl ((hB8'.upd hx).cell rfl)) ?_
      repeat (first | refine dau rfl (fun _ => rfl) ?_ | refine dga rfl (fun _ => rfl) (fun _ => rfl) ?_ | refine dgs (fun _ => rfl) ?_)
      refine dw_keep (.pointer p7) (fun vs' X hx _ => ok_load1 (b := b7) (o := 0 + 0) rfl ((kB2.upd hx).cell rfl)) ?_
      repeat (first | refine dau rfl (fun _ => rfl) ?_ | refine dga rfl (fun _ => rfl) (fun _ => rfl) ?_ | refine dgs (fun _ => rfl) ?_)
      refine dw_keep (u64V t.2.1) (fun vs' X hx _ => ok_load1 (b := b7) (o := 0 + 1) rfl ((kB2.upd hx).cell rfl)) ?_
      refine dw_rel [] (fun X _ r => OTr X r (joinT parH l.1 t.1 t.2.1)) rfl (fun X X' xs r _ hx h => h.ext hx) ?_ ?_
      · intro vs' X hx _
        refine (ok_call rfl (joined_ok A.toForF (hT.upd ((kU.trans hW12).trans hx)) t.2.1 kf (hOu.ext (hW12.trans hx)) (kO.ext (hW12.trans hx)))).mono ?_
        rintro r X' ⟨h1, h2⟩
        exact ⟨h2, h1⟩
      repeat (first | refine dau rfl (fun _ => rfl) ?_ | refine dga rfl (fun _ => rfl) (fun _ => rfl) ?_ | refine dgs (fun _ => rfl) ?_)
      refine dw_keep (u64V l.2.1) (fun vs' X hx _ => ok_load1 (b := b8) (o := 0 + 1) rfl ((hB8'.upd hx).cell rfl)) ?_
      repeat (first | refine dau rfl (fun _ => rfl) ?_ | refine dga rfl (fun _ => rfl) (fun _ => rfl) ?_ | refine dgs (fun _ => rfl) ?_)
      refine dw_keep (intV' t.2.2) (fun vs' X hx _ => ok_load1 (b := b7) (o := 0 + 2) rfl ((kB2.upd hx).cell rfl)) ?_
      refine dw_val (fun _ => pv_addI (a := t.2.2) (b := 1) rfl rfl (by omega)) ?_
      refine dw_end fun vs' W3 hw3 hf => ?_
      obtain ⟨hr6, _⟩ := hf
      obtain ⟨pr, hpr⟩ := otr_ptr hr6
      have hr6' : OTr W3 (.pointer pr) (joinT parH l.1 t.1 t.2.1) := by rw [← hpr]; exact hr6
      refine xen [(46, .pointer pr), (48, u64V l.2.1), (51, intV' (t.2.2 + 1)), (0, .slice (some ⟨b, 0, none⟩) k cap), (7, ptrV b7)] ⟨by show some (vs' 6) = _; rw [hpr], rfl, rfl, rfl, rfl, trivial⟩ ?_
      refine xju (ok_mkL (l := [(0, 1, .pointer pr), (1, 1, u64V l.2.1), (2, 1, intV' (t.2.2 + 1))]) (cs := [.pointer pr, u64V l.2.1, intV' (t.2.2 + 1)]) rfl rfl) rfl ?_
      have kB3 := kB2.upd hw3
      refine exec_store (b := b7) (o := 0) (v := .agg #[.pointer pr, u64V l.2.1, intV' (t.2.2 + 1)]) rfl rfl kB3 rfl (by simp) rfl ?_
      intro W4 hw4 _ hB7n
      have hB7n' : Blk W4 b7 [.pointer pr, u64V l.2.1, intV' (t.2.2 + 1)] := hB7n
      repeat (first | refine xtm rfl rfl rfl ?_ | refine xgr rfl ?_ | refine xgs rfl rfl ?_ | refine xgu rfl rfl ?_ | refine xg0 rfl ?_ | refine xct rfl ?_ | refine xcf rfl ?_ | refine xbk ?_ | refine xsq ?_ | refine xbl ?_ | refine xex rfl ?_)
      have hno : NoNode W3 [b7] := NoNode.of kB3 (by simp)
      have hU4 : Ext w W4 := ((kU.trans hW12).trans hw3).trans hw4 (fun b hb => .inr (by simp at hb; omega))
      refine xag (k, (joinT parH l.1 t.1 t.2.1, l.2.1, t.2.2 + 1), .pointer pr, .slice (some ⟨b, 0, none⟩) k cap) ⟨by show k ≤ ts.length; omega, ?_, hlf1, by show t.2.2 + 1 < 63; omega, hB7n', hr6'.upd hw4 hno, ?_, hU4, ?_⟩ (by show k < k + 1; omega) ⟨rfl, rfl, trivial⟩
      · rw [← kE, growT_step hlt]
      · have h1 := OwnC.take (v := sv) kS0 k (by omega)
        rw [cellsT_take _ _ k (by simp [hlen]), List.take_take, List.take_take, Nat.min_eq_left (by omega)] at h1
        have hbw : b < w.heap.size := hO.lt b (by rw [← kb]; simp [blkOf])
        exact ((h1.upd hW12 (by simp)).upd hw3 (by simp)).upd hw4 (by simp [blkOf]; omega)
      · rw [← kb]; rfl
    · refine xpu (pv_eqlI (a := l.2.2) (b := t.2.2) (q := false) rfl rfl (by simpa using hlt)) rfl ?_
      repeat (first | refine xtm rfl rfl rfl ?_ | refine xgr rfl ?_ | refine xgs rfl rfl ?_ | refine xgu rfl rfl ?_ | refine xg0 rfl ?_ | refine xct rfl ?_ | refine xcf rfl ?_ | refine xbk ?_ | refine xsq ?_ | refine xbl ?_ | refine xex rfl ?_)
      refine exec_meet (k + 1, t, .pointer p7, .slice (some ⟨b, 0, none⟩) (k + 1) cap) ⟨k1, ?_, kB.upd hw1, kO.ext hw1, kS0.upd hw1 (by simp), kU.trans hw1, kb⟩ ⟨rfl, rfl, trivial⟩
      rw [← kE, growT_stop hlt, take_rev hl']
  rintro ⟨k, t, tv, v⟩ W ⟨k1, kE, kB, kO, kS, kU, kb⟩
  simp only at k1 kE kB kO kS kb
  obtain ⟨p7, rfl⟩ := otr_ptr kO
  repeat (first | refine xtm rfl rfl rfl ?_ | refine xgr rfl ?_ | refine xgs rfl rfl ?_ | refine xgu rfl rfl ?_ | refine xg0 rfl ?_ | refine xct rfl ?_ | refine xcf rfl ?_ | refine xbk ?_ | refine xsq ?_ | refine xbl ?_ | refine xex rfl ?_)
  refine exec_loadN (b := b7) (o := 0) (vs := [.pointer p7, u64V t.2.1, intV' t.2.2]) rfl rfl kB.memAll rfl ?_
  refine exec_litL (N := 3) (cs := [.pointer p7, u64V t.2.1, intV' t.2.2]) rfl rfl rfl rfl ?_
  intro bl W1 hbl hsl hw1 hOl
  refine exec_ok (ok_append (N := 3) rfl rfl (kS.upd hw1 (by simp)) hOl.sl rfl (by decide) (by omega) rfl) rfl ?_
  rintro v2 W2 ⟨hO2, hw2, hf2, _⟩
  repeat (first | refine xtm rfl rfl rfl ?_ | refine xgr rfl ?_ | refine xgs rfl rfl ?_ | refine xgu rfl rfl ?_ | refine xg0 rfl ?_ | refine xct rfl ?_ | refine xcf rfl ?_ | refine xbk ?_ | refine xsq ?_ | refine xbl ?_ | refine xex rfl ?_)
  have zU := kU.size
  refine xre hc [_] ⟨rfl, trivial⟩ ⟨⟨vs.take k ++ [.pointer p7], ?_, ?_⟩, ?_, ?_⟩
  · rw [kE, List.reverse_cons, List.reverse_reverse]
    refine ⟨by simp [hlen], ?_⟩
    have hnn := (kS.upd hw1 (by simp)).nonode
    intro i v' t' h1 h2
    have hk' : (vs.take k).length = k := by simp; omega
    have hk2 : (ts.take k).length = k := by simp; omega
    rcases Nat.lt_or_ge i k with hik | hik
    · rw [List.getElem?_append_left (by omega), List.getElem?_take, if_pos hik] at h1 h2
      exact (((hR.at' i v' t' h1 h2).ext kU).ext hw1).upd hw2 hnn
    · rw [List.getElem?_append_right (by omega)] at h1 h2
      rw [hk'] at h1
      rw [hk2] at h2
      have : i - k = 0 := by
        have := (List.getElem?_eq_some_iff.1 h1).1
        simp at this; omega
      rw [this] at h1 h2
      cases h1; cases h2
      exact (kO.ext hw1).upd hw2 hnn
  · rw [kE, List.reverse_cons, List.reverse_reverse, cellsT_append _ _ _ _ (by simp [hlen])]
    have e1 : (ts.take k ++ [t]).length = k + 1 := by simp; omega
    rw [e1]
    exact hO2
  · exact ((kU.trans hw1).mono (m := blkOf sv) (by simp)).trans hw2 (fun b hb => .inl (by rw [← kb]; exact hb))
  · intro b hb
    rcases hf2 b hb with h | h
    · left; rw [← kb]; exact h
    · right; have := hw1.size; omega
end
end Go.Sp
