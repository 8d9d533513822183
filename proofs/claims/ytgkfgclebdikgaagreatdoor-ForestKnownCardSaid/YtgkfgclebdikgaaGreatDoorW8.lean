/- spinneylaw14.ForestKnown returns true for every input, and its arguments read afterwards as before: the card. No condition. This text: part 8 of 10. -/
import Derived.Test.YtgkfgclebdikgaaGreatDoorW7
set_option linter.unusedVariables false
set_option linter.unusedSimpArgs false
set_option linter.unusedSectionVars false
namespace Go.Sp
def b_spinneylaw14_ForestKnown (f0 f1 f2 f3 f4 f5 f6 f7 f8 f9 f10 f11 : Nat) (T0 T1 T2 T3 T4 : Nat) : Body := { n := 403,res := [.tmp 0],code := [yo 0 (.mov (.const (.bool false))),
 yo 58 (.mk (rle [(32,.int .u8 0)]) [(0,1,(.const (.int .u8 1)))]),yo 59 (.mk (rle [(32,.int .u8 0)]) [(0,1,(.const (.int .u8 2)))]),yo 60 (.mk (rle [(32,.int .u8 0)]) [(0,1,(.const (.int .u8 3)))]),
 yo 61 (.mk (rle [(32,.int .u8 0)]) [(0,1,(.const (.int .u8 4)))]),yo 62 (.mk (rle [(32,.int .u8 0)]) [(0,1,(.const (.int .u8 5)))]),yo 1 (.new T0 (rle [(32,.int .u8 0)])),yo 2 (.new T0 (rle [(32,.int .u8 0)])),
 yo 3 (.new T0 (rle [(32,.int .u8 0)])),yo 4 (.new T0 (rle [(32,.int .u8 0)])),yo 5 (.new T0 (rle [(32,.int .u8 0)])),ys 32 1 58,ys 32 2 59,ys 32 3 60,ys 32 4 61,ys 32 5 62,yo 63 (.call f0 #[]),ym 6 63,ym 65 6,
 yo 66 (.loadN 32 (yt 1)),yo 67 (.loadN 32 (yt 2)),yo 68 (.loadN 32 (yt 3)),yo 69 (.loadN 32 (yt 4)),yo 70 (.loadN 32 (yt 5)),
 yo 71 (.mkSlice T0 5 (rle [(160,.int .u8 0)]) [(0,32,(yt 66)),(32,32,(yt 67)),(64,32,(yt 68)),(96,32,(yt 69)),(128,32,(yt 70))]),yo 72 (.call f1 #[(yt 65),(.const (.slice none 0 0)),(yt 71)]),ym 64 72,
 yo 73 (.ext (yt 64) 0),yo 74 (.ext (yt 64) 1),yo 7 (.new T1 (rle [(1,.pointer none),(2,.int .i64 0),(1,.int .u64 0),(1,.slice none 0 0),(2,.map none)])),ys 7 7 73,ym 8 74,ym 76 6,yo 77 (.loadN 32 (yt 5)),
 yo 78 (.call f2 #[(yt 76),(yt 77)]),ym 75 78,yo 79 (.ext (yt 75) 0),yo 80 (.ext (yt 75) 1),ym 9 79,ym 10 80,ym 82 6,yo 83 (.loadN 32 (yt 3)),yo 84 (.call f2 #[(yt 82),(yt 83)]),ym 81 84,yo 85 (.ext (yt 81) 0),
 yo 86 (.ext (yt 81) 1),ym 11 85,ym 12 86,ym 88 6,yo 89 (.call f3 #[(yt 88),(.const (.int .u64 12))]),ym 87 89,yo 90 (.ext (yt 87) 0),yo 91 (.ext (yt 87) 1),yo 13 (.new T0 (rle [(32,.int .u8 0)])),ys 32 13 90,ym 14 91,
 ym 93 6,yo 94 (.loadN 32 (yt 1)),yo 95 (.mkSlice T0 1 (rle [(32,.int .u8 0)]) [(0,32,(yt 94))]),yo 96 (.call f1 #[(yt 93),(yt 95),(.const (.slice none 0 0))]),ym 92 96,yo 97 (.ext (yt 92) 0),yo 98 (.ext (yt 92) 1),
 yo 15 (.new T1 (rle [(1,.pointer none),(2,.int .i64 0),(1,.int .u64 0),(1,.slice none 0 0),(2,.map none)])),ys 7 15 97,ym 16 98,ym 100 6,yo 101 (.loadN 32 (yt 2)),yo 102 (.call f2 #[(yt 100),(yt 101)]),ym 99 102,
 yo 103 (.ext (yt 99) 0),yo 104 (.ext (yt 99) 1),ym 17 103,ym 18 104,ym 106 6,yo 107 (.loadN 32 (yt 3)),yo 108 (.call f2 #[(yt 106),(yt 107)]),ym 105 108,yo 109 (.ext (yt 105) 0),yo 110 (.ext (yt 105) 1),ym 19 109,
 ym 20 110,ym 112 6,yo 113 (.call f3 #[(yt 112),(.const (.int .u64 0))]),ym 111 113,yo 114 (.ext (yt 111) 0),yo 115 (.ext (yt 111) 1),yo 21 (.new T0 (rle [(32,.int .u8 0)])),ys 32 21 114,ym 22 115,ym 117 6,
 yo 118 (.call f3 #[(yt 117),(.const (.int .u64 1))]),ym 116 118,yo 119 (.ext (yt 116) 0),yo 120 (.ext (yt 116) 1),yo 23 (.new T0 (rle [(32,.int .u8 0)])),ys 32 23 119,ym 24 120,ym 122 6,
 yo 123 (.call f3 #[(yt 122),(.const (.int .u64 8))]),ym 121 123,yo 124 (.ext (yt 121) 0),yo 125 (.ext (yt 121) 1),yo 25 (.new T0 (rle [(32,.int .u8 0)])),ys 32 25 124,ym 26 125,.draw [yd [] 126 (.mov (yt 8)),
 yd [0] 127 (.ibin .neq (yt 126) (.const (.int .i64 0))),yd [1,0] 128 (.mov (yt 127)),ye [2,1,0] 128 false 129 (.mov (yt 9)),ye [3,2,1,0] 128 false 130 (.ibin .neq (yt 129) (.const (.int .u64 4))),
 yd [2,4,1,0,3] 131 (.pick (yt 128) (.const (.bool true)) (yt 130)),yd [5,2,4,1,0,3] 132 (.mov (yt 131)),ye [6,5,2,4,1,0,3] 132 false 133 (.mov (yt 10)),ye [7,6,5,2,4,1,0,3] 132 false 134 (.un .not (yt 133)),
 yd [6,8,5,2,4,1,0,3,7] 135 (.pick (yt 132) (.const (.bool true)) (yt 134)),yd [9,6,8,5,2,4,1,0,3,7] 136 (.mov (yt 135)),ye [10,9,6,8,5,2,4,1,0,3,7] 136 false 137 (.mov (yt 11)),
 ye [11,10,9,6,8,5,2,4,1,0,3,7] 136 false 138 (.ibin .neq (yt 137) (.const (.int .u64 2))),yd [10,12,9,6,8,5,2,4,1,0,3,7,11] 139 (.pick (yt 136) (.const (.bool true)) (yt 138)),
 yd [13,10,12,9,6,8,5,2,4,1,0,3,7,11] 140 (.mov (yt 139)),ye [14,13,10,12,9,6,8,5,2,4,1,0,3,7,11] 140 false 141 (.mov (yt 12)),ye [15,14,13,10,12,9,6,8,5,2,4,1,0,3,7,11] 140 false 142 (.un .not (yt 141)),
 yd [14,16,13,10,12,9,6,8,5,2,4,1,0,3,7,11,15] 143 (.pick (yt 140) (.const (.bool true)) (yt 142)),yd [17,14,16,13,10,12,9,6,8,5,2,4,1,0,3,7,11,15] 144 (.mov (yt 143)),
 ye [18,17,14,16,13,10,12,9,6,8,5,2,4,1,0,3,7,11,15] 144 false 145 (.loadN 32 (yt 13)),ye [18,17,14,16,13,10,12,9,6,8,5,2,4,1,0,3,7,11,15] 144 false 146 (.loadN 32 (yt 1)),
 ye [18,17,14,16,13,10,12,9,6,8,5,2,4,1,0,3,7,11,15] 144 false 147 (.loadN 32 (yt 2)),ye [20,21,18,17,14,16,13,10,12,9,6,8,5,2,4,1,0,3,7,11,15] 144 false 148 (.call f4 #[(yt 146),(yt 147)]),
 ye [18,17,14,16,13,10,12,9,6,8,5,2,4,1,0,3,7,11,15] 144 false 149 (.loadN 32 (yt 3)),ye [18,17,14,16,13,10,12,9,6,8,5,2,4,1,0,3,7,11,15] 144 false 150 (.loadN 32 (yt 4)),
 ye [23,24,22,18,17,14,16,13,10,12,9,6,8,5,2,4,1,0,3,7,11,15,20,21] 144 false 151 (.call f4 #[(yt 149),(yt 150)]),
 ye [22,25,18,20,21,17,14,16,13,10,12,9,6,8,5,2,4,1,0,3,7,11,15,23,24] 144 false 152 (.call f4 #[(yt 148),(yt 151)]),
 ye [19,26,18,17,14,16,13,10,12,9,6,8,5,2,4,1,0,3,7,11,15,22,25,20,21,23,24] 144 false 153 (.bin .neq T0 (yt 145) (yt 152)),
 yd [18,27,17,14,16,13,10,12,9,6,8,5,2,4,1,0,3,7,11,15,19,26,22,25,20,21,23,24] 154 (.pick (yt 144) (.const (.bool true)) (yt 153)),
 yd [28,26,18,27,17,14,16,13,10,12,9,6,8,5,2,4,1,0,3,7,11,15,19,22,25,20,21,23,24] 155 (.mov (yt 154)),ye [29,28,26,18,27,17,14,16,13,10,12,9,6,8,5,2,4,1,0,3,7,11,15,19,22,25,20,21,23,24] 155 false 156 (.mov (yt 14)),
 ye [30,29,28,26,18,27,17,14,16,13,10,12,9,6,8,5,2,4,1,0,3,7,11,15,19,22,25,20,21,23,24] 155 false 157 (.un .not (yt 156)),
 yd [29,31,28,26,18,27,17,14,16,13,10,12,9,6,8,5,2,4,1,0,3,7,11,15,19,22,25,20,21,23,24,30] 158 (.pick (yt 155) (.const (.bool true)) (yt 157)),
 yd [32,29,31,28,26,18,27,17,14,16,13,10,12,9,6,8,5,2,4,1,0,3,7,11,15,19,22,25,20,21,23,24,30] 159 (.mov (yt 158)),
 ye [33,32,29,31,28,26,18,27,17,14,16,13,10,12,9,6,8,5,2,4,1,0,3,7,11,15,19,22,25,20,21,23,24,30] 159 false 160 (.mov (yt 16)),
 ye [34,33,32,29,31,28,26,18,27,17,14,16,13,10,12,9,6,8,5,2,4,1,0,3,7,11,15,19,22,25,20,21,23,24,30] 159 false 161 (.ibin .neq (yt 160) (.const (.int .i64 0))),
 yd [33,35,32,29,31,28,26,18,27,17,14,16,13,10,12,9,6,8,5,2,4,1,0,3,7,11,15,19,22,25,20,21,23,24,30,34] 162 (.pick (yt 159) (.const (.bool true)) (yt 161)),
 yd [36,33,35,32,29,31,28,26,18,27,17,14,16,13,10,12,9,6,8,5,2,4,1,0,3,7,11,15,19,22,25,20,21,23,24,30,34] 163 (.mov (yt 162)),
 ye [37,36,33,35,32,29,31,28,26,18,27,17,14,16,13,10,12,9,6,8,5,2,4,1,0,3,7,11,15,19,22,25,20,21,23,24,30,34] 163 false 164 (.mov (yt 17)),
 ye [38,37,36,33,35,32,29,31,28,26,18,27,17,14,16,13,10,12,9,6,8,5,2,4,1,0,3,7,11,15,19,22,25,20,21,23,24,30,34] 163 false 165 (.ibin .neq (yt 164) (.const (.int .u64 8))),
 yd [37,39,36,33,35,32,29,31,28,26,18,27,17,14,16,13,10,12,9,6,8,5,2,4,1,0,3,7,11,15,19,22,25,20,21,23,24,30,34,38] 166 (.pick (yt 163) (.const (.bool true)) (yt 165)),
 yd [40,37,39,36,33,35,32,29,31,28,26,18,27,17,14,16,13,10,12,9,6,8,5,2,4,1,0,3,7,11,15,19,22,25,20,21,23,24,30,34,38] 167 (.mov (yt 166)),
 ye [41,40,37,39,36,33,35,32,29,31,28,26,18,27,17,14,16,13,10,12,9,6,8,5,2,4,1,0,3,7,11,15,19,22,25,20,21,23,24,30,34,38] 167 false 168 (.mov (yt 19)),
 ye [42,41,40,37,39,36,33,35,32,29,31,28,26,18,27,17,14,16,13,10,12,9,6,8,5,2,4,1,0,3,7,11,15,19,22,25,20,21,23,24,30,34,38] 167 false 169 (.ibin .neq (yt 168) (.const (.int .u64 2))),
 yd [41,43,40,37,39,36,33,35,32,29,31,28,26,18,27,17,14,16,13,10,12,9,6,8,5,2,4,1,0,3,7,11,15,19,22,25,20,21,23,24,30,34,38,42] 170 (.pick (yt 167) (.const (.bool true)) (yt 169)),
 yd [44,41,43,40,37,39,36,33,35,32,29,31,28,26,18,27,17,14,16,13,10,12,9,6,8,5,2,4,1,0,3,7,11,15,19,22,25,20,21,23,24,30,34,38,42] 171 (.mov (yt 170)),
 ye [45,44,41,43,40,37,39,36,33,35,32,29,31,28,26,18,27,17,14,16,13,10,12,9,6,8,5,2,4,1,0,3,7,11,15,19,22,25,20,21,23,24,30,34,38,42] 171 false 172 (.mov (yt 22)),
 yd [45,46,44,41,43,40,37,39,36,33,35,32,29,31,28,26,18,27,17,14,16,13,10,12,9,6,8,5,2,4,1,0,3,7,11,15,19,22,25,20,21,23,24,30,34,38,42] 173 (.pick (yt 171) (.const (.bool true)) (yt 172)),
 yd [47,45,46,44,41,43,40,37,39,36,33,35,32,29,31,28,26,18,27,17,14,16,13,10,12,9,6,8,5,2,4,1,0,3,7,11,15,19,22,25,20,21,23,24,30,34,38,42] 174 (.mov (yt 173)),
 ye [48,47,45,46,44,41,43,40,37,39,36,33,35,32,29,31,28,26,18,27,17,14,16,13,10,12,9,6,8,5,2,4,1,0,3,7,11,15,19,22,25,20,21,23,24,30,34,38,42] 174 false 175 (.mov (yt 24)),
 yd [48,49,47,45,46,44,41,43,40,37,39,36,33,35,32,29,31,28,26,18,27,17,14,16,13,10,12,9,6,8,5,2,4,1,0,3,7,11,15,19,22,25,20,21,23,24,30,34,38,42] 176 (.pick (yt 174) (.const (.bool true)) (yt 175)),
 yd [50,48,49,47,45,46,44,41,43,40,37,39,36,33,35,32,29,31,28,26,18,27,17,14,16,13,10,12,9,6,8,5,2,4,1,0,3,7,11,15,19,22,25,20,21,23,24,30,34,38,42] 177 (.mov (yt 176)),
 ye [51,50,48,49,47,45,46,44,41,43,40,37,39,36,33,35,32,29,31,28,26,18,27,17,14,16,13,10,12,9,6,8,5,2,4,1,0,3,7,11,15,19,22,25,20,21,23,24,30,34,38,42] 177 false 178 (.loadN 32 (yt 25)),
 ye [51,50,48,49,47,45,46,44,41,43,40,37,39,36,33,35,32,29,31,28,26,18,27,17,14,16,13,10,12,9,6,8,5,2,4,1,0,3,7,11,15,19,22,25,20,21,23,24,30,34,38,42] 177 false 179 (.loadN 32 (yt 2))] [
 yg 177 false 180 (.bin .neq T0 (yt 178) (yt 179)),yo 181 (.pick (yt 177) (.const (.bool true)) (yt 180)),ym 182 181,yg 182 false 183 (.mov (yt 26)),yg 182 false 184 (.un .not (yt 183)),
 yo 185 (.pick (yt 182) (.const (.bool true)) (yt 184))],.cond (yt 185) [yo 0 (.mov (.const (.bool false))),.ret] [],ym 187 6,yo 188 (.loadN 32 (yt 2)),yo 189 (.mkSlice T0 1 (rle [(32,.int .u8 0)]) [(0,32,(yt 188))]),
 yo 190 (.call f5 #[(yt 187),(yt 189)]),ym 186 190,yo 191 (.ext (yt 186) 0),yo 192 (.ext (yt 186) 1),yo 27 (.new T2 (rle [(2,.slice none 0 0)])),ys 2 27 191,ym 28 192,ym 194 6,yo 195 (.loadN 32 (yt 1)),
 yo 196 (.mkSlice T0 1 (rle [(32,.int .u8 0)]) [(0,32,(yt 195))]),yo 197 (.call f5 #[(yt 194),(yt 196)]),ym 193 197,yo 198 (.ext (yt 193) 0),yo 199 (.ext (yt 193) 1),yo 29 (.new T2 (rle [(2,.slice none 0 0)])),
 ys 2 29 198,ym 30 199,ym 201 6,yo 202 (.loadN 32 (yt 2)),yo 203 (.loadN 32 (yt 2)),yo 204 (.mkSlice T0 2 (rle [(64,.int .u8 0)]) [(0,32,(yt 202)),(32,32,(yt 203))]),yo 205 (.call f5 #[(yt 201),(yt 204)]),ym 200 205,
 yo 206 (.ext (yt 200) 0),yo 207 (.ext (yt 200) 1),yo 31 (.new T2 (rle [(2,.slice none 0 0)])),ys 2 31 206,ym 32 207,ym 209 6,yo 210 (.loadN 32 (yt 2)),yo 211 (.mkSlice T0 1 (rle [(32,.int .u8 0)]) [(0,32,(yt 210))]),
 yo 212 (.call f1 #[(yt 209),(yt 211),(.const (.slice none 0 0))]),ym 208 212,yo 213 (.ext (yt 208) 0),yo 214 (.ext (yt 208) 1),
 yo 33 (.new T1 (rle [(1,.pointer none),(2,.int .i64 0),(1,.int .u64 0),(1,.slice none 0 0),(2,.map none)])),ys 7 33 213,ym 34 214,ym 216 6,yo 217 (.loadN 32 (yt 3)),yo 218 (.call f2 #[(yt 216),(yt 217)]),ym 215 218,
 yo 219 (.ext (yt 215) 0),yo 220 (.ext (yt 215) 1),ym 35 219,ym 36 220,ym 221 6,yo 222 (.loadN 7 (yt 33)),yo 223 (.call f6 #[(yt 221),(yt 222)]),ym 37 223,ym 225 6,yo 226 (.loadN 32 (yt 3)),
 yo 227 (.call f2 #[(yt 225),(yt 226)]),ym 224 227,yo 228 (.ext (yt 224) 0),yo 229 (.ext (yt 224) 1),ym 38 228,ym 39 229,ym 231 6,yo 232 (.loadN 32 (yt 2)),yo 233 (.call f2 #[(yt 231),(yt 232)]),ym 230 233,
 yo 234 (.ext (yt 230) 0),yo 235 (.ext (yt 230) 1),ym 40 234,ym 41 235,ym 237 6,yo 238 (.loadN 32 (yt 2)),yo 239 (.mkSlice T0 1 (rle [(32,.int .u8 0)]) [(0,32,(yt 238))]),
 yo 240 (.call f1 #[(yt 237),(.const (.slice none 0 0)),(yt 239)]),ym 236 240,yo 241 (.ext (yt 236) 0),yo 242 (.ext (yt 236) 1),
 yo 42 (.new T1 (rle [(1,.pointer none),(2,.int .i64 0),(1,.int .u64 0),(1,.slice none 0 0),(2,.map none)])),ys 7 42 241,ym 43 242,ym 244 6,yo 245 (.mk (rle [(32,.int .u8 0)]) [(0,1,(.const (.int .u8 6)))]),
 yo 246 (.mk (rle [(32,.int .u8 0)]) [(0,1,(.const (.int .u8 6)))]),yo 247 (.mkSlice T0 2 (rle [(64,.int .u8 0)]) [(0,32,(yt 245)),(32,32,(yt 246))]),yo 248 (.call f1 #[(yt 244),(.const (.slice none 0 0)),(yt 247)]),
 ym 243 248,yo 249 (.ext (yt 243) 0),yo 250 (.ext (yt 243) 1),yo 44 (.new T1 (rle [(1,.pointer none),(2,.int .i64 0),(1,.int .u64 0),(1,.slice none 0 0),(2,.map none)])),ys 7 44 249,ym 45 250,ym 252 6,
 yo 253 (.mk (rle [(32,.int .u8 0)]) [(0,1,(.const (.int .u8 6)))]),yo 254 (.mkSlice T0 1 (rle [(32,.int .u8 0)]) [(0,32,(yt 253))]),yo 255 (.call f1 #[(yt 252),(yt 254),(.const (.slice none 0 0))]),ym 251 255,
 yo 256 (.ext (yt 251) 0),yo 257 (.ext (yt 251) 1),yo 46 (.new T1 (rle [(1,.pointer none),(2,.int .i64 0),(1,.int .u64 0),(1,.slice none 0 0),(2,.map none)])),ys 7 46 256,ym 47 257,.draw [yd [] 258 (.mov (yt 28)),
 yd [0] 259 (.ibin .neq (yt 258) (.const (.int .i64 0))),yd [1,0] 260 (.mov (yt 259)),ye [2,1,0] 260 false 261 (.faddr 0 (yt 27)),ye [3,2,1,0] 260 false 262 (.load1 (yt 261)),
 ye [4,2,3,1,0] 260 false 263 (.lenS (yt 262)),ye [5,2,4,3,1,0] 260 false 264 (.ibin .neq (yt 263) (.const (.int .i64 1))),yd [2,6,1,0,5,4,3] 265 (.pick (yt 260) (.const (.bool true)) (yt 264)),
 yd [7,2,6,1,0,5,4,3] 266 (.mov (yt 265)),ye [8,7,2,6,1,0,5,4,3] 266 false 267 (.faddr 0 (yt 27)),ye [9,8,7,2,6,1,0,5,4,3] 266 false 268 (.load1 (yt 267)),
 ye [10,8,9,7,2,6,1,0,5,4,3] 266 false 269 (.iaddr 1 (yt 268) (.const (.int .i64 0))),ye [11,8,10,9,7,2,6,1,0,5,4,3] 266 false 270 (.load1 (yt 269)),
 ye [12,8,11,10,9,7,2,6,1,0,5,4,3] 266 false 271 (.ibin .neq (yt 270) (.const (.int .u64 8))),yd [8,13,7,2,6,1,0,5,4,3,12,11,10,9] 272 (.pick (yt 266) (.const (.bool true)) (yt 271)),
 yd [14,8,13,7,2,6,1,0,5,4,3,12,11,10,9] 273 (.mov (yt 272)),ye [15,14,8,13,7,2,6,1,0,5,4,3,12,11,10,9] 273 false 274 (.faddr 1 (yt 27)),ye [16,15,14,8,13,7,2,6,1,0,5,4,3,12,11,10,9] 273 false 275 (.load1 (yt 274)),
 ye [17,15,16,14,8,13,7,2,6,1,0,5,4,3,12,11,10,9] 273 false 276 (.lenS (yt 275)),ye [18,15,17,16,14,8,13,7,2,6,1,0,5,4,3,12,11,10,9] 273 false 277 (.ibin .neq (yt 276) (.const (.int .i64 1))),
 yd [15,19,14,8,13,7,2,6,1,0,5,4,3,12,11,10,9,18,17,16] 278 (.pick (yt 273) (.const (.bool true)) (yt 277)),yd [20,15,19,14,8,13,7,2,6,1,0,5,4,3,12,11,10,9,18,17,16] 279 (.mov (yt 278)),
 ye [21,20,15,19,14,8,13,7,2,6,1,0,5,4,3,12,11,10,9,18,17,16] 279 false 280 (.faddr 1 (yt 27)),ye [22,21,20,15,19,14,8,13,7,2,6,1,0,5,4,3,12,11,10,9,18,17,16] 279 false 281 (.load1 (yt 280)),
 ye [23,21,22,20,15,19,14,8,13,7,2,6,1,0,5,4,3,12,11,10,9,18,17,16] 279 false 282 (.iaddr 32 (yt 281) (.const (.int .i64 0))),
 ye [24,21,23,22,20,15,19,14,8,13,7,2,6,1,0,5,4,3,12,11,10,9,18,17,16] 279 false 283 (.loadN 32 (yt 282)),ye [21,20,15,19,14,8,13,7,2,6,1,0,5,4,3,12,11,10,9,18,17,16] 279 false 284 (.loadN 32 (yt 3)),
 ye [21,20,15,19,14,8,13,7,2,6,1,0,5,4,3,12,11,10,9,18,17,16] 279 false 285 (.loadN 32 (yt 4)),ye [26,27,21,20,15,19,14,8,13,7,2,6,1,0,5,4,3,12,11,10,9,18,17,16] 279 false 286 (.call f4 #[(yt 284),(yt 285)])] [
 yg 279 false 287 (.bin .neq T0 (yt 283) (yt 286)),yo 288 (.pick (yt 279) (.const (.bool true)) (yt 287)),ym 289 288,yg 289 false 290 (.mov (yt 30)),yg 289 false 291 (.ibin .neq (yt 290) (.const (.int .i64 5))),
 yo 292 (.pick (yt 289) (.const (.bool true)) (yt 291)),ym 293 292,yg 293 false 294 (.mov (yt 32)),yg 293 false 295 (.ibin .neq (yt 294) (.const (.int .i64 24))),yo 296 (.pick (yt 293) (.const (.bool true)) (yt 295))],
 .cond (yt 296) [yo 0 (.mov (.const (.bool false))),.ret] [],ym 297 34,yo 298 (.ibin .neq (yt 297) (.const (.int .i64 0))),ym 299 298,yg 299 false 300 (.mov (yt 35)),
 yg 299 false 301 (.ibin .neq (yt 300) (.const (.int .u64 8))),yo 302 (.pick (yt 299) (.const (.bool true)) (yt 301)),ym 303 302,yg 303 false 304 (.mov (yt 37)),
 yg 303 false 305 (.ibin .neq (yt 304) (.const (.int .i64 0))),yo 306 (.pick (yt 303) (.const (.bool true)) (yt 305)),ym 307 306,yg 307 false 308 (.mov (yt 38)),
 yg 307 false 309 (.ibin .neq (yt 308) (.const (.int .u64 2))),yo 310 (.pick (yt 307) (.const (.bool true)) (yt 309)),ym 311 310,yg 311 false 312 (.mov (yt 40)),
 yg 311 false 313 (.ibin .neq (yt 312) (.const (.int .u64 8))),yo 314 (.pick (yt 311) (.const (.bool true)) (yt 313)),ym 315 314,yg 315 false 316 (.mov (yt 43)),
 yg 315 false 317 (.ibin .neq (yt 316) (.const (.int .i64 6))),yo 318 (.pick (yt 315) (.const (.bool true)) (yt 317)),ym 319 318,yg 319 false 320 (.mov (yt 45)),
 yg 319 false 321 (.ibin .neq (yt 320) (.const (.int .i64 6))),yo 322 (.pick (yt 319) (.const (.bool true)) (yt 321)),ym 323 322,yg 323 false 324 (.mov (yt 47)),
 yg 323 false 325 (.ibin .neq (yt 324) (.const (.int .i64 5))),yo 326 (.pick (yt 323) (.const (.bool true)) (yt 325)),.cond (yt 326) [yo 0 (.mov (.const (.bool false))),.ret] [],yo 48 (.mov (.const (.pointer none))),
 yo 327 (.mk (rle [(1,.int .u64 0),(1,.slice none 0 0),(1,.map none),(2,.int .i64 0)]) []),yo 328 (.box T3 (yt 327)),ym 49 328,ym 330 48,
 yo 331 (.call f1 #[(yt 330),(.const (.slice none 0 0)),(.const (.slice none 0 0))]),ym 329 331,yo 332 (.ext (yt 329) 0),yo 333 (.ext (yt 329) 1),
 yo 50 (.new T1 (rle [(1,.pointer none),(2,.int .i64 0),(1,.int .u64 0),(1,.slice none 0 0),(2,.map none)])),ys 7 50 332,ym 51 333,ym 335 49,yo 336 (.call f5 #[(yt 335),(.const (.slice none 0 0))]),ym 334 336,
 yo 337 (.ext (yt 334) 0),yo 338 (.ext (yt 334) 1),yo 52 (.new T2 (rle [(2,.slice none 0 0)])),ys 2 52 337,ym 53 338,ym 340 48,yo 341 (.call f3 #[(yt 340),(.const (.int .u64 0))]),ym 339 341,yo 342 (.ext (yt 339) 0),
 yo 343 (.ext (yt 339) 1),yo 54 (.new T0 (rle [(32,.int .u8 0)])),ys 32 54 342,ym 55 343,ym 345 49,yo 346 (.loadN 32 (yt 1)),yo 347 (.call f2 #[(yt 345),(yt 346)]),ym 344 347,yo 348 (.ext (yt 344) 0),
 yo 349 (.ext (yt 344) 1),ym 56 348,ym 57 349,ym 350 51,yo 351 (.ibin .eql (yt 350) (.const (.int .i64 1))),ym 352 351,yg 352 true 353 (.mov (yt 53)),yg 352 true 354 (.ibin .eql (yt 353) (.const (.int .i64 1))),
 yo 355 (.pick (yt 352) (yt 354) (.const (.bool false))),ym 356 355,yg 356 true 357 (.mov (yt 55)),yg 356 true 358 (.un .not (yt 357)),yo 359 (.pick (yt 356) (yt 358) (.const (.bool false))),ym 360 359,
 yg 360 true 361 (.mov (yt 57)),yg 360 true 362 (.un .not (yt 361)),yo 363 (.pick (yt 360) (yt 362) (.const (.bool false))),ym 364 363,yg 364 true 365 (.mov (yt 48)),yg 364 true 366 (.loadN 7 (yt 33)),
 yg 364 true 367 (.call f6 #[(yt 365),(yt 366)]),yg 364 true 368 (.ibin .eql (yt 367) (.const (.int .i64 1))),yo 369 (.pick (yt 364) (yt 368) (.const (.bool false))),ym 370 369,yg 370 true 371 (.mov (yt 6)),
 yg 370 true 372 (.loadN 7 (yt 33)),yg 370 true 373 (.call f6 #[(yt 371),(yt 372)]),yg 370 true 374 (.ibin .eql (yt 373) (.const (.int .i64 2))),yo 375 (.pick (yt 370) (yt 374) (.const (.bool false))),ym 376 375,
 yg 376 true 377 (.mov (yt 48)),yg 376 true 378 (.call f7 #[(yt 377)]),yg 376 true 379 (.lenS (yt 378)),yg 376 true 380 (.ibin .eql (yt 379) (.const (.int .i64 0))),
 yo 381 (.pick (yt 376) (yt 380) (.const (.bool false))),ym 382 381,yg 382 true 383 (.mov (yt 49)),yg 382 true 384 (.call f8 #[(yt 383)]),yg 382 true 385 (.lenS (yt 384)),
 yg 382 true 386 (.ibin .eql (yt 385) (.const (.int .i64 0))),yo 387 (.pick (yt 382) (yt 386) (.const (.bool false))),ym 388 387,yg 388 true 389 (.mov (yt 49)),yg 388 true 390 (.call f9 #[(yt 389)]),
 yg 388 true 391 (.bin .eql T4 (yt 390) (.const (.pointer none))),yo 392 (.pick (yt 388) (yt 391) (.const (.bool false))),ym 393 392,yg 393 true 394 (.mov (yt 48)),yg 393 true 395 (.call f10 #[(yt 394)]),
 yg 393 true 396 (.fld false 1 1 (yt 395)),yg 393 true 397 (.lenS (yt 396)),yg 393 true 398 (.ibin .eql (yt 397) (.const (.int .i64 0))),yo 399 (.pick (yt 393) (yt 398) (.const (.bool false))),ym 400 399,
 yg 400 true 401 (.call f11 #[]),yo 402 (.pick (yt 400) (yt 401) (.const (.bool false))),ym 0 402,.ret] }
def b_spinneylaw14_cut : Body := { n := 8,res := [.tmp 2],code := [yo 2 (.mov (.const (.slice none 0 0))),ym 3 0,ym 4 0,yo 5 (.lenS (yt 4)),yo 6 (.min2 (yt 5) (.const (.int .i64 10))),
 yo 7 (.slS 32 (yt 3) none (some (yt 6))),ym 2 7,.ret] }
def b_spinneylaw14_works (f0 f1 f2 f3 f4 : Nat) (T0 T1 T2 : Nat) : Body := { n := 68,res := [.tmp 0],code := [yo 0 (.mov (.const (.bool false))),yo 11 (.call f0 #[]),ym 1 11,
 yo 12 (.mk (rle [(32,.int .u8 0)]) [(0,1,(.const (.int .u8 1)))]),yo 13 (.mk (rle [(32,.int .u8 0)]) [(0,1,(.const (.int .u8 2)))]),yo 2 (.new T0 (rle [(32,.int .u8 0)])),yo 3 (.new T0 (rle [(32,.int .u8 0)])),
 ys 32 2 12,ys 32 3 13,ym 15 1,yo 16 (.loadN 32 (yt 2)),yo 17 (.loadN 32 (yt 3)),yo 18 (.mk (rle [(32,.int .u8 0)]) [(0,1,(.const (.int .u8 3)))]),
 yo 19 (.mkSlice T0 3 (rle [(96,.int .u8 0)]) [(0,32,(yt 16)),(32,32,(yt 17)),(64,32,(yt 18))]),yo 20 (.call f1 #[(yt 15),(.const (.slice none 0 0)),(yt 19)]),ym 14 20,yo 21 (.ext (yt 14) 0),yo 22 (.ext (yt 14) 1),
 yo 4 (.new T1 (rle [(1,.pointer none),(2,.int .i64 0),(1,.int .u64 0),(1,.slice none 0 0),(2,.map none)])),ys 7 4 21,ym 5 22,ym 23 1,yo 24 (.call f2 #[(yt 23)]),
 yo 6 (.new T2 (rle [(1,.int .u64 0),(1,.slice none 0 0)])),ys 2 6 24,ym 26 1,yo 27 (.loadN 32 (yt 2)),yo 28 (.mkSlice T0 1 (rle [(32,.int .u8 0)]) [(0,32,(yt 27))]),
 yo 29 (.call f1 #[(yt 26),(yt 28),(.const (.slice none 0 0))]),ym 25 29,yo 30 (.ext (yt 25) 0),yo 31 (.ext (yt 25) 1),
 yo 7 (.new T1 (rle [(1,.pointer none),(2,.int .i64 0),(1,.int .u64 0),(1,.slice none 0 0),(2,.map none)])),ys 7 7 30,ym 8 31,ym 33 1,yo 34 (.loadN 32 (yt 3)),yo 35 (.call f3 #[(yt 33),(yt 34)]),ym 32 35,
 yo 36 (.ext (yt 32) 0),yo 37 (.ext (yt 32) 1),ym 9 36,ym 10 37,.draw [yd [] 38 (.mov (yt 5)),yd [0] 39 (.ibin .eql (yt 38) (.const (.int .i64 0))),yd [1,0] 40 (.mov (yt 39)),ye [2,1,0] 40 true 41 (.mov (yt 8)),
 ye [3,2,1,0] 40 true 42 (.ibin .eql (yt 41) (.const (.int .i64 0))),yd [2,4,1,0,3] 43 (.pick (yt 40) (yt 42) (.const (.bool false))),yd [5,2,4,1,0,3] 44 (.mov (yt 43)),ye [6,5,2,4,1,0,3] 44 true 45 (.faddr 1 (yt 6)),
 ye [7,6,5,2,4,1,0,3] 44 true 46 (.load1 (yt 45)),ye [8,6,7,5,2,4,1,0,3] 44 true 47 (.lenS (yt 46)),ye [9,6,8,7,5,2,4,1,0,3] 44 true 48 (.ibin .eql (yt 47) (.const (.int .i64 2))),
 yd [6,10,5,2,4,1,0,3,9,8,7] 49 (.pick (yt 44) (yt 48) (.const (.bool false))),yd [11,6,10,5,2,4,1,0,3,9,8,7] 50 (.mov (yt 49)),ye [12,11,6,10,5,2,4,1,0,3,9,8,7] 50 true 51 (.faddr 1 (yt 6)),
 ye [13,12,11,6,10,5,2,4,1,0,3,9,8,7] 50 true 52 (.load1 (yt 51)),ye [14,12,13,11,6,10,5,2,4,1,0,3,9,8,7] 50 true 53 (.iaddr 33 (yt 52) (.const (.int .i64 0))),
 ye [15,12,14,13,11,6,10,5,2,4,1,0,3,9,8,7] 50 true 54 (.faddr 1 (yt 53)),ye [16,12,15,14,13,11,6,10,5,2,4,1,0,3,9,8,7] 50 true 55 (.loadN 32 (yt 54)),ye [12,11,6,10,5,2,4,1,0,3,9,8,7] 50 true 56 (.loadN 32 (yt 2)),
 ye [12,11,6,10,5,2,4,1,0,3,9,8,7] 50 true 57 (.loadN 32 (yt 3)),ye [18,19,12,11,6,10,5,2,4,1,0,3,9,8,7] 50 true 58 (.call f4 #[(yt 56),(yt 57)])] [yg 50 true 59 (.bin .eql T0 (yt 55) (yt 58)),
 yo 60 (.pick (yt 50) (yt 59) (.const (.bool false))),ym 61 60,yg 61 true 62 (.mov (yt 10)),yo 63 (.pick (yt 61) (yt 62) (.const (.bool false))),ym 64 63,yg 64 true 65 (.mov (yt 9)),
 yg 64 true 66 (.ibin .eql (yt 65) (.const (.int .u64 4))),yo 67 (.pick (yt 64) (yt 66) (.const (.bool false))),ym 0 67],.ret] }
def b_spinneylaw14_equal (f0 f1 f2 f3 f4 : Nat) (T0 T1 : Nat) : Body := { n := 109,res := [.tmp 4],code := [yo 4 (.mov (.const (.bool false))),ym 17 0,yo 18 (.call f0 #[(yt 17)]),ym 19 1,yo 20 (.call f0 #[(yt 19)]),
 ym 5 18,ym 6 20,ym 21 0,yo 22 (.call f1 #[(yt 21)]),ym 23 1,yo 24 (.call f1 #[(yt 23)]),yo 25 (.call f2 #[(yt 22),(yt 24)]),yo 26 (.un .not (yt 25)),ym 27 26,yg 27 false 28 (.mov (yt 5)),yg 27 false 29 (.lenS (yt 28)),
 yg 27 false 30 (.mov (yt 6)),yg 27 false 31 (.lenS (yt 30)),yg 27 false 32 (.ibin .neq (yt 29) (yt 31)),yo 33 (.pick (yt 27) (.const (.bool true)) (yt 32)),.cond (yt 33) [yo 4 (.mov (.const (.bool false))),.ret] [],
 yo 7 (.mov (.const (.int .i64 0))),.block 0 [.loop [ym 34 7,ym 35 5,yo 36 (.lenS (yt 35)),yo 37 (.ibin .lss (yt 34) (yt 36)),.cond (yt 37) [] [.exit 0],.block 1 [ym 41 0,ym 42 5,ym 43 7,
 yo 44 (.iaddr 32 (yt 42) (yt 43)),yo 45 (.loadN 32 (yt 44)),yo 46 (.call f3 #[(yt 41),(yt 45)]),ym 40 46,yo 47 (.ext (yt 40) 0),yo 48 (.ext (yt 40) 1),ym 8 47,ym 9 48,ym 50 1,ym 51 5,ym 52 7,
 yo 53 (.iaddr 32 (yt 51) (yt 52)),yo 54 (.loadN 32 (yt 53)),yo 55 (.call f3 #[(yt 50),(yt 54)]),ym 49 55,yo 56 (.ext (yt 49) 0),yo 57 (.ext (yt 49) 1),ym 10 56,ym 11 57,.draw [yd [] 58 (.mov (yt 5)),
 yd [] 59 (.mov (yt 7)),yd [0,1] 60 (.iaddr 32 (yt 58) (yt 59)),yd [2,0,1] 61 (.loadN 32 (yt 60)),yd [] 62 (.mov (yt 6)),yd [] 63 (.mov (yt 7)),yd [4,5] 64 (.iaddr 32 (yt 62) (yt 63)),yd [6,4,5] 65 (.loadN 32 (yt 64)),
 yd [3,7,2,0,1,6,4,5] 66 (.bin .neq T0 (yt 61) (yt 65)),yd [8,3,7,2,0,1,6,4,5] 67 (.mov (yt 66)),ye [9,8,3,7,2,0,1,6,4,5] 67 false 68 (.mov (yt 9)),ye [10,9,8,3,7,2,0,1,6,4,5] 67 false 69 (.un .not (yt 68)),
 yd [9,11,8,3,7,2,0,1,6,4,5,10] 70 (.pick (yt 67) (.const (.bool true)) (yt 69)),yd [12,9,11,8,3,7,2,0,1,6,4,5,10] 71 (.mov (yt 70)),ye [13,12,9,11,8,3,7,2,0,1,6,4,5,10] 71 false 72 (.mov (yt 11)),
 ye [14,13,12,9,11,8,3,7,2,0,1,6,4,5,10] 71 false 73 (.un .not (yt 72)),yd [13,15,12,9,11,8,3,7,2,0,1,6,4,5,10,14] 74 (.pick (yt 71) (.const (.bool true)) (yt 73)),
 yd [16,13,15,12,9,11,8,3,7,2,0,1,6,4,5,10,14] 75 (.mov (yt 74)),ye [17,16,13,15,12,9,11,8,3,7,2,0,1,6,4,5,10,14] 75 false 76 (.mov (yt 8)),ye [17,16,13,15,12,9,11,8,3,7,2,0,1,6,4,5,10,14] 75 false 77 (.mov (yt 10))] [
 yg 75 false 78 (.ibin .neq (yt 76) (yt 77)),yo 79 (.pick (yt 75) (.const (.bool true)) (yt 78))],.cond (yt 79) [yo 4 (.mov (.const (.bool false))),.ret] []],ym 38 7,yo 39 (.ibin .add (yt 38) (.const (.int .i64 1))),
 ym 7 39]],yo 12 (.mov (.const (.int .u64 0))),.block 2 [.loop [ym 80 12,ym 81 0,yo 82 (.call f1 #[(yt 81)]),yo 83 (.fld false 0 1 (yt 82)),yo 84 (.ibin .mul (.const (.int .u64 2)) (yt 83)),
 yo 85 (.ibin .add (yt 84) (.const (.int .u64 3))),yo 86 (.ibin .lss (yt 80) (yt 85)),.cond (yt 86) [] [.exit 2],.block 3 [ym 90 0,ym 91 12,yo 92 (.call f4 #[(yt 90),(yt 91)]),ym 89 92,yo 93 (.ext (yt 89) 0),
 yo 94 (.ext (yt 89) 1),yo 13 (.new T0 (rle [(32,.int .u8 0)])),ys 32 13 93,ym 14 94,ym 96 1,ym 97 12,yo 98 (.call f4 #[(yt 96),(yt 97)]),ym 95 98,yo 99 (.ext (yt 95) 0),yo 100 (.ext (yt 95) 1),
 yo 15 (.new T0 (rle [(32,.int .u8 0)])),ys 32 15 99,ym 16 100,yo 101 (.loadN 32 (yt 13)),yo 102 (.loadN 32 (yt 15)),yo 103 (.bin .neq T0 (yt 101) (yt 102)),ym 104 103,yg 104 false 105 (.mov (yt 14)),
 yg 104 false 106 (.mov (yt 16)),yg 104 false 107 (.bin .neq T1 (yt 105) (yt 106)),yo 108 (.pick (yt 104) (.const (.bool true)) (yt 107)),.cond (yt 108) [yo 4 (.mov (.const (.bool false))),.ret] []],ym 87 12,
 yo 88 (.ibin .add (yt 87) (.const (.int .u64 1))),ym 12 88]],yo 4 (.mov (.const (.bool true))),.ret] }
def b_spinneylaw14_has (T0 : Nat) : Body := { n := 18,res := [.tmp 4],code := [yo 3 (.box T0 (yt 1)),yo 4 (.mov (.const (.bool false))),yo 5 (.mov (.const (.int .i64 0))),.block 0 [.loop [ym 6 5,ym 7 0,
 yo 8 (.lenS (yt 7)),yo 9 (.ibin .lss (yt 6) (yt 8)),.cond (yt 9) [] [.exit 0],.block 1 [.draw [yd [] 12 (.mov (yt 0)),yd [] 13 (.mov (yt 5)),yd [0,1] 14 (.iaddr 32 (yt 12) (yt 13)),yd [2,0,1] 15 (.loadN 32 (yt 14)),
 yd [] 16 (.loadN 32 (yt 3))] [yo 17 (.bin .eql T0 (yt 15) (yt 16))],.cond (yt 17) [yo 4 (.mov (.const (.bool true))),.ret] []],ym 10 5,yo 11 (.ibin .add (yt 10) (.const (.int .i64 1))),ym 5 11]],
 yo 4 (.mov (.const (.bool false))),.ret] }
def b_spinneylaw14_same (T0 T1 : Nat) : Body := { n := 38,res := [.tmp 4],code := [yo 2 (.box T0 (yt 0)),yo 3 (.box T0 (yt 1)),yo 4 (.mov (.const (.bool false))),yo 6 (.faddr 0 (yt 2)),yo 7 (.load1 (yt 6)),
 yo 8 (.faddr 0 (yt 3)),yo 9 (.load1 (yt 8)),yo 10 (.ibin .neq (yt 7) (yt 9)),ym 11 10,yg 11 false 12 (.faddr 1 (yt 2)),yg 11 false 13 (.load1 (yt 12)),yg 11 false 14 (.lenS (yt 13)),yg 11 false 15 (.faddr 1 (yt 3)),
 yg 11 false 16 (.load1 (yt 15)),yg 11 false 17 (.lenS (yt 16)),yg 11 false 18 (.ibin .neq (yt 14) (yt 17)),yo 19 (.pick (yt 11) (.const (.bool true)) (yt 18)),.cond (yt 19) [yo 4 (.mov (.const (.bool false))),.ret] [],
 yo 5 (.mov (.const (.int .i64 0))),.block 0 [.loop [ym 20 5,yo 21 (.faddr 1 (yt 2)),yo 22 (.load1 (yt 21)),yo 23 (.lenS (yt 22)),yo 24 (.ibin .lss (yt 20) (yt 23)),.cond (yt 24) [] [.exit 0],.block 1 [.draw [
 yd [] 27 (.faddr 1 (yt 2)),yd [0] 28 (.load1 (yt 27)),yd [] 29 (.mov (yt 5)),yd [1,2,0] 30 (.iaddr 33 (yt 28) (yt 29)),yd [3,1,2,0] 31 (.loadN 33 (yt 30)),yd [] 32 (.faddr 1 (yt 3)),yd [5] 33 (.load1 (yt 32)),
 yd [] 34 (.mov (yt 5)),yd [6,7,5] 35 (.iaddr 33 (yt 33) (yt 34)),yd [8,6,7,5] 36 (.loadN 33 (yt 35))] [yo 37 (.bin .neq T1 (yt 31) (yt 36))],.cond (yt 37) [yo 4 (.mov (.const (.bool false))),.ret] []],ym 25 5,
 yo 26 (.ibin .add (yt 25) (.const (.int .i64 1))),ym 5 26]],yo 4 (.mov (.const (.bool true))),.ret] }
end Go.Sp


namespace Go.Sp
/-- T is api.Root -/
structure TyRoot (P : Program) (T TH : TypeId) : Prop where
  und : P.underlying T = some (.struct (P.fieldsOf T))
  held : P.stoodInHeld T = false
  guard : P.eqGuardType P.depth T = false
  fs : ∃ f1 f2, (P.fieldsOf T).toList = [f1, f2] ∧ f1.name ≠ "_" ∧ f2.name ≠ "_" ∧ P.underlying f1.type = some .bool ∧ f1.offset = 0 ∧ f2.type = TH ∧ f2.offset = 1
  size : ∃ i, P.info? TH = some i ∧ i.size = 32
structure LawF (P : Program) extends ForP P where
  has : Nat
  cut : Nat
  same : Nat
  TSm : Nat
  TRo : Nat
  h_has : Has P has (b_spinneylaw14_has TH)
  h_cut : Has P cut b_spinneylaw14_cut
  h_same : Has P same (b_spinneylaw14_same TSm TRo)
  h_TRo : TyRoot P TRo TH
section
variable {P : Program} {f : Nat} {w : World}
theorem rootsC_get : ∀ (l : List (Option Hash)) (i j : Nat) (o : Option Hash) (x : Value), l[i]? = some o → (rootC o)[j]? = some x → (rootsC l)[i * 33 + j]? = some x := by
  intro l
  induction l with
  | nil => intro i j o x hi; simp at hi
  | cons a l ih =>
    intro i j o x hi hj
    simp only [rootsC, List.flatMap_cons]
    have hjl : j < 33 := by have := (List.getElem?_eq_some_iff.1 hj).1; rw [rootC_len] at this; exact this
    cases i with
    | zero =>
      simp at hi; subst hi
      rw [Nat.zero_mul, Nat.zero_add, List.getElem?_append_left (by rw [rootC_len]; exact hjl)]; exact hj
    | succ i =>
      rw [List.getElem?_append_right (by rw [rootC_len]; omega), rootC_len, show (i + 1) * 33 + j - 33 = i * 33 + j by omega]
      exact ih i j o x (by simpa using hi) hj
theorem rootsC_at {v : Value} {l : List (Option Hash)} {i : Nat} {o : Option Hash} (hS : SlC w v 33 l.length (rootsC l)) (hi : l[i]? = some o) : ∃ b off cap, v = .slice (some ⟨b, off, none⟩) l.length cap ∧ i < l.length ∧ Mem w b (off + i * 33) (rootC o) := by
  have hlt := (List.getElem?_eq_some_iff.1 hi).1
  obtain ⟨b, off, cap, hv, hm, _⟩ := hS.at (by omega)
  exact ⟨b, off, cap, hv, hlt, hm.sub (i * 33) fun j x hj => rootsC_get l i j o x hi hj⟩
end
end Go.Sp

namespace Go.Sp
/-- the hash of one byte and zeros -/
def hK (b : UInt8) : Hash := ⟨b :: List.replicate 31 0, rfl⟩
theorem hK_fill (b : UInt8) : fillL (rleL [(32, .int .u8 0)]) [(0, 1, .int .u8 b.toNat)] = some (hC (hK b)) := by
  rw [fillL_cons (size := 1) rfl (by decide)]
  rfl
theorem hK_ne {a b : UInt8} (h : a ≠ b) : hK a ≠ hK b := fun he => h (by have := congrArg (fun x : Hash => x.1.head?) he; simpa [hK] using this)
def lw1 : List (Option Hash) := [some (hK 1), some (hK 2), some (hK 3)]
def lw2 : List (Option Hash) := [none, some (hK 2), some (hK 3)]
theorem trees3 : treesN 3 = [1, 0] := by decide
theorem roots_lw1 : rootsT (treesT parH (lv lw1) 3) = [some (parH (hK 1) (hK 2)), some (hK 3)] := by
  rw [treesT, trees3]
  generalize parH = par
  rfl
theorem where_lw2 : whereT (treesT parH (lv lw2) 3) 3 1 = 4 := by
  rw [treesT, trees3]
  generalize parH = par
  have hr : rootN 3 1 = some 4 := by decide
  have hf : firstN 3 1 = 0 := by decide
  simp only [List.map_cons, whereT, hf, buildT, lv, lw2, List.find?]
  simp [inT, joinT, hr, whereN]
theorem Granted.not_refused {L : List (Option Hash)} {del add : List Hash} {e : Nat} (h : Granted L del add) : ¬ Refused L del add e := by
  rintro (⟨_, x, h1, h2⟩ | ⟨_, _, h1⟩ | ⟨_, _, _, h1⟩)
  · exact h2 (h.live x h1)
  · exact h1 h.once
  · exact h1 ⟨h.new, h.free⟩
/-- the functions of the laws, on -/
structure LawG (P : Program) extends LawF P where
  works : Nat
  TWo : Nat
  TWs : Nat
  h_works : Has P works (b_spinneylaw14_works new' modify stump where' parent TH TWo TWs)
section
variable {P : Program} {f : Nat} {w : World}
theorem nilS (w : World) : SlC w (.slice none 0 0) 32 ([] : List Hash).length (hs []) := .inl ⟨.inl rfl, rfl, rfl⟩
theorem works_ok (A : LawG P) (hT : Tabs A.toShaF w) : RetV P A.works [] w (.bool true) := by
  refine Ret.of_exec A.h_works (Nat.le_of_ble_eq_true rfl) fun c hc => ?_
  dsimp only [b_spinneylaw14_works, argEnv, ym, yo, yg, ys, yt, yd, ye]
  refine xr 1 rfl ?_
  refine xca rfl rfl (new_ok A.toForM) ?_
  rintro _ w1 ⟨p, m, rfl, hp, hm, hF, hu1⟩
  refine xr 1 rfl ?_
  refine xju (ok_mkL (l := [(0, 1, .int .u8 1)]) (cs := hC (hK 1)) rfl (hK_fill 1)) rfl ?_
  refine xju (ok_mkL (l := [(0, 1, .int .u8 2)]) (cs := hC (hK 2)) rfl (hK_fill 2)) rfl ?_
  refine exec_new rfl ?_
  intro b2 w2 hb2 hs2 hu2 hB2
  refine exec_new rfl ?_
  intro b3 w3 hb3 hs3 hu3 hB3
  refine exec_store (b := b2) (o := 0) (v := hV (hK 1)) rfl rfl (hB2.upd hu3) (hV_size _) (by simp [rle]) (by rw [hV_cells]; exact hC_cell _) ?_
  intro w4 hu4 _ hB24
  refine exec_store (b := b3) (o := 0) (v := hV (hK 2)) rfl rfl (hB3.upd hu4 (by simp; omega)) (hV_size _) (by simp [rle]) (by rw [hV_cells]; exact hC_cell _) ?_
  intro w5 hu5 _ hB35
  rw [hV_cells, splice_all (by simp [hC_length, rle])] at hB24 hB35
  have hB25 := hB24.upd hu5 (by simp; omega)
  have z1 := hu1.size
  have k1 := hF.lt
  have hE15 : Ext w1 w5 := ((hu2.trans hu3).trans hu4 (fun b hb => .inr (by simp at hb; omega))).trans hu5 (fun b hb => .inr (by simp at hb; omega))
  refine xr 1 rfl ?_
  refine exec_loadN (b := b2) (o := 0) (vs := hC (hK 1)) rfl rfl hB25.memAll (hC_length _) ?_
  refine exec_loadN (b := b3) (o := 0) (vs := hC (hK 2)) rfl rfl hB35.memAll (hC_length _) ?_
  refine xju (ok_mkL (l := [(0, 1, .int .u8 3)]) (cs := hC (hK 3)) rfl (hK_fill 3)) rfl ?_
  refine exec_litL (N := 32) (cs := hs [hK 1, hK 2, hK 3]) (l := [(0, 32, hV (hK 1)), (32, 32, hV (hK 2)), (64, 32, hV (hK 3))]) rfl rfl rfl rfl ?_
  intro bl w6 hbl hs6 hu6 hOl
  have hE16 := hE15.trans hu6
  have hG : Granted [] [] [hK 1, hK 2, hK 3] := ⟨by simp, by simp, by simp [hK_ne (show (1 : UInt8) ≠ 2 by decide), hK_ne (show (1 : UInt8) ≠ 3 by decide), hK_ne (show (2 : UInt8) ≠ 3 by decide)], by simp⟩
  refine xca rfl rfl (modify_ok A.toForL (hT.upd (hu1.trans hE16)) (hF.ext hE16) (del := []) (add := [hK 1, hK 2, hK 3]) (nilS _) hOl.sl (by simp) (by simp) (by simp)) ?_
  rintro v w7 (⟨e, _, hR, _⟩ | ⟨u, rfl, _, hF7, hU7, hu7⟩)
  · exact absurd hR hG.not_refused
  have ht6 := (hF.ext hE16).tabs (hT.upd (hu1.trans hE16))
  have hT7 : Tabs A.toShaF w7 := (hT.upd (hu1.trans hE16)).upd hu7 ht6.1 ht6.2
  have hmod : modL [] [hK 1, hK 2, hK 3] [] = lw1 := rfl
  rw [hmod] at hF7
  have hB27 : Blk w7 b2 (hC (hK 1)) := (hB25.upd hu6).upd hu7 (by simp; omega)
  have hB37 : Blk w7 b3 (hC (hK 2)) := (hB35.upd hu6).upd hu7 (by simp; omega)
  have hw7 : Ext w w7 := (hu1.trans hE16).trans hu7 (fun b hb => .inr (by simp at hb; rcases hb with rfl | rfl <;> omega))
  refine xr 3 rfl ?_
  refine exec_new_store (v := u) rfl rfl rfl hU7.cells.1 rfl hU7.cells.2 ?_
  intro b4 w8 hb4 hs8 hu8 hB4
  refine xr 2 rfl ?_
  refine xen [(1, ptrV p), (2, ptrV b2), (3, ptrV b3), (5, intV' 0), (23, ptrV p)] ⟨rfl, rfl, rfl, rfl, rfl, trivial⟩ ?_
  refine xca rfl rfl (stump_ok A.toForO (hF7.ext hu8)) ?_
  rintro _ w9 ⟨rv, rfl, hu9, hO9, hf9⟩
  rw [show (Fo.L ⟨lw1, _, _⟩).length = 3 from rfl, roots_lw1] at hO9
  obtain ⟨br, off, rc, rfl, _, _⟩ := rootsC_at (l := [some (parH (hK 1) (hK 2)), some (hK 3)]) (i := 0) hO9.sl rfl
  refine exec_new_store (v := .agg #[u64V 3, .slice (some ⟨br, off, none⟩) 2 rc]) rfl rfl rfl rfl rfl rfl ?_
  intro b6 w10 hb6 hs10 hu10 hB6
  have hB6' : Blk w10 b6 [u64V 3, .slice (some ⟨br, off, none⟩) 2 rc] := hB6
  have hE710 : Ext w7 w10 := (hu8.trans hu9).trans hu10
  have hO10 := hO9.upd hu10 (by simp)
  refine xr 1 rfl ?_
  refine exec_loadN (b := b2) (o := 0) (vs := hC (hK 1)) rfl rfl (hB27.upd hE710).memAll (hC_length _) ?_
  refine exec_litL (N := 32) (cs := hs [hK 1]) (l := [(0, 32, hV (hK 1))]) rfl (by rw [hash_fill]; simp [hs]) rfl rfl ?_
  intro bm w11 hbm hs11 hu11 hOm
  have hE711 := hE710.trans hu11
  have hG2 : Granted lw1 [hK 1] [] := ⟨by simp [lw1], by simp, by simp, by simp⟩
  refine xca rfl rfl (modify_ok A.toForL (hT7.upd hE711) (hF7.ext hE711) (del := [hK 1]) (add := []) hOm.sl (nilS _) (by simp [lw1]) (by simp) (by simp)) ?_
  rintro v w12 (⟨e, _, hR, _⟩ | ⟨u2, rfl, _, hF12, hU12, hu12⟩)
  · exact absurd hR hG2.not_refused
  have hmod2 : modL [hK 1] [] lw1 = lw2 := by
    simp [modL, goneL, lw1, lw2, Option.filter, hK_ne (show (2 : UInt8) ≠ 1 by decide), hK_ne (show (3 : UInt8) ≠ 1 by decide)]
  have hF12' : FAt w12 p m ⟨lw2, 2, 2⟩ := by rw [← hmod2]; exact hF12
  have ht11 := (hF7.ext hE711).tabs (hT7.upd hE711)
  have hT12 : Tabs A.toShaF w12 := (hT7.upd hE711).upd hu12 ht11.1 ht11.2
  have z7 := hE16.size
  have z711 := hE711.size
  have z67 := hu7.size
  have hB312 : Blk w12 b3 (hC (hK 2)) := (hB37.upd hE711).upd hu12 (by simp; omega)
  have hB212 : Blk w12 b2 (hC (hK 1)) := (hB27.upd hE711).upd hu12 (by simp; omega)
  have hB612 : Blk w12 b6 [u64V 3, .slice (some ⟨br, off, none⟩) 2 rc] := (hB6'.upd hu11).upd hu12 (by simp; have := hu8.size; have := hu9.size; omega)
  have hO12 := (hO10.upd hu11 (by simp)).upd hu12 (by
    intro b hb hm
    have := hf9 b hb
    have := hu8.size
    simp at hm
    omega)
  have hw12 : Ext w w12 := (hw7.trans hE711).trans hu12 (fun b hb => .inr (by simp at hb; rcases hb with rfl | rfl <;> omega))
  refine xr 3 rfl ?_
  refine exec_new_store (v := u2) rfl rfl rfl hU12.cells.1 rfl hU12.cells.2 ?_
  intro b7 w13 hb7 hs13 hu13 hB7
  refine xr 2 rfl ?_
  refine exec_loadN (b := b3) (o := 0) (vs := hC (hK 2)) rfl rfl (hB312.upd hu13).memAll (hC_length _) ?_
  refine xca rfl rfl (where_ok A.toForN (hF12'.ext hu13) (hK 2)) ?_
  rintro v w14 ⟨hu14, hcase⟩
  rcases hcase with ⟨_, hno⟩ | ⟨x, rfl, hx⟩
  · exact absurd (by simp [lw2]) hno
  have hx1 : x = 1 := by
    have hx' : lw2[x]? = some (some (hK 2)) := hx
    match x, hx' with
    | 0, h => cases h
    | 1, _ => rfl
    | 2, h => exact absurd (Option.some.inj (Option.some.inj h)).symm (hK_ne (by decide))
    | x + 3, h => simp [lw2] at h
  subst hx1
  rw [show (Fo.L ⟨lw2, 2, 2⟩).length = 3 from rfl, where_lw2]
  have hE14 : Ext w12 w14 := hu13.trans hu14
  refine xr 5 rfl ?_
  refine xen [(2, ptrV b2), (3, ptrV b3), (5, intV' 0), (6, ptrV b6), (8, intV' 0), (9, u64V 4), (10, .bool true)] ⟨rfl, rfl, rfl, rfl, rfl, rfl, rfl, trivial⟩ ?_
  refine exec_dwr rfl rfl rfl ?_
  repeat (first | refine wtm rfl rfl rfl ?_ | refine wgt rfl rfl rfl rfl ?_ | refine wgs rfl rfl ?_)
  refine ws_val rfl (pv_eqlI (a := 0) (b := 0) (q := true) rfl rfl rfl) ?_
  repeat (first | refine wtm rfl rfl rfl ?_ | refine wgt rfl rfl rfl rfl ?_ | refine wgs rfl rfl ?_)
  refine ws_gval rfl rfl (pv_eqlI (a := 0) (b := 0) (q := true) rfl rfl rfl) ?_
  repeat (first | refine wtm rfl rfl rfl ?_ | refine wgt rfl rfl rfl rfl ?_ | refine wgs rfl rfl ?_)
  refine ws_gkeep (.slice (some ⟨br, off, none⟩) 2 rc) rfl rfl (fun X hx => ok_load1 (b := b6) (o := 0 + 1) rfl ((hB612.upd (hE14.trans hx)).cell rfl)) ?_
  refine ws_gval rfl rfl (hO12.sl.lenS rfl) ?_
  refine ws_gval rfl rfl (pv_eqlI (a := 2) (b := 2) (q := true) rfl rfl rfl) ?_
  repeat (first | refine wtm rfl rfl rfl ?_ | refine wgt rfl rfl rfl rfl ?_ | refine wgs rfl rfl ?_)
  refine ws_gkeep (.slice (some ⟨br, off, none⟩) 2 rc) rfl rfl (fun X hx => ok_load1 (b := b6) (o := 0 + 1) rfl ((hB612.upd (hE14.trans hx)).cell rfl)) ?_
  obtain ⟨br2, off2, cap2, hrv2, _, hmr⟩ := rootsC_at (l := [some (parH (hK 1) (hK 2)), some (hK 3)]) (i := 0) hO12.sl rfl
  cases hrv2
  refine ws_gkeep _ rfl rfl (fun X hx => ok_iaddr (N := 33) (b := br) (o := off) (len := 2) (cap := rc) rfl rfl 0 rfl (by omega)) ?_
  repeat (first | refine wtm rfl rfl rfl ?_ | refine wgt rfl rfl rfl rfl ?_ | refine wgs rfl rfl ?_)
  have hmh : Mem w12 br (off + 0 * 33 + 1) (hC (parH (hK 1) (hK 2))) := hmr.sub 1 fun j x hj => by
    show (Value.bool true :: hC (parH (hK 1) (hK 2)))[1 + j]? = some x
    rw [Nat.add_comm, List.getElem?_cons_succ]; exact hj
  refine ws_gkeep (hV (parH (hK 1) (hK 2))) rfl rfl (fun X hx => ok_loadN (b := br) (o := off + 0 * 33 + 1) rfl (hmh.upd (hE14.trans hx) (by simp)) (hC_length _)) ?_
  refine ws_gkeep (hV (hK 1)) rfl rfl (fun X hx => ok_loadN (b := b2) (o := 0) rfl (hB212.upd (hE14.trans hx)).memAll (hC_length _)) ?_
  refine ws_gkeep (hV (hK 2)) rfl rfl (fun X hx => ok_loadN (b := b3) (o := 0) rfl (hB312.upd (hE14.trans hx)).memAll (hC_length _)) ?_
  refine ws_gext (hV (parH (hK 1) (hK 2))) rfl rfl (fun X hx => ok_call rfl (parH_ok A.toLeafF (hT12.upd (hE14.trans hx)) (hK 1) (hK 2))) ?_
  refine ws_fin fun w15 hw15 => ?_
  refine xgr rfl ?_
  refine xju (ok_eq_hash A.h_TH rfl rfl) rfl ?_
  simp only [decide_true]
  refine xr 9 rfl ?_
  refine xpu (pv_eqlI (a := 4) (b := 4) (q := true) rfl rfl rfl) rfl ?_
  refine xr 2 rfl ?_
  exact xre hc [_] ⟨rfl, trivial⟩ ⟨rfl, (hw12.trans hE14).trans hw15⟩
end
end Go.Sp


namespace Go.Sp
def posN (R r i : Nat) : Nat := beginN r R + i
/-- the place (r, i) belongs to the tree of height h -/
structure InT (n h r i : Nat) : Prop where
  le : r ≤ h
  bit : bitN n h = true
  idx : i / 2 ^ (h - r) = n / 2 ^ (h + 1) * 2
/-- a place and k places above it -/
def upsN (R : Nat) : Nat → Nat → Nat → List Nat
  | 0, r, i => [posN R r i]
  | k + 1, r, i => posN R r i :: upsN R k (r + 1) (i / 2)
theorem bit_rows {n h : Nat} (hn : n < 2 ^ 63) (hb : bitN n h = true) : h ≤ rowsN n := by
  have h1 := bitN_le hb
  have h2 := le_rows hn
  have : 2 ^ h ≤ 2 ^ rowsN n := by omega
  exact (Nat.pow_le_pow_iff_right (by omega)).1 this
theorem bit_odd {n h : Nat} (hb : bitN n h = true) : n / 2 ^ h = n / 2 ^ (h + 1) * 2 + 1 := by
  have : n / 2 ^ h % 2 = 1 := by simpa [bitN] using hb
  rw [Nat.pow_succ, ← Nat.div_div_eq_div_mul]
  omega
theorem div_step (i d : Nat) : i / 2 / 2 ^ d = i / 2 ^ (d + 1) := by rw [Nat.div_div_eq_div_mul, ← Nat.pow_succ']
theorem InT.up {n h r i : Nat} (hI : InT n h r i) (hr : r < h) : InT n h (r + 1) (i / 2) :=
  ⟨hr, hI.bit, by rw [div_step, show h - (r + 1) + 1 = h - r by omega]; exact hI.idx⟩
theorem InT.down {n h r i : Nat} (hI : InT n h (r + 1) (i / 2)) : InT n h r i := by
  have := hI.le
  refine ⟨by omega, hI.bit, ?_⟩
  have h2 := hI.idx
  rw [div_step, show h - (r + 1) + 1 = h - r by omega] at h2
  exact h2
theorem InT.lt {n h r i : Nat} (hn : n < 2 ^ 63) (hI : InT n h r i) : i < 2 ^ (rowsN n - r) := by
  have h1 := bit_rows hn hI.bit
  have h2 := hI.le
  have h3 := le_rows hn
  have h4 := bit_odd hI.bit
  have h5 := hI.idx
  have e1 : n / 2 ^ h ≤ 2 ^ (rowsN n - h) := by
    have : 2 ^ rowsN n = 2 ^ (rowsN n - h) * 2 ^ h := by rw [← Nat.pow_add]; congr 1; omega
    rw [this] at h3
    exact Nat.div_le_of_le_mul (by rw [Nat.mul_comm]; exact h3)
  have h6 : i < (i / 2 ^ (h - r) + 1) * 2 ^ (h - r) := by
    have hp : 0 < 2 ^ (h - r) := Nat.pow_pos (by omega)
    have := Nat.div_add_mod i (2 ^ (h - r))
    have := Nat.mod_lt i hp
    rw [Nat.add_mul, Nat.one_mul, Nat.mul_comm]
    omega
  have h7 : (i / 2 ^ (h - r) + 1) * 2 ^ (h - r) ≤ 2 ^ (rowsN n - h) * 2 ^ (h - r) := Nat.mul_le_mul_right _ (by omega)
  rw [← Nat.pow_add, show rowsN n - h + (h - r) = rowsN n - r by omega] at h7
  omega
theorem InT.row {n h r i : Nat} (hn : n < 2 ^ 63) (hI : InT n h r i) : rowN (posN (rowsN n) r i) (rowsN n) = some r :=
  row_posN (rowsN_le hn) (Nat.le_trans hI.le (bit_rows hn hI.bit)) (hI.lt hn)
theorem pos_inj {R r r' i i' : Nat} (hR : R ≤ 63) (h : r ≤ R) (h' : r' ≤ R) (hi : i < 2 ^ (R - r)) (hi' : i' < 2 ^ (R - r')) (he : posN R r i = posN R r' i') : r = r' ∧ i = i' := by
  have h1 := row_posN hR h hi
  have h2 := row_posN hR h' hi'
  unfold posN at he
  rw [he, h2] at h1
  have : r = r' := (Option.some.inj h1).symm
  subst this
  exact ⟨rfl, by omega⟩
theorem InT.inj {n h h' r r' i i' : Nat} (hn : n < 2 ^ 63) (hI : InT n h r i) (hI' : InT n h' r' i') (he : posN (rowsN n) r i = posN (rowsN n) r' i') : r = r' ∧ i = i' :=
  pos_inj (rowsN_le hn) (Nat.le_trans hI.le (bit_rows hn hI.bit)) (Nat.le_trans hI'.le (bit_rows hn hI'.bit)) (hI.lt hn) (hI'.lt hn) he
theorem root_iff {n r i : Nat} (hn : n < 2 ^ 63) : rootN n r = some (posN (rowsN n) r i) ↔ InT n r r i := by
  constructor
  · intro h
    unfold rootN at h
    split at h
    · rename_i hc
      have h2 := Option.some.inj h
      simp only [posN] at h2
      exact ⟨Nat.le_refl _, hc.2.2, by rw [Nat.sub_self, Nat.pow_zero, Nat.div_one]; omega⟩
    · cases h
  · intro h
    unfold rootN
    rw [if_pos ⟨hn, bit_rows hn h.bit, h.bit⟩]
    have := h.idx
    rw [Nat.sub_self, Nat.pow_zero, Nat.div_one] at this
    rw [posN, this]
/-- a place is in one tree alone -/
theorem InT.uniq {n h h' r i : Nat} (hI : InT n h r i) (hI' : InT n h' r i) : h = h' := by
  have key : ∀ {h h' : Nat}, InT n h r i → InT n h' r i → h < h' → False := by
    intro h h' hI hI' hlt
    have h1 := hI.idx
    have h2 := hI'.idx
    have h3 := hI.le
    have e1 : i / 2 ^ (h' - r) = i / 2 ^ (h - r) / 2 ^ (h' - h) := by
      rw [Nat.div_div_eq_div_mul, ← Nat.pow_add]; congr 2; omega
    have e2 : n / 2 ^ (h + 1) * 2 / 2 ^ (h' - h) = n / 2 ^ h' := by
      obtain ⟨d, rfl⟩ : ∃ d, h' = h + 1 + d := ⟨h' - h - 1, by omega⟩
      generalize hx : n / 2 ^ (h + 1) = x
      rw [show h + 1 + d - h = d + 1 by omega, Nat.pow_succ', ← Nat.div_div_eq_div_mul, Nat.mul_div_cancel _ (by omega), ← hx, Nat.div_div_eq_div_mul, ← Nat.pow_add]
    rw [e1, h1, e2, bit_odd hI'.bit] at h2
    omega
  rcases Nat.lt_trichotomy h h' with hlt | he | hlt
  · exact (key hI hI' hlt).elim
  · exact he
  · exact (key hI' hI hlt).elim
theorem wayCut_ups {n : Nat} (hn : n < 2 ^ 63) : ∀ (k r i h : Nat), InT n h r i → h ≤ r + k → wayCut n r (upsN (rowsN n) k r i) = some (upsN (rowsN n) (h - r) r i) := by
  intro k
  induction k with
  | zero =>
    intro r i h hI hk
    have : h = r := by have := hI.le; omega
    subst this
    simp only [upsN, wayCut]
    rw [if_pos ((root_iff hn).2 hI), Nat.sub_self]; rfl
  | succ k ih =>
    intro r i h hI hk
    simp only [upsN, wayCut]
    by_cases hr : h = r
    · subst hr
      rw [if_pos ((root_iff hn).2 hI), Nat.sub_self]; rfl
    · have hlt : r < h := by have := hI.le; omega
      rw [if_neg (fun hx => by have := ((root_iff hn).1 hx).uniq hI; omega), ih (r + 1) (i / 2) h (hI.up hlt) (by omega)]
      rw [show h - r = h - (r + 1) + 1 by omega]; rfl
theorem wayCut_some {n : Nat} (hn : n < 2 ^ 63) : ∀ (k r i : Nat) (l : List Nat), wayCut n r (upsN (rowsN n) k r i) = some l → ∃ h, InT n h r i := by
  intro k
  induction k with
  | zero =>
    intro r i l h
    simp only [upsN, wayCut] at h
    split at h
    · exact ⟨r, (root_iff hn).1 ‹_›⟩
    · cases h
  | succ k ih =>
    intro r i l h
    simp only [upsN, wayCut] at h
    split at h
    · exact ⟨r, (root_iff hn).1 ‹_›⟩
    · obtain ⟨l', h', _⟩ := Option.map_eq_some_iff.1 h
      obtain ⟨h, hI⟩ := ih _ _ _ h'
      exact ⟨h, hI.down⟩
theorem chain_ups {R : Nat} (hR : R ≤ 63) : ∀ (f r i : Nat), r ≤ R → i < 2 ^ (R - r) → R - r ≤ f → chainN f R (posN R r i) = upsN R (R - r) r i := by
  intro f
  induction f with
  | zero =>
    intro r i hr hi hf
    rw [show R - r = 0 by omega]; rfl
  | succ f ih =>
    intro r i hr hi hf
    simp only [chainN]
    rcases Nat.lt_or_ge r R with hlt | hge
    · unfold posN
      rw [parent_posN hR hlt hi]
      simp only
      have hi2 : i / 2 < 2 ^ (R - (r + 1)) := by
        have : 2 ^ (R - r) = 2 * 2 ^ (R - (r + 1)) := by rw [← Nat.pow_succ']; congr 1; omega
        omega
      have := ih (r + 1) (i / 2) hlt hi2 (by omega)
      unfold posN at this
      rw [this, show R - r = R - (r + 1) + 1 by omega]; rfl
    · have : r = R := by omega
      subst this
      unfold posN
      rw [parent_none hR rfl hi, Nat.sub_self]; rfl
theorem InT.way {n h r i : Nat} (hn : n < 2 ^ 63) (hI : InT n h r i) : wayN n (posN (rowsN n) r i) = upsN (rowsN n) (h - r) r i := by
  have hR := rowsN_le hn
  have hh := bit_rows hn hI.bit
  have hle := hI.le
  unfold wayN
  rw [if_pos hn, hI.row hn]
  simp only
  rw [chain_ups hR 64 r i (by omega) (hI.lt hn) (by omega), wayCut_ups hn (rowsN n - r) r i h hI (by omega)]; rfl
theorem ups_last (R : Nat) : ∀ (k r i : Nat), (upsN R k r i).getLast? = some (posN R (r + k) (i / 2 ^ k)) := by
  intro k
  induction k with
  | zero => intro r i; simp [upsN]
  | succ k ih =>
    intro r i
    rw [upsN, List.getLast?_cons, ih, div_step]
    simp [Nat.add_assoc, Nat.add_comm 1 k]
theorem mem_ups {R : Nat} : ∀ {k r i q : Nat}, q ∈ upsN R k r i ↔ ∃ j, j ≤ k ∧ q = posN R (r + j) (i / 2 ^ j) := by
  intro k
  induction k with
  | zero =>
    intro r i q
    simp only [upsN, List.mem_singleton]
    constructor
    · rintro rfl; exact ⟨0, Nat.le_refl _, by simp⟩
    · rintro ⟨j, hj, rfl⟩
      have : j = 0 := by omega
      subst this; simp
  | succ k ih =>
    intro r i q
    simp only [upsN, List.mem_cons, ih]
    constructor
    · rintro (rfl | ⟨j, hj, rfl⟩)
      · exact ⟨0, by omega, by simp⟩
      · exact ⟨j + 1, by omega, by rw [div_step]; congr 1; omega⟩
    · rintro ⟨j, hj, rfl⟩
      cases j with
      | zero => left; simp
      | succ j => right; exact ⟨j, by omega, by rw [div_step]; congr 1; omega⟩
theorem InT.tree {n h r i : Nat} (hn : n < 2 ^ 63) (hI : InT n h r i) : treeN n (posN (rowsN n) r i) = some h := by
  have hh := bit_rows hn hI.bit
  have hle := hI.le
  unfold treeN
  rw [hI.way hn, ups_last]
  simp only
  have hroot : InT n h h (i / 2 ^ (h - r)) := ⟨Nat.le_refl _, hI.bit, by rw [Nat.sub_self, Nat.pow_zero, Nat.div_one]; exact hI.idx⟩
  rw [show r + (h - r) = h by omega]
  exact hroot.row hn
theorem pos_of_row {p R r : Nat} (hR : R ≤ 63) (h : rowN p R = some r) : ∃ i, p = posN R r i ∧ r ≤ R ∧ i < 2 ^ (R - r) := by
  have h1 := (rowN_iff hR).1 h
  exact ⟨p - beginN r R, by unfold posN; omega, h1.1, by omega⟩
theorem way_in {n p : Nat} (hw : wayN n p ≠ []) : n < 2 ^ 63 ∧ ∃ h r i, p = posN (rowsN n) r i ∧ InT n h r i := by
  unfold wayN at hw
  split at hw
  · rename_i hn
    refine ⟨hn, ?_⟩
    split at hw
    · exact absurd rfl hw
    · rename_i r hr
      obtain ⟨i, rfl, h1, h2⟩ := pos_of_row (rowsN_le hn) hr
      rw [chain_ups (rowsN_le hn) 64 r i h1 h2 (by have := rowsN_le hn; omega)] at hw
      cases hc : wayCut n r (upsN (rowsN n) (rowsN n - r) r i) with
      | none => rw [hc] at hw; exact absurd rfl hw
      | some l =>
        obtain ⟨h, hI⟩ := wayCut_some hn _ _ _ _ hc
        exact ⟨h, r, i, rfl, hI⟩
  · exact absurd rfl hw
theorem tree_in {n p h : Nat} (ht : treeN n p = some h) : n < 2 ^ 63 ∧ ∃ r i, p = posN (rowsN n) r i ∧ InT n h r i := by
  have hw : wayN n p ≠ [] := (treeN_bit ht).2.2
  obtain ⟨hn, h', r, i, rfl, hI⟩ := way_in hw
  rw [hI.tree hn] at ht
  cases ht
  exact ⟨hn, r, i, rfl, hI⟩
/-! ### the neighbours of a place -/
theorem begin_even {R r : Nat} (h : r ≤ R) : beginN r R % 2 = 0 := by
  unfold beginN
  have e1 : (2 : Nat) ^ (R + 1) = 2 * 2 ^ R := by rw [Nat.pow_succ]; omega
  have e2 := two_pow_split h
  rw [e1, e2]; omega
def sibI (i : Nat) : Nat := if i % 2 = 0 then i + 1 else i - 1
theorem sibI_half (i : Nat) : sibI i / 2 = i / 2 := by unfold sibI; split <;> omega
theorem InT.parent {n h r i : Nat} (hn : n < 2 ^ 63) (hI : InT n h r i) (hr : r < h) : parentN (posN (rowsN n) r i) (rowsN n) = some (posN (rowsN n) (r + 1) (i / 2)) :=
  parent_posN (rowsN_le hn) (by have := bit_rows hn hI.bit; omega) (hI.lt hn)
theorem InT.sib {n h r i : Nat} (hI : InT n h r i) (hr : r < h) : InT n h r (sibI i) := by
  have := hI.up hr
  rw [← sibI_half] at this
  exact this.down
theorem sibN_add {b i : Nat} (hb : b % 2 = 0) : sibN (b + i) = b + sibI i := by
  unfold sibN sibI
  by_cases hi : i % 2 = 0
  · have h2 : (b + i) % 2 = 0 := by omega
    rw [if_pos hi, if_pos h2]; omega
  · have h2 : ¬ (b + i) % 2 = 0 := by omega
    rw [if_neg hi, if_neg h2]; omega
theorem InT.sibling {n h r i : Nat} (hn : n < 2 ^ 63) (hI : InT n h r i) (hr : r < h) : siblingN (posN (rowsN n) r i) (rowsN n) = some (posN (rowsN n) r (sibI i)) := by
  unfold siblingN
  rw [hI.parent hn hr]
  have hb := begin_even (R := rowsN n) (r := r) (by have := bit_rows hn hI.bit; have := hI.le; omega)
  exact congrArg some (sibN_add hb)
theorem InT.isRoot {n h r i : Nat} (hn : n < 2 ^ 63) (hI : InT n h r i) : isRootN n (posN (rowsN n) r i) = decide (r = h) := by
  have hroot : InT n h h (i / 2 ^ (h - r)) := ⟨Nat.le_refl _, hI.bit, by rw [Nat.sub_self, Nat.pow_zero, Nat.div_one]; exact hI.idx⟩
  have hx : (rootN n ((treeN n (posN (rowsN n) r i)).getD 0)).getD 0 = posN (rowsN n) h (i / 2 ^ (h - r)) := by
    rw [hI.tree hn]
    simp only [Option.getD_some]
    rw [(root_iff hn).2 hroot]; rfl
  unfold isRootN
  simp only [hx, decide_eq_decide]
  constructor
  · intro he; exact (hroot.inj hn hI he).1.symm
  · rintro rfl; rw [Nat.sub_self, Nat.pow_zero, Nat.div_one]
/-! ### plans -/
theorem mem_keys {m : List (Nat × Nat)} {q : Nat} : q ∈ keys m ↔ ∃ c, aget q m = some c := by
  induction m with
  | nil => simp [keys, aget]
  | cons a m ih =>
    obtain ⟨x, y⟩ := a
    simp only [keys, List.map_cons, List.mem_cons] at ih ⊢
    by_cases h : x = q
    · subst h; simp [aget]
    · have hq : ¬ q = x := fun he => h he.symm
      have : aget q ((x, y) :: m) = aget q m := by simp [aget, h]
      rw [this, ← ih]; simp [hq]
theorem keys_aset {m : List (Nat × Nat)} {p c q : Nat} : q ∈ keys (aset p c m) ↔ q ∈ keys m ∨ q = p := by
  rw [mem_keys, mem_keys]
  constructor
  · rintro ⟨x, hx⟩
    rw [aget_set] at hx
    split at hx
    · right; assumption
    · exact .inl ⟨x, hx⟩
  · rintro (⟨x, hx⟩ | rfl)
    · by_cases h : q = p
      · exact ⟨c, by rw [aget_set, if_pos h]⟩
      · exact ⟨x, by rw [aget_set, if_neg h]; exact hx⟩
    · exact ⟨c, by rw [aget_set, if_pos rfl]⟩
theorem aset_len (p c : Nat) (m : List (Nat × Nat)) : (aset p c m).length ≤ m.length + 1 := by
  cases h : aidx p m with
  | none => rw [aset_new h]; simp
  | some k => rw [aset_some h]; simp
theorem ups_above {n h r i q : Nat} (hn : n < 2 ^ 63) (hI : InT n h r i) (hq : q ∈ wayN n (posN (rowsN n) r i)) : ∃ j, j ≤ h - r ∧ q = posN (rowsN n) (r + j) (i / 2 ^ j) ∧ InT n h (r + j) (i / 2 ^ j) ∧ wayN n q = upsN (rowsN n) (h - r - j) (r + j) (i / 2 ^ j) := by
  rw [hI.way hn, mem_ups] at hq
  obtain ⟨j, hj, rfl⟩ := hq
  have hI' : InT n h (r + j) (i / 2 ^ j) := ⟨by have := hI.le; omega, hI.bit, by
    rw [Nat.div_div_eq_div_mul, ← Nat.pow_add, show j + (h - (r + j)) = h - r by omega]; exact hI.idx⟩
  exact ⟨j, hj, rfl, hI', by rw [hI'.way hn, Nat.sub_add_eq]⟩
/-- the way of what is on a way is part of it -/
theorem way_sub {n p q q' : Nat} (hq : q ∈ wayN n p) (hq' : q' ∈ wayN n q) : q' ∈ wayN n p := by
  have hne : wayN n p ≠ [] := by intro he; rw [he] at hq; simp at hq
  obtain ⟨hn, h, r, i, rfl, hI⟩ := way_in hne
  obtain ⟨j, hj, rfl, hI', hw⟩ := ups_above hn hI hq
  obtain ⟨j', hj', rfl, _, _⟩ := ups_above hn hI' hq'
  rw [hI.way hn, mem_ups]
  exact ⟨j + j', by omega, by rw [Nat.div_div_eq_div_mul, ← Nat.pow_add, Nat.add_assoc]⟩
/-- what is strictly above what is on a way is not the way's begin -/
theorem way_above {n p q q' : Nat} (hq : q ∈ wayN n p) (hq' : q' ∈ wayN n q) (hne : q' ≠ q) : q' ≠ p := by
  have hne0 : wayN n p ≠ [] := by intro he; rw [he] at hq; simp at hq
  obtain ⟨hn, h, r, i, rfl, hI⟩ := way_in hne0
  obtain ⟨j, hj, rfl, hI', hw⟩ := ups_above hn hI hq
  obtain ⟨j', hj', rfl, hI2, _⟩ := ups_above hn hI' hq'
  intro he
  have := (hI2.inj hn hI he).1
  have hj0 : j = 0 ∧ j' = 0 := by omega
  obtain ⟨rfl, rfl⟩ := hj0
  exact hne (by simp)
def posM (m : List (Nat × Nat)) : Prop := ∀ q c, aget q m = some c → 1 ≤ c
theorem addWay_spec {n : Nat} (hn : n < 2 ^ 63) {T : List Nat} {t : Nat} : ∀ (k r i h : Nat) (m : List (Nat × Nat)), InT n h r i → k = h - r →
    (∀ q ∈ upsN (rowsN n) k r i, q ∈ keys m → ∀ q' ∈ wayN n q, q' ∈ keys m) → (∀ q ∈ upsN (rowsN n) k r i, q ∈ keys m → ∀ q' ∈ wayN n q, q' ≠ q → q' ∉ T) → posM m →
    match addWay T t (upsN (rowsN n) k r i) m with
    | none => ∃ q ∈ upsN (rowsN n) k r i, q ≠ t ∧ q ∈ T
    | some m' => (∀ q ∈ upsN (rowsN n) k r i, q ≠ t → q ∉ T) ∧ (∀ q, q ∈ keys m' ↔ q ∈ keys m ∨ q ∈ upsN (rowsN n) k r i) ∧ posM m' ∧ m'.length ≤ m.length + (k + 1) ∧ ((keys m).Nodup → (keys m').Nodup) := by
  intro k
  induction k with
  | zero =>
    intro r i h m hI hk hcl hd hp
    simp only [upsN, addWay]
    by_cases hc : posN (rowsN n) r i ≠ t ∧ posN (rowsN n) r i ∈ T
    · rw [if_pos hc]
      exact ⟨_, by simp, hc⟩
    · rw [if_neg hc]
      have hpp : posM (aset (posN (rowsN n) r i) ((aget (posN (rowsN n) r i) m).getD 0 + 1) m) := by
        intro q c hq
        rw [aget_set] at hq
        split at hq
        · have := Option.some.inj hq; omega
        · exact hp q c hq
      have hres : (∀ q ∈ [posN (rowsN n) r i], q ≠ t → q ∉ T) ∧ (∀ q, q ∈ keys (aset (posN (rowsN n) r i) ((aget (posN (rowsN n) r i) m).getD 0 + 1) m) ↔ q ∈ keys m ∨ q ∈ [posN (rowsN n) r i]) ∧ posM (aset (posN (rowsN n) r i) ((aget (posN (rowsN n) r i) m).getD 0 + 1) m) ∧ (aset (posN (rowsN n) r i) ((aget (posN (rowsN n) r i) m).getD 0 + 1) m).length ≤ m.length + (0 + 1) ∧ ((keys m).Nodup → (keys (aset (posN (rowsN n) r i) ((aget (posN (rowsN n) r i) m).getD 0 + 1) m)).Nodup) := by
        refine ⟨fun q hq hne hT => ?_, fun q => ?_, hpp, aset_len _ _ _, fun h => nodup_set h⟩
        · have : q = posN (rowsN n) r i := by simpa using hq
          subst this
          exact hc ⟨hne, hT⟩
        · rw [keys_aset]; simp
      split
      · rename_i heq
        split at heq <;> cases heq
      · rename_i m' heq
        have : m' = aset (posN (rowsN n) r i) ((aget (posN (rowsN n) r i) m).getD 0 + 1) m := by
          split at heq
          · exact (Option.some.inj heq).symm
          · exact (Option.some.inj heq).symm
        subst this
        exact hres
  | succ k ih =>
    intro r i h m hI hk hcl hd hp
    simp only [upsN, addWay]
    have hrh : r < h := by omega
    by_cases hc : posN (rowsN n) r i ≠ t ∧ posN (rowsN n) r i ∈ T
    · rw [if_pos hc]
      exact ⟨_, by simp, hc⟩
    rw [if_neg hc]
    have hpp : posM (aset (posN (rowsN n) r i) ((aget (posN (rowsN n) r i) m).getD 0 + 1) m) := by
      intro q c hq
      rw [aget_set] at hq
      split at hq
      · have := Option.some.inj hq; omega
      · exact hp q c hq
    have hway : wayN n (posN (rowsN n) r i) = posN (rowsN n) r i :: upsN (rowsN n) k (r + 1) (i / 2) := by rw [hI.way hn, ← hk]; rfl
    have habove : ∀ q ∈ upsN (rowsN n) k (r + 1) (i / 2), q ≠ posN (rowsN n) r i := by
      intro q hq he
      obtain ⟨j, hj, rfl⟩ := mem_ups.1 hq
      have hI2 : InT n h (r + 1) (i / 2) := hI.up hrh
      have hm : posN (rowsN n) (r + 1 + j) (i / 2 / 2 ^ j) ∈ wayN n (posN (rowsN n) (r + 1) (i / 2)) := by
        rw [hI2.way hn, mem_ups]; exact ⟨j, by omega, rfl⟩
      obtain ⟨j', _, he', hI3, _⟩ := ups_above hn hI2 hm
      rw [he'] at he
      have := (hI3.inj hn hI he).1
      omega
    by_cases hc2 : (aget (posN (rowsN n) r i) m).getD 0 + 1 > 1
    · rw [if_pos hc2]
      have hin : posN (rowsN n) r i ∈ keys m := by
        rw [mem_keys]
        cases hx : aget (posN (rowsN n) r i) m with
        | none => rw [hx] at hc2; simp at hc2
        | some c => exact ⟨c, rfl⟩
      refine ⟨fun q hq hne hT => ?_, fun q => ?_, hpp, by have := aset_len (posN (rowsN n) r i) ((aget (posN (rowsN n) r i) m).getD 0 + 1) m; omega, fun h => nodup_set h⟩
      · rcases List.mem_cons.1 hq with rfl | hq
        · exact hc ⟨hne, hT⟩
        · exact hd _ (by simp [upsN]) hin q (by rw [hway]; simp [hq]) (habove q hq) hT
      · rw [keys_aset]
        constructor
        · rintro (h | rfl)
          · exact .inl h
          · exact .inl hin
        · rintro (h | h)
          · exact .inl h
          · exact .inl (hcl _ (by simp [upsN]) hin q (by rw [hway]; exact h))
    · rw [if_neg hc2]
      have hnin : posN (rowsN n) r i ∉ keys m := by
        rw [mem_keys]
        rintro ⟨c, hx⟩
        have := hp _ _ hx
        rw [hx] at hc2; simp at hc2; omega
      have := ih (r + 1) (i / 2) h (aset (posN (rowsN n) r i) ((aget (posN (rowsN n) r i) m).getD 0 + 1) m) (hI.up hrh) (by omega) (fun q hq hk q' hq' => ?_) (fun q hq hk q' hq' hne => ?_) hpp
      · split at this
        · obtain ⟨q, h1, h2⟩ := this
          exact ⟨q, by simp [h1], h2⟩
        · rename_i m' heq
          obtain ⟨h1, h2, h3, h4, h5⟩ := this
          refine ⟨fun q hq hne => ?_, fun q => ?_, h3, by have := aset_len (posN (rowsN n) r i) ((aget (posN (rowsN n) r i) m).getD 0 + 1) m; omega, fun h => h5 (nodup_set h)⟩
          · rcases List.mem_cons.1 hq with rfl | hq
            · exact fun hT => hc ⟨hne, hT⟩
            · exact h1 q hq hne
          · rw [h2, keys_aset, List.mem_cons]
            constructor
            · rintro ((h | h) | h)
              · exact .inl h
              · exact .inr (.inl h)
              · exact .inr (.inr h)
            · rintro (h | h | h)
              · exact .inl (.inl h)
              · exact .inl (.inr h)
              · exact .inr h
      · rw [keys_aset] at hk ⊢
        rcases hk with hk | hk
        · exact .inl (hcl q (by simp [upsN, hq]) hk q' hq')
        · exact absurd hk (habove q hq)
      · rw [keys_aset] at hk
        rcases hk with hk | hk
        · exact hd q (by simp [upsN, hq]) hk q' hq' hne
        · exact absurd hk (habove q hq)
/-- targets that may be -/
structure Fine (n : Nat) (T : List Nat) : Prop where
  tree : ∀ t ∈ T, (treeN n t).isSome = true
  once : T.Nodup
  free : ∀ t ∈ T, ∀ q ∈ wayN n t, q ≠ t → q ∉ T
theorem addWays_spec {n : Nat} (hn : n < 2 ^ 63) {T : List Nat} : ∀ (ts : List Nat) (m : List (Nat × Nat)), (∀ t ∈ ts, (treeN n t).isSome = true) →
    (∀ q ∈ keys m, ∀ q' ∈ wayN n q, q' ∈ keys m) → (∀ q ∈ keys m, ∀ q' ∈ wayN n q, q' ≠ q → q' ∉ T) → posM m → (keys m).Nodup →
    match addWays n T ts m with
    | none => ∃ t ∈ ts, ∃ q ∈ wayN n t, q ≠ t ∧ q ∈ T
    | some m' => (∀ t ∈ ts, ∀ q ∈ wayN n t, q ≠ t → q ∉ T) ∧ (∀ q, q ∈ keys m' ↔ q ∈ keys m ∨ ∃ t ∈ ts, q ∈ wayN n t) ∧ posM m' ∧ m'.length ≤ m.length + 65 * ts.length ∧ (keys m').Nodup := by
  intro ts
  induction ts with
  | nil =>
    intro m _ h1 h2 h3 h4
    simp only [addWays]
    exact ⟨by simp, by simp, h3, by simp, h4⟩
  | cons t ts ih =>
    intro m ht h1 h2 h3 h4
    obtain ⟨h, hh⟩ := Option.isSome_iff_exists.1 (ht t (by simp))
    obtain ⟨_, r, i, rfl, hI⟩ := tree_in hh
    have hs := addWay_spec hn (T := T) (t := posN (rowsN n) r i) (h - r) r i h m hI rfl (fun q _ hk => h1 q hk) (fun q _ hk => h2 q hk) h3
    rw [← hI.way hn] at hs
    simp only [addWays]
    split at hs
    · rename_i heq
      simp only [heq]
      obtain ⟨q, g1, g2⟩ := hs
      exact ⟨_, by simp, q, g1, g2⟩
    · rename_i m' heq
      simp only [heq]
      obtain ⟨g1, g2, g3, g4, g5⟩ := hs
      have hlen : h - r + 1 ≤ 65 := by
        have := bit_rows hn hI.bit
        have := rowsN_le hn
        omega
      have := ih m' (fun t' ht' => ht t' (by simp [ht'])) (fun q hq q' hq' => ?_) (fun q hq q' hq' hne => ?_) g3 (g5 h4)
      · split at this
        · obtain ⟨t', k1, k2⟩ := this
          exact ⟨t', by simp [k1], k2⟩
        · rename_i m2 heq2
          obtain ⟨k1, k2, k3, k4, k5⟩ := this
          refine ⟨fun t' ht' => ?_, fun q => ?_, k3, by simp only [List.length_cons]; omega, k5⟩
          · rcases List.mem_cons.1 ht' with rfl | ht'
            · exact g1
            · exact k1 t' ht'
          · rw [k2, g2]
            constructor
            · rintro ((h | h) | ⟨t', h, h'⟩)
              · exact .inl h
              · exact .inr ⟨_, by simp, h⟩
              · exact .inr ⟨t', by simp [h], h'⟩
            · rintro (h | ⟨t', h, h'⟩)
              · exact .inl (.inl h)
              · rcases List.mem_cons.1 h with rfl | h
                · exact .inl (.inr h')
                · exact .inr ⟨t', h, h'⟩
      · rw [g2] at hq ⊢
        rcases hq with hq | hq
        · exact .inl (h1 q hq q' hq')
        · exact .inr (way_sub hq hq')
      · rw [g2] at hq
        rcases hq with hq | hq
        · exact h2 q hq q' hq' hne
        · exact g1 q' (way_sub hq hq') (way_above hq hq' hne)
structure Made (n : Nat) (T : List Nat) (m : List (Nat × Nat)) : Prop where
  n63 : n < 2 ^ 63
  fine : Fine n T
  mem : ∀ q, q ∈ keys m ↔ ∃ t ∈ T, q ∈ wayN n t
  pos : posM m
  len : m.length ≤ 65 * T.length
  once : (keys m).Nodup
theorem made_some {n : Nat} {T : List Nat} {m : List (Nat × Nat)} (h : madeN n T = some m) : Made n T m := by
  unfold madeN at h
  split at h
  · rename_i hc
    have := addWays_spec hc.1 (T := T) T [] hc.2.1 (by simp [keys]) (by simp [keys]) (by intro q c h; simp [aget] at h) (by simp [keys])
    rw [h] at this
    obtain ⟨h1, h2, h3, h4, h5⟩ := this
    exact ⟨hc.1, ⟨hc.2.1, hc.2.2, h1⟩, fun q => by rw [h2]; simp [keys], h3, by simpa using h4, h5⟩
  · cases h
/-! ### what is needed -/
theorem Made.zero {n : Nat} {T : List Nat} {m : List (Nat × Nat)} (h : Made n T m) (q : Nat) : (aget q m).getD 0 = 0 ↔ ¬ ∃ t ∈ T, q ∈ wayN n t := by
  rw [← h.mem, mem_keys]
  cases hq : aget q m with
  | none => simp
  | some c => have := h.pos q c hq; simp; omega
theorem sortN_mem {l : List Nat} {x : Nat} : x ∈ sortN l ↔ x ∈ l := (sortN_perm l).mem_iff
structure Needed (n : Nat) (T N : List Nat) : Prop where
  mem : ∀ q, q ∈ N ↔ ∃ h r i, InT n h r i ∧ r < h ∧ (∃ t ∈ T, posN (rowsN n) r i ∈ wayN n t) ∧ (¬ ∃ t ∈ T, posN (rowsN n) r (sibI i) ∈ wayN n t) ∧ q = posN (rowsN n) r (sibI i)
  once : N.Nodup
  sorted : N.Pairwise (· ≤ ·)
  len : N.length ≤ 65 * T.length
theorem needFold_len {n : Nat} {m : List (Nat × Nat)} : ∀ (l : List Nat) (acc : List (Nat × Nat)), (l.foldl (needStep n m) acc).length ≤ acc.length + l.length := by
  intro l
  induction l with
  | nil => intro acc; simp
  | cons p l ih =>
    intro acc
    simp only [List.foldl_cons, List.length_cons]
    have h1 := ih (needStep n m acc p)
    have h2 : (needStep n m acc p).length ≤ acc.length + 1 := by
      unfold needStep
      split
      · omega
      · split
        · exact aset_len _ _ _
        · omega
    omega
theorem need_some {n : Nat} {T N : List Nat} (h : needN n T = some N) : (∃ m, Made n T m) ∧ Needed n T N := by
  unfold needN at h
  obtain ⟨m, hm, rfl⟩ := Option.map_eq_some_iff.1 h
  have hM := made_some hm
  have hn := hM.n63
  have hnd := needFold_nodup (n := n) (m := m) (keys m) [] (by simp [keys])
  refine ⟨⟨m, hM⟩, fun q => ?_, ?_, sortN_sorted _, ?_⟩
  · rw [sortN_mem, needFold_keys]
    simp only [keys, List.map_nil, List.not_mem_nil, false_or]
    constructor
    · rintro ⟨p, hp, h1, rfl⟩
      obtain ⟨t, ht, hpt⟩ := (hM.mem p).1 hp
      obtain ⟨h', hh⟩ := Option.isSome_iff_exists.1 (hM.fine.tree t ht)
      obtain ⟨_, r, i, rfl, hI⟩ := tree_in hh
      obtain ⟨j, hj, rfl, hI', _⟩ := ups_above hn hI hpt
      simp only [needs, Bool.and_eq_true, Bool.not_eq_true', beq_iff_eq] at h1
      obtain ⟨h2, h3⟩ := h1
      rw [hI'.isRoot hn] at h2
      have hlt : r + j < h' := by have := hI'.le; have : ¬ r + j = h' := by simpa using h2
                                  omega
      rw [hI'.sibling hn hlt] at h3 ⊢
      simp only [Option.getD_some] at h3 ⊢
      exact ⟨h', r + j, i / 2 ^ j, hI', hlt, ⟨_, ht, hpt⟩, (hM.zero _).1 h3, rfl⟩
    · rintro ⟨h', r, i, hI, hlt, hon, hoff, rfl⟩
      refine ⟨posN (rowsN n) r i, (hM.mem _).2 hon, ?_, by rw [hI.sibling hn hlt]; rfl⟩
      simp only [needs, Bool.and_eq_true, Bool.not_eq_true', beq_iff_eq]
      refine ⟨by rw [hI.isRoot hn]; simp; omega, ?_⟩
      rw [hI.sibling hn hlt]
      exact (hM.zero _).2 hoff
  · exact ((sortN_perm _).nodup_iff).2 hnd
  · rw [(sortN_perm _).length_eq]
    have h1 := needFold_len (n := n) (m := m) (keys m) []
    simp only [keys, List.length_map, List.length_nil] at h1 ⊢
    have := hM.len
    omega
theorem Needed.lt {n : Nat} {T N : List Nat} (hn : n < 2 ^ 63) (h : Needed n T N) {q : Nat} (hq : q ∈ N) : q < 2 ^ 64 := by
  obtain ⟨h', r, i, hI, hlt, _, _, rfl⟩ := (h.mem q).1 hq
  have hI2 := hI.sib hlt
  have h1 := (rowN_le (hI2.row hn) (rowsN_le hn)).2
  have : (2 : Nat) ^ (rowsN n + 1) ≤ 2 ^ 64 := Nat.pow_le_pow_right (by omega) (by have := rowsN_le hn; omega)
  omega
end Go.Sp

namespace Go.Sp
theorem whereN_lt {R : Nat} : ∀ (t : Tr Hash) (p x : Nat), p < 2 ^ (R + 1) + 1 → whereN R t p x < 2 ^ (R + 1) + 1 := by
  intro t
  induction t with
  | leaf h => intro p x hp; exact hp
  | pair h l r m ihl ihr =>
    intro p x hp
    have := leftN_lt (p := p) (rows := R)
    simp only [whereN]
    split
    · exact ihl _ _ (by omega)
    · exact ihr _ _ (by omega)
theorem whereT_lt {ts : List (TT Hash)} {n x : Nat} (hn : n < 2 ^ 40) : whereT ts n x < 2 ^ 42 := by
  have h1 := rowsN_40 hn
  have h2 := pow41 h1
  unfold whereT
  split
  · rename_i t _ h _
    have h3 : (rootN n h).getD 0 < 2 ^ (rowsN n + 1) + 1 := by
      cases hq : rootN n h with
      | none => simp
      | some q => have := rootN_lt hq; simp; omega
    have := whereN_lt (R := rowsN n) t _ x h3
    omega
  · decide
/-- the number of a live leaf -/
def numL (L : List (Option Hash)) (h : Hash) : Nat := L.idxOf (some h)
theorem FAt.num {w : World} {p m : Nat} {s : Fo} (h : FAt w p m s) {x : Nat} {a : Hash} (hx : s.L[x]? = some (some a)) : x = numL s.L a := by
  have hm : some a ∈ s.L := List.mem_of_getElem? hx
  have hlt := List.idxOf_lt_length_of_mem hm
  have : s.L[numL s.L a]? = some (some a) := by
    rw [numL, List.getElem?_eq_getElem hlt, List.getElem_idxOf hlt]
  obtain ⟨⟨tv, wl, h1, h2, h3, h4⟩, _⟩ := h
  have := ((h4 a x).2 hx).symm.trans ((h4 a _).2 this)
  exact Option.some.inj this
/-- where a leaf stands -/
def spotL (L : List (Option Hash)) (h : Hash) : Nat := whereT (treesT parH (lv L) L.length) L.length (numL L h)
/-- the hash that stands at a place -/
def hashL (L : List (Option Hash)) (q : Nat) : Hash := ((nodeN parH (lv L) L.length q).map Tr.hash).getD hZ
/-- the proof of leaves: its targets, its hashes -/
def proofT (L : List (Option Hash)) (l : List Hash) : List Nat := l.map (spotL L)
def proofN (L : List (Option Hash)) (l : List Hash) : List Nat := (needN L.length (proofT L l)).getD []
def proofH (L : List (Option Hash)) (l : List Hash) : List Hash := (proofN L l).map (hashL L)
theorem proofN_len {L : List (Option Hash)} {l : List Hash} (hl : l.length < 2 ^ 20) : (proofN L l).length < 2 ^ 30 := by
  unfold proofN
  cases h : needN L.length (proofT L l) with
  | none => simp
  | some N =>
    have := (need_some h).2.len
    simp only [Option.getD_some]
    have : (proofT L l).length = l.length := by simp [proofT]
    omega
theorem proofN_lt {L : List (Option Hash)} {l : List Hash} (hn : L.length < 2 ^ 40) {i q : Nat} (hq : (proofN L l)[i]? = some q) : q < 2 ^ 64 := by
  unfold proofN at hq
  cases h : needN L.length (proofT L l) with
  | none => rw [h] at hq; simp at hq
  | some N =>
    rw [h] at hq
    exact (need_some h).2.lt (by omega) (List.mem_of_getElem? hq)
/-- the functions of forest, on -/
structure ForT (P : Program) extends ForS P where
  prove : Nat
  TPr : Nat
  TPu : Nat
  h_prove : Has P prove (b_Pforest_Forest_Prove is' going where' nf.need atF TPr TH TPu)
section
variable {P : Program} {f : Nat} {w : World}
set_option maxHeartbeats 1600000 in
theorem prove_ok (A : ForT P) {p m : Nat} {s : Fo} (h : FAt w p m s) {dv : Value} {l : List Hash} (hS : SlC w dv 32 l.length (hs l)) (hl : l.length < 2 ^ 20) :
    Ret P A.prove [ptrV p, dv] w fun v w' => Ext w w' ∧ ((v = .tuple #[.agg #[.slice none 0 0, .slice none 0 0], intV' 5] ∧ ∃ h ∈ l, some h ∉ s.L) ∨ (v = .tuple #[.agg #[.slice none 0 0, .slice none 0 0], intV' 24] ∧ (∀ h ∈ l, some h ∈ s.L) ∧ ¬ l.Nodup) ∨
      ∃ tv hv, v = .tuple #[.agg #[tv, hv], intV' 0] ∧ (∀ h ∈ l, some h ∈ s.L) ∧ l.Nodup ∧ OwnC w' tv 1 (proofT s.L l).length ((proofT s.L l).map u64V) ∧ OwnC w' hv 32 (proofH s.L l).length (hs (proofH s.L l)) ∧ (∀ b ∈ blkOf tv, w.heap.size ≤ b) ∧ (∀ b ∈ blkOf hv, w.heap.size ≤ b)) := by
  have hF := h
  have hlt := h.lt
  have hlen := h.len
  have hB0 : ∃ a1 a2 a3 a4, Blk w p [u64V s.L.length, a1, a2, a3, a4] := let ⟨⟨_, _, h1, _⟩, _, _⟩ := h; ⟨_, _, _, _, h1⟩
  obtain ⟨a1, a2, a3, a4, hBp⟩ := hB0
  refine Ret.of_exec A.h_prove (Nat.le_of_ble_eq_true rfl) fun c hc => ?_
  dsimp only [b_Pforest_Forest_Prove, argEnv, ym, yo, yg, ys, yt, yd, ye]
  refine exec_new rfl ?_
  intro b4 w1 hb4 hs1 hu1 hB4
  have hB41 : Blk w1 b4 [.slice none 0 0, .slice none 0 0] := hB4
  clear hB4
  refine xr 2 rfl ?_
  refine xca rfl rfl (is_ok A.toForJ (hF.ext hu1)) ?_
  rintro _ w2 ⟨rfl, hu2⟩
  refine xr 5 rfl ?_
  have hE2 : Ext w w2 := hu1.trans hu2
  refine xca rfl rfl (going_ok A.toForJ (hF.ext hE2) (hS.upd hE2 (by simp)) (by omega)) ?_
  rintro v3 w3 ⟨hu3, hcase⟩
  have hE3 := hE2.trans hu3
  have hB43 := (hB41.upd hu2).upd hu3
  have hwb : ∀ X, Upd [b4] w3 X → Ext w X := fun X hX => hE3.trans hX (fun b hb => .inr (by simp at hb; omega))
  rcases hcase with ⟨rfl, hno⟩ | ⟨rfl, hall, hnd⟩ | ⟨gr, gl, rfl, hgr, hG, hGm, hgl, hall, hnd⟩
  · refine xr 6 rfl ?_
    refine xpu (pv_neqI (a := 5) (b := 0) (q := true) rfl rfl rfl) rfl ?_
    refine xr 1 rfl ?_
    refine xju (ok_mkL (l := []) (cs := [.slice none 0 0, .slice none 0 0]) rfl rfl) rfl ?_
    refine xr 1 rfl ?_
    refine exec_store (b := b4) (o := 0) (v := .agg #[.slice none 0 0, .slice none 0 0]) rfl rfl hB43 rfl (by decide) rfl ?_
    intro W' hu' _ hB'
    refine xr 1 rfl ?_
    exact xre hc [.agg #[.slice none 0 0, .slice none 0 0], _] ⟨⟨b4, 0, _, rfl, Blk.memAll (show Blk W' b4 [.slice none 0 0, .slice none 0 0] from hB'), rfl, rfl⟩, rfl, trivial⟩ ⟨hwb _ hu', .inl ⟨rfl, hno⟩⟩
  · refine xr 6 rfl ?_
    refine xpu (pv_neqI (a := 24) (b := 0) (q := true) rfl rfl rfl) rfl ?_
    refine xr 1 rfl ?_
    refine xju (ok_mkL (l := []) (cs := [.slice none 0 0, .slice none 0 0]) rfl rfl) rfl ?_
    refine xr 1 rfl ?_
    refine exec_store (b := b4) (o := 0) (v := .agg #[.slice none 0 0, .slice none 0 0]) rfl rfl hB43 rfl (by decide) rfl ?_
    intro W' hu' _ hB'
    refine xr 1 rfl ?_
    exact xre hc [.agg #[.slice none 0 0, .slice none 0 0], _] ⟨⟨b4, 0, _, rfl, Blk.memAll (show Blk W' b4 [.slice none 0 0, .slice none 0 0] from hB'), rfl, rfl⟩, rfl, trivial⟩ ⟨hwb _ hu', .inr (.inl ⟨rfl, hall, hnd⟩)⟩
  refine xr 6 rfl ?_
  refine xpu (pv_neqI (a := 0) (b := 0) (q := false) rfl rfl rfl) rfl ?_
  refine xr 2 rfl ?_
  refine exec_new rfl ?_
  intro b8 w4 hb8 hs4 hu4 hB8
  have hB84 : Blk w4 b8 [.slice none 0 0, .slice none 0 0] := hB8
  clear hB8
  have hE4 := hE3.trans hu4
  have hB44 := hB43.upd hu4
  have z3 := hE3.size
  have z2 := hE2.size
  have z23 := hu3.size
  have k4 := hB43.lt
  have hSW : ∀ X, Ext w X → SlC X dv 32 l.length (hs l) := fun X hX => hS.upd hX (by simp)
  refine xr 1 rfl ?_
  refine xpu (hS.lenS rfl) rfl ?_
  refine xr 2 rfl ?_
  refine xen [(0, ptrV p), (4, ptrV b4), (5, intV' 0), (8, ptrV b8), (33, dv), (34, intV' l.length), (35, intV' 0)] ⟨rfl, rfl, rfl, rfl, rfl, rfl, rfl, trivial⟩ ?_
  refine xlo (S := Nat × Value) (fun st W => st.1 ≤ l.length ∧ Upd [b8] w4 W ∧ Blk W b8 [st.2, .slice none 0 0] ∧ OwnC W st.2 1 (proofT s.L (l.take st.1)).length ((proofT s.L (l.take st.1)).map u64V) ∧ (∀ b ∈ blkOf st.2, w4.heap.size ≤ b) ∧ (l.take st.1 = [] → st.2 = .slice none 0 0))
    (fun st => [(0, ptrV p), (4, ptrV b4), (5, intV' 0), (8, ptrV b8), (33, dv), (34, intV' l.length), (35, intV' st.1)]) (fun st => l.length - st.1) (0, .slice none 0 0)
    ⟨Nat.zero_le _, Upd.refl _ _, hB84, .inl ⟨rfl, rfl, rfl⟩, by simp [blkOf], fun _ => rfl⟩ ⟨rfl, rfl, rfl, rfl, rfl, rfl, rfl, trivial⟩ ?_
  rintro ⟨i, tv⟩ W ⟨i1, iU, iB, iO, ib, iN⟩
  simp only at i1 iB iO ib iN
  have hwW : Ext w W := hE4.trans iU (fun b hb => .inr (by simp at hb; omega))
  have hFW : FAt W p m s := (hF.ext hE4).upd iU (Foreign.cons (Foreign.blk hB84 (Strange.head (by simp) (by simp))) (Foreign.nil _)) (by simp; omega) (by simp; omega)
  by_cases hi : i < l.length
  · refine xpu (pv_lssI (a := i) (b := l.length) (q := true) rfl rfl (by simpa using hi)) rfl ?_
    refine xr 3 rfl ?_
    obtain ⟨hh, hhi⟩ : ∃ x, l[i]? = some x := ⟨_, List.getElem?_eq_getElem hi⟩
    have htk : l.take (i + 1) = l.take i ++ [hh] := by rw [List.take_add_one, hhi]; rfl
    obtain ⟨bd, od, cd, hdv, _, hmd⟩ := hs_at (hSW W hwW) hhi
    refine xju (ok_iaddr (N := 32) (b := bd) (o := od) (len := l.length) (cap := cd) (by rw [← hdv]; rfl) rfl i rfl hi) rfl ?_
    refine exec_loadN (b := bd) (o := od + i * 32) (vs := hC hh) rfl rfl hmd (hC_length _) ?_
    refine exec_new_store (v := hV hh) rfl rfl rfl (hV_size hh) rfl (by rw [hV_cells]; exact hC_cell _) ?_
    intro b10 W1 hb10 hs10 hw1 hB10
    rw [hV_cells] at hB10
    refine xr 1 rfl ?_
    refine exec_loadN (b := b10) (o := 0) (vs := hC hh) rfl rfl hB10.memAll (hC_length _) ?_
    refine xca rfl rfl (where_ok A.toForN (hFW.ext hw1) hh) ?_
    rintro v1 W2 ⟨hw2, hcase1⟩
    rcases hcase1 with ⟨_, q1⟩ | ⟨x, rfl, q1⟩
    · exact absurd (hall hh (List.mem_of_getElem? hhi)) q1
    have hxx : whereT (treesT parH (lv s.L) s.L.length) s.L.length x = spotL s.L hh := by rw [spotL, ← hF.num q1]
    rw [hxx]
    refine xr 6 rfl ?_
    have hx12 := hw1.trans hw2
    refine exec_load1 (b := b8) (o := 0 + 0) rfl rfl ((iB.upd hx12).cell rfl) ?_
    refine xr 1 rfl ?_
    refine exec_litL (N := 1) (cs := [u64V (spotL s.L hh)]) (l := [(0, 1, u64V (spotL s.L hh))]) rfl rfl rfl rfl ?_
    intro bq W3 hbq hsq hw3 hOq
    have hlT : (proofT s.L (l.take i)).length = i := by simp [proofT]; omega
    refine exec_ok (ok_append (N := 1) rfl rfl ((iO.upd hx12 (by simp)).upd hw3 (by simp)) hOq.sl rfl (by decide) (by omega) rfl) rfl ?_
    rintro tv2 W4 ⟨hO4, hw4, hf4, hl4⟩
    have zU := iU.size
    have z12 := hx12.size
    have zw3 := hw3.size
    have ib8 : ∀ b ∈ blkOf tv, b ≠ b8 := fun b hb he => by have := ib b hb; subst he; have := hB84.lt; omega
    have hB4' : Blk W4 b8 [tv, .slice none 0 0] := ((iB.upd hx12).upd hw3).upd hw4 (fun h => ib8 _ h rfl)
    refine xr 1 rfl ?_
    refine exec_store (b := b8) (o := 0 + 0) (v := tv2) rfl rfl hB4' (by rcases hO4 with ⟨rfl, _⟩ | ⟨_, _, _, rfl, _⟩ <;> rfl) (by simp) (by rcases hO4 with ⟨rfl, _⟩ | ⟨_, _, _, rfl, _⟩ <;> rfl) ?_
    intro W5 hw5 _ hB5
    have hcel : tv2.cells.toList = [tv2] := by rcases hO4 with ⟨rfl, _⟩ | ⟨_, _, _, rfl, _⟩ <;> rfl
    rw [hcel] at hB5
    refine xr 2 rfl ?_
    refine xpu (pv_addI (a := i) (b := 1) rfl rfl (by omega)) rfl ?_
    refine xr 1 rfl ?_
    have kb8 := hB84.lt
    have kf4 : ∀ b ∈ blkOf tv2, b ≠ b8 := fun b hb he => by
      rcases hf4 b hb with g | g
      · exact ib8 b g he
      · omega
    have hPT : proofT s.L (l.take (i + 1)) = proofT s.L (l.take i) ++ [spotL s.L hh] := by rw [htk, proofT, proofT, List.map_append]; rfl
    refine xag (i + 1, tv2) ⟨hi, ?_, hB5, ?_, ?_, fun h => ?_⟩ (by show l.length - (i + 1) < l.length - i; omega) ⟨rfl, rfl, rfl, rfl, rfl, rfl, rfl, trivial⟩
    · exact (((iU.trans hx12).trans hw3).trans hw4 (fun b hb => .inr (ib b hb))).trans hw5
    · show OwnC W5 tv2 1 (proofT s.L (l.take (i + 1))).length _
      rw [hPT, List.map_append, List.length_append]
      exact hO4.upd hw5 (fun b hb => by simpa using kf4 b hb)
    · intro b hb
      rcases hf4 b hb with g | g
      · exact ib b g
      · omega
    · have h' : l.take (i + 1) = [] := h
      rw [htk] at h'; simp at h'
  · refine xpu (pv_lssI (a := i) (b := l.length) (q := false) rfl rfl (by simpa using hi)) rfl ?_
    have : i = l.length := by omega
    subst this
    rw [List.take_length] at iO iN
    refine xr 3 rfl ?_
    have hTlen : (proofT s.L l).length = l.length := by simp [proofT]
    refine xen [(0, ptrV p), (4, ptrV b4), (5, intV' 0), (8, ptrV b8)] ⟨rfl, rfl, rfl, rfl, trivial⟩ ?_
    refine exec_dw [] rfl rfl rfl ?_
    repeat (first | refine dau rfl (fun _ => rfl) ?_ | refine dga rfl (fun _ => rfl) (fun _ => rfl) ?_ | refine dgs (fun _ => rfl) ?_)
    refine dw_keep (u64V s.L.length) (fun vs X hx _ => ok_load1 (b := p) (o := 0 + 0) rfl ((hBp.upd (hwW.trans hx)).cell rfl)) ?_
    repeat (first | refine dau rfl (fun _ => rfl) ?_ | refine dga rfl (fun _ => rfl) (fun _ => rfl) ?_ | refine dgs (fun _ => rfl) ?_)
    refine dw_keep tv (fun vs X hx _ => ok_load1 (b := b8) (o := 0 + 0) rfl ((iB.upd hx).cell rfl)) ?_
    refine dw_rel [] (fun X _ v => ∃ sv e, v = .tuple #[sv, intV' e] ∧ OwnC X sv 1 (proofN s.L l).length ((proofN s.L l).map u64V) ∧ ∀ b ∈ blkOf sv, W.heap.size ≤ b) rfl (fun X X' xs v _ hx h => ?_) ?_ ?_
    · obtain ⟨sv, e, h1, h2, h3⟩ := h
      exact ⟨sv, e, h1, h2.upd hx (by simp), h3⟩
    · intro vs X hx _
      refine (ok_call rfl (need_ok A.nf s.L.length (T := proofT s.L l) (by omega) (iO.sl.upd hx (by simp)) (fun t ht => ?_) (by omega) (fun b hb => by have := iO.lt b hb; have := hx.size; omega))).mono ?_
      · obtain ⟨y, _, rfl⟩ := List.mem_map.1 ht
        exact Nat.lt_trans (whereT_lt hlen) (by decide)
      · rintro v X' ⟨hX', hm⟩
        refine ⟨hX', ?_⟩
        have := hx.size
        cases hN : needN s.L.length (proofT s.L l) with
        | none =>
          rw [hN] at hm
          simp only at hm
          exact ⟨_, _, hm, by rw [proofN, hN]; exact .inl ⟨rfl, rfl, rfl⟩, by simp [blkOf]⟩
        | some N =>
          rw [hN] at hm
          obtain ⟨sv, h1, h2, h3⟩ := hm
          exact ⟨sv, 0, h1, by rw [proofN, hN]; exact h2, fun b hb => by have := h3 b hb; omega⟩
    refine dw_of (j := 6) id rfl (fun vs X _ _ => rfl) ?_
    refine dw_rel [6] (fun X xs v => ∃ sv e, xs = [.tuple #[sv, intV' e]] ∧ v = sv) rfl (fun X X' xs v _ _ h => h) (fun vs X hx hf => ?_) ?_
    · obtain ⟨⟨x7, h7, h7'⟩, ⟨sv, e, h6, _⟩, _⟩ := hf
      have h77 : vs 7 = .tuple #[sv, intV' e] := by rw [h7']; simp at h7; rw [← h7]; exact h6
      exact (ok_pure (v := sv) (by show (match some (vs 7) with | some (.tuple vs) => vs[0]? | _ => none) = _; rw [h77]; rfl)).mono fun u X' hu => ⟨hu.2 ▸ Upd.refl _ _, sv, e, by simp [h6], hu.1⟩
    refine dw_rel [6] (fun X xs v => ∃ sv e, xs = [.tuple #[sv, intV' e]] ∧ v = intV' e) rfl (fun X X' xs v _ _ h => h) (fun vs X hx hf => ?_) ?_
    · obtain ⟨⟨x7, h7, h7'⟩, ⟨sv, e, h6, _⟩, _⟩ := hf
      have h77 : vs 7 = .tuple #[sv, intV' e] := by rw [h7']; simp at h7; rw [← h7]; exact h6
      exact (ok_pure (v := intV' e) (by show (match some (vs 7) with | some (.tuple vs) => vs[1]? | _ => none) = _; rw [h77]; rfl)).mono fun u X' hu => ⟨hu.2 ▸ Upd.refl _ _, sv, e, by simp [h6], hu.1⟩
    refine dw_of (j := 8) id rfl (fun vs X _ _ => rfl) ?_
    refine dw_end fun vs X hx hf => ?_
    obtain ⟨⟨x10, k10, h10⟩, ⟨s9, e9, k9, h9⟩, ⟨s8, e8, k8, h8⟩, ⟨x7, k7, h7⟩, ⟨sv, e, h6, hOs, hbs⟩, _⟩ := hf
    have hv8 : vs 8 = sv := by
      have : vs 6 = .tuple #[s8, intV' e8] := by simpa using k8
      rw [h6] at this; simp at this
      rw [h8]; exact this.1.symm
    have hv9 : vs 9 = intV' e := by
      have : vs 6 = .tuple #[s9, intV' e9] := by simpa using k9
      rw [h6] at this; simp at this
      rw [h9]; have h2 := this.2; simp only [intV'] ; rw [h2]
    have hv10 : vs 10 = sv := by
      have : vs 8 = x10 := by simpa using k10
      rw [h10, ← this]; exact hv8
    refine xen [(0, ptrV p), (4, ptrV b4), (5, intV' 0), (8, ptrV b8), (13, sv), (61, intV' e)] ⟨rfl, rfl, rfl, rfl, by show some (vs 10) = _; rw [hv10], by show some (vs 9) = _; rw [hv9], trivial⟩ ?_
    clear h6 k7 k8 k9 k10 h7 h8 h9 h10 hv8 hv9 hv10
    have hwX : Ext w X := hwW.trans hx
    have hFX := hFW.ext hx
    have iBX := iB.upd hx
    have iOX := iO.upd hx (by simp)
    have zX := hx.size
    have zW := hwW.size
    have hNlen : (proofN s.L l).length ≤ (proofN s.L l).length := Nat.le_refl _
    refine xr 2 rfl ?_
    refine xpu (hOs.sl.lenS rfl) rfl ?_
    refine xr 2 rfl ?_
    refine xen [(0, ptrV p), (4, ptrV b4), (5, intV' 0), (8, ptrV b8), (62, sv), (63, intV' (proofN s.L l).length), (64, intV' 0)] ⟨rfl, rfl, rfl, rfl, rfl, rfl, rfl, trivial⟩ ?_
    have hib8 : ∀ b ∈ blkOf tv, b ≠ b8 := fun b hb he => by have := ib b hb; subst he; have := hB84.lt; omega
    have hlb : (proofN s.L l).length < 2 ^ 30 := proofN_len hl
    refine xlo (S := Nat × Value) (fun st Z => st.1 ≤ (proofN s.L l).length ∧ Upd [b8] X Z ∧ Blk Z b8 [tv, st.2] ∧ OwnC Z st.2 32 (((proofN s.L l).take st.1).map (hashL s.L)).length (hs (((proofN s.L l).take st.1).map (hashL s.L))) ∧ (∀ b ∈ blkOf st.2, X.heap.size ≤ b) ∧ ((proofN s.L l).take st.1 = [] → st.2 = .slice none 0 0))
      (fun st => [(0, ptrV p), (4, ptrV b4), (5, intV' 0), (8, ptrV b8), (62, sv), (63, intV' (proofN s.L l).length), (64, intV' st.1)]) (fun st => (proofN s.L l).length - st.1) (0, .slice none 0 0)
      ⟨Nat.zero_le _, Upd.refl _ _, iBX, .inl ⟨rfl, rfl, rfl⟩, by simp [blkOf], fun _ => rfl⟩ ⟨rfl, rfl, rfl, rfl, rfl, rfl, rfl, trivial⟩ ?_
    rintro ⟨i, hv⟩ Z ⟨j1, jU, jB, jO, jb, jN⟩
    simp only at j1 jB jO jb jN
    have hwZ : Ext w Z := hwX.trans jU (fun b hb => .inr (by simp at hb; omega))
    have hFZ : FAt Z p m s := hFX.upd jU (Foreign.cons (Foreign.blk iBX (Strange.head (by rcases iO with ⟨rfl, _⟩ | ⟨_, _, _, rfl, _⟩ <;> simp) (by rcases iO with ⟨rfl, _⟩ | ⟨_, _, _, rfl, _⟩ <;> simp))) (Foreign.nil _)) (by simp; omega) (by simp; omega)
    have k8 := hB84.lt
    have zU := iU.size
    have hOsZ : OwnC Z sv 1 (proofN s.L l).length ((proofN s.L l).map u64V) := hOs.upd jU (fun b hb => by have := hbs b hb; simp; omega)
    by_cases hi : i < (proofN s.L l).length
    · refine xpu (pv_lssI (a := i) (b := (proofN s.L l).length) (q := true) rfl rfl (by simpa using hi)) rfl ?_
      refine xr 3 rfl ?_
      obtain ⟨q, hq⟩ : ∃ q, (proofN s.L l)[i]? = some q := ⟨_, List.getElem?_eq_getElem hi⟩
      have htk : (proofN s.L l).take (i + 1) = (proofN s.L l).take i ++ [q] := by rw [List.take_add_one, hq]; rfl
      obtain ⟨bs, os, cs, hsv, hms, _⟩ := hOsZ.sl.at (by omega)
      refine xju (ok_iaddr (N := 1) (b := bs) (o := os) (len := (proofN s.L l).length) (cap := cs) (by rw [← hsv]; rfl) rfl i rfl hi) rfl ?_
      refine exec_load1 (b := bs) (o := os + i * 1) (v := u64V q) rfl rfl (hms (i * 1) _ (by rw [Nat.mul_one, List.getElem?_map, hq]; rfl)) ?_
      refine xr 3 rfl ?_
      refine xca rfl rfl (at_ok A.toForS hFZ q (proofN_lt hlen hq)) ?_
      rintro _ Z1 ⟨rfl, hz1⟩
      refine xr 3 rfl ?_
      generalize hhh : ((nodeN parH (lv s.L) s.L.length q).map Tr.hash).getD hZ = hh
      have hhL : hashL s.L q = hh := hhh
      generalize hbb : (nodeN parH (lv s.L) s.L.length q).isSome = bb
      refine exec_new_store (v := hV hh) rfl rfl rfl (hV_size hh) rfl (by rw [hV_cells]; exact hC_cell _) ?_
      intro b17 Z2 hb17 hs17 hz2 hB17
      rw [hV_cells] at hB17
      have hz12 := hz1.trans hz2
      refine xr 2 rfl ?_
      refine exec_load1 (b := b8) (o := 0 + 1) rfl rfl ((jB.upd hz12).cell rfl) ?_
      refine exec_loadN (b := b17) (o := 0) (vs := hC hh) rfl rfl hB17.memAll (hC_length _) ?_
      refine exec_litL (N := 32) (cs := hs [hh]) (l := [(0, 32, hV hh)]) rfl (by rw [hash_fill]; simp [hs]) (by simp [hs, hC_length]) rfl ?_
      intro bq Z3 hbq hsq hz3 hOq
      have hlT : (((proofN s.L l).take i).map (hashL s.L)).length = i := by simp; omega
      refine exec_ok (ok_append (N := 32) rfl rfl ((jO.upd hz12 (by simp)).upd hz3 (by simp)) hOq.sl rfl (by decide) (by omega) (hs_ok _)) rfl ?_
      rintro hv2 Z4 ⟨hO4, hz4, hf4, hl4⟩
      have zj := jU.size
      have z12 := hz12.size
      have zz3 := hz3.size
      have jb8 : ∀ b ∈ blkOf hv, b ≠ b8 := fun b hb he => by have := jb b hb; subst he; omega
      have hB4' : Blk Z4 b8 [tv, hv] := ((jB.upd hz12).upd hz3).upd hz4 (fun h => jb8 _ h rfl)
      refine xr 1 rfl ?_
      refine exec_store (b := b8) (o := 0 + 1) (v := hv2) rfl rfl hB4' (by rcases hO4 with ⟨rfl, _⟩ | ⟨_, _, _, rfl, _⟩ <;> rfl) (by simp) (by rcases hO4 with ⟨rfl, _⟩ | ⟨_, _, _, rfl, _⟩ <;> rfl) ?_
      intro Z5 hz5 _ hB5
      have hcel : hv2.cells.toList = [hv2] := by rcases hO4 with ⟨rfl, _⟩ | ⟨_, _, _, rfl, _⟩ <;> rfl
      rw [hcel] at hB5
      refine xr 2 rfl ?_
      refine xpu (pv_addI (a := i) (b := 1) rfl rfl (by omega)) rfl ?_
      refine xr 1 rfl ?_
      have kf4 : ∀ b ∈ blkOf hv2, b ≠ b8 := fun b hb he => by
        rcases hf4 b hb with g | g
        · exact jb8 b g he
        · omega
      refine xag (i + 1, hv2) ⟨hi, ?_, hB5, ?_, ?_, fun h => ?_⟩ (by show (proofN s.L l).length - (i + 1) < (proofN s.L l).length - i; omega) ⟨rfl, rfl, rfl, rfl, rfl, rfl, rfl, trivial⟩
      · exact (((jU.trans hz12).trans hz3).trans hz4 (fun b hb => .inr (jb b hb))).trans hz5
      · show OwnC Z5 hv2 32 (((proofN s.L l).take (i + 1)).map (hashL s.L)).length _
        rw [htk, List.map_append, hs_append, List.length_append]
        have : List.map (hashL s.L) [q] = [hh] := by simp [hhL]
        rw [this]
        exact hO4.upd hz5 (fun b hb => by simpa using kf4 b hb)
      · intro b hb
        rcases hf4 b hb with g | g
        · exact jb b g
        · omega
      · have h' : (proofN s.L l).take (i + 1) = [] := h
        rw [htk] at h'; simp at h'
    · refine xpu (pv_lssI (a := i) (b := (proofN s.L l).length) (q := false) rfl rfl (by simpa using hi)) rfl ?_
      have : i = (proofN s.L l).length := by omega
      subst this
      rw [List.take_length] at jO jN
      refine xr 3 rfl ?_
      refine exec_loadN (b := b8) (o := 0) (vs := [tv, hv]) rfl rfl jB.memAll rfl ?_
      have hB4Z : Blk Z b4 [.slice none 0 0, .slice none 0 0] := ((hB44.upd iU (by simp; omega)).upd hx).upd jU (by simp; omega)
      refine exec_store (b := b4) (o := 0) (v := .agg #[tv, hv]) rfl rfl hB4Z rfl (by decide) (by rcases iO with ⟨rfl, _⟩ | ⟨_, _, _, rfl, _⟩ <;> rcases jO with ⟨rfl, _⟩ | ⟨_, _, _, rfl, _⟩ <;> rfl) ?_
      intro Z1 hz1 _ hBz
      refine xr 1 rfl ?_
      have hb4t : ∀ b ∈ blkOf tv, b ∉ [b4] := fun b hb => by have := ib b hb; simp; omega
      have hb4h : ∀ b ∈ blkOf hv, b ∉ [b4] := fun b hb => by have := jb b hb; simp; omega
      have hTZ : OwnC Z tv 1 (proofT s.L l).length ((proofT s.L l).map u64V) := iOX.upd jU (fun b hb => by simpa using hib8 b hb)
      exact xre hc [.agg #[tv, hv], _] ⟨⟨b4, 0, [tv, hv], rfl, Blk.memAll (show Blk Z1 b4 [tv, hv] from hBz), rfl, rfl⟩, rfl, trivial⟩ ⟨hwZ.trans hz1 (fun b hb => .inr (by simp at hb; omega)), .inr (.inr ⟨tv, hv, rfl, hall, hnd, hTZ.upd hz1 hb4t, jO.upd hz1 hb4h, fun b hb => by have := ib b hb; omega, fun b hb => by have := jb b hb; omega⟩)⟩
end
end Go.Sp

namespace Go.Sp
/-- the functions of the laws, on -/
structure LawU (P : Program) extends LawG P, ForS P where
  equal : Nat
  TBo : Nat
  h_equal : Has P equal (b_spinneylaw14_equal leaves stump same where' atF TH TBo)
  h_TBo : P.underlying TBo = some .bool
end Go.Sp








namespace Go.Sp
def emptyC : List Value := [u64V 0, .slice none 0 0, .map none, intV' 0, intV' 0]
/-- no forest: nil, or one without a map -/
def NoF (w : World) (v : Value) : Prop := v = .pointer none ∨ ∃ b, v = ptrV b ∧ Blk w b emptyC
theorem NoF.ext {w w' : World} {v : Value} (h : NoF w v) (hu : Ext w w') : NoF w' v := by
  rcases h with h | ⟨b, h, hB⟩
  · exact .inl h
  · exact .inr ⟨b, h, hB.upd hu⟩
/-- the functions of forest, on -/
structure ForV (P : Program) extends ForT P where
  pairs : Nat
  keysT : Nat
  texts : Nat
  TTx1 : Nat
  TTx2 : Nat
  TTx3 : Nat
  h_texts : Has P texts (b_Pforest_Forest_Texts is' root' pairs keysT nf.sorted TTx1 TTx2 TTx3)
section
variable {P : Program} {f : Nat} {w : World}
theorem is_no (A : ForJ P) {v : Value} (h : NoF w v) : RetV P A.is' [v] w (.bool false) := by
  refine Ret.of_exec A.h_is (Nat.le_of_ble_eq_true rfl) fun c hc => ?_
  dsimp only [b_Pforest_Forest_is, argEnv, ym, yo, yg, ys, yt, yd, ye]
  rcases h with rfl | ⟨b, rfl, hB⟩
  · refine xr 2 rfl ?_
    refine xju (ok_ne_nil A.h_TPF rfl rfl) rfl ?_
    refine xr 8 rfl ?_
    exact xre hc [_] ⟨rfl, trivial⟩ ⟨rfl, Upd.refl _ _⟩
  · refine xr 2 rfl ?_
    refine xju (ok_ne_nil A.h_TPF rfl rfl) rfl ?_
    refine xr 8 rfl ?_
    refine exec_load1 (b := b) (o := 0 + 2) rfl rfl (hB.cell rfl) ?_
    refine xgr rfl ?_
    refine xju (ok_ne_nilmap A.h_TMp rfl rfl) rfl ?_
    refine xr 2 rfl ?_
    exact xre hc [_] ⟨rfl, trivial⟩ ⟨rfl, Upd.refl _ _⟩
theorem modify_no (A : ForL P) {v dv av : Value} (h : NoF w v) : RetV P A.modify [v, dv, av] w (.tuple #[.agg undoZ.toArray, intV' 1]) := by
  refine Ret.of_exec A.h_modify (Nat.le_of_ble_eq_true rfl) fun c hc => ?_
  dsimp only [b_Pforest_Forest_Modify, argEnv, ym, yo, yg, ys, yt, yd, ye]
  refine exec_new rfl ?_
  intro b6 w1 hb6 hs1 hu1 hB6
  have hB61 : Blk w1 b6 undoZ := hB6
  refine xr 2 rfl ?_
  refine xca rfl rfl (is_no A.toForJ (h.ext hu1)) ?_
  rintro _ w2 ⟨rfl, hu2⟩
  refine xr 2 rfl ?_
  refine xju (ok_mkL (l := []) (cs := undoZ) rfl rfl) rfl ?_
  refine exec_store (b := b6) (o := 0) (v := .agg undoZ.toArray) rfl rfl (hB61.upd hu2) rfl (by decide) rfl ?_
  intro W' hu' _ hB'
  refine xr 1 rfl ?_
  exact xre hc [.agg undoZ.toArray, _] ⟨⟨b6, 0, undoZ, rfl, Blk.memAll (show Blk W' b6 undoZ from hB'), rfl, rfl⟩, rfl, trivial⟩ ⟨rfl, (hu1.trans hu2).trans hu' (fun b hb => .inr (by simp at hb; omega))⟩
theorem prove_no (A : ForT P) {v lv : Value} (h : NoF w v) : RetV P A.prove [v, lv] w (.tuple #[.agg #[.slice none 0 0, .slice none 0 0], intV' 1]) := by
  refine Ret.of_exec A.h_prove (Nat.le_of_ble_eq_true rfl) fun c hc => ?_
  dsimp only [b_Pforest_Forest_Prove, argEnv, ym, yo, yg, ys, yt, yd, ye]
  refine exec_new rfl ?_
  intro b4 w1 hb4 hs1 hu1 hB4
  have hB41 : Blk w1 b4 [.slice none 0 0, .slice none 0 0] := hB4
  refine xr 2 rfl ?_
  refine xca rfl rfl (is_no A.toForJ (h.ext hu1)) ?_
  rintro _ w2 ⟨rfl, hu2⟩
  refine xr 2 rfl ?_
  refine xju (ok_mkL (l := []) (cs := [.slice none 0 0, .slice none 0 0]) rfl rfl) rfl ?_
  refine exec_store (b := b4) (o := 0) (v := .agg #[.slice none 0 0, .slice none 0 0]) rfl rfl (hB41.upd hu2) rfl (by decide) rfl ?_
  intro W' hu' _ hB'
  refine xr 1 rfl ?_
  exact xre hc [.agg #[.slice none 0 0, .slice none 0 0], _] ⟨⟨b4, 0, _, rfl, Blk.memAll (show Blk W' b4 [.slice none 0 0, .slice none 0 0] from hB'), rfl, rfl⟩, rfl, trivial⟩ ⟨rfl, (hu1.trans hu2).trans hu' (fun b hb => .inr (by simp at hb; omega))⟩
theorem at_no (A : ForS P) {v : Value} (h : NoF w v) (x : Nat) : RetV P A.atF [v, u64V x] w (.tuple #[hV hZ, .bool false]) := by
  refine Ret.of_exec A.h_at (Nat.le_of_ble_eq_true rfl) fun c hc => ?_
  dsimp only [b_Pforest_Forest_At, argEnv, ym, yo, yg, ys, yt, yd, ye]
  refine exec_new rfl ?_
  intro b4 w1 hb4 hs1 hu1 hB4
  have hB41 : Blk w1 b4 (hC hZ) := hB4
  refine xr 2 rfl ?_
  refine xca rfl rfl (is_no A.toForJ (h.ext hu1)) ?_
  rintro _ w2 ⟨rfl, hu2⟩
  refine xr 2 rfl ?_
  refine xju (ok_mkL (l := []) (cs := hC hZ) rfl rfl) rfl ?_
  refine exec_store (b := b4) (o := 0) (v := hV hZ) rfl rfl (hB41.upd hu2) (hV_size _) (by rw [hC_length]; omega) (by rw [hV_cells]; exact hC_cell _) ?_
  intro W' hu' _ hB'
  have hB2 : Blk W' b4 (hC hZ) := by
    have e : splice (hC hZ) 0 (hV hZ).cells.toList = hC hZ := by rw [hV_cells]; simp [splice, hC_length]
    rw [e] at hB'; exact hB'
  refine xr 1 rfl ?_
  exact xre hc [hV hZ, _] ⟨⟨b4, 0, hC hZ, rfl, hB2.memAll, hC_length _, rfl⟩, rfl, trivial⟩ ⟨rfl, (hu1.trans hu2).trans hu' (fun b hb => .inr (by simp at hb; omega))⟩
theorem where_no (A : ForN P) {v : Value} (h : NoF w v) (x : Hash) : RetV P A.where' [v, hV x] w (.tuple #[u64V 0, .bool false]) := by
  refine Ret.of_exec A.h_where (Nat.le_of_ble_eq_true rfl) fun c hc => ?_
  dsimp only [b_Pforest_Forest_Where, argEnv, ym, yo, yg, ys, yt, yd, ye]
  refine exec_box rfl rfl ?_
  intro b3 w1 hb3 hs1 hu1 hB3
  refine xr 3 rfl ?_
  refine xca rfl rfl (is_no A.toForJ (h.ext hu1)) ?_
  rintro _ w2 ⟨rfl, hu2⟩
  refine xr 4 rfl ?_
  exact xre hc [_, _] ⟨rfl, rfl, trivial⟩ ⟨rfl, hu1.trans hu2⟩
theorem stump_no (A : ForO P) {v : Value} (h : NoF w v) : RetV P A.stump [v] w (.agg #[u64V 0, .slice none 0 0]) := by
  refine Ret.of_exec A.h_stump (Nat.le_of_ble_eq_true rfl) fun c hc => ?_
  dsimp only [b_Pforest_Forest_Stump, argEnv, ym, yo, yg, ys, yt, yd, ye]
  refine exec_new rfl ?_
  intro b2 w1 hb2 hs1 hu1 hB2
  have hB21 : Blk w1 b2 [u64V 0, .slice none 0 0] := hB2
  refine xr 1 rfl ?_
  refine xca rfl rfl (is_no A.toForJ (h.ext hu1)) ?_
  rintro _ w2 ⟨rfl, hu2⟩
  refine xr 2 rfl ?_
  refine xju (ok_mkL (l := []) (cs := [u64V 0, .slice none 0 0]) rfl rfl) rfl ?_
  refine exec_store (b := b2) (o := 0) (v := .agg #[u64V 0, .slice none 0 0]) rfl rfl (hB21.upd hu2) rfl (by decide) rfl ?_
  intro W' hu' _ hB'
  skip
  exact xre hc [.agg #[u64V 0, .slice none 0 0]] ⟨⟨b2, 0, _, rfl, Blk.memAll (show Blk W' b2 [u64V 0, .slice none 0 0] from hB'), rfl, rfl⟩, trivial⟩ ⟨rfl, (hu1.trans hu2).trans hu' (fun b hb => .inr (by simp at hb; omega))⟩
theorem leaves_no (A : ForP P) {v : Value} (h : NoF w v) (hv : ∃ a, v = .pointer a) : RetV P A.leaves [v] w (.slice none 0 0) := by
  obtain ⟨a, rfl⟩ := hv
  refine Ret.of_exec A.h_leaves (Nat.le_of_ble_eq_true rfl) fun c hc => ?_
  dsimp only [b_Pforest_Forest_Leaves, argEnv, ym, yo, yg, ys, yt, yd, ye]
  refine exec_box rfl rfl ?_
  intro b1 w1 hb1 hs1 hu1 hB1
  have hB11 : Blk w1 b1 [.pointer a] := hB1
  refine xr 1 rfl ?_
  refine exec_load1 (b := b1) (o := 0) rfl rfl (hB11.cell rfl) ?_
  refine xca rfl rfl (is_no A.toForJ (h.ext hu1)) ?_
  rintro _ w2 ⟨rfl, hu2⟩
  refine xr 3 rfl ?_
  exact xre hc [_] ⟨rfl, trivial⟩ ⟨rfl, hu1.trans hu2⟩
theorem copy_no (A : ForR P) {v : Value} (h : NoF w v) : RetV P A.copy [v] w (.pointer none) := by
  refine Ret.of_exec A.h_copy (Nat.le_of_ble_eq_true rfl) fun c hc => ?_
  dsimp only [b_Pforest_Forest_Copy, argEnv, ym, yo, yg, ys, yt, yd, ye]
  refine xr 2 rfl ?_
  refine xca rfl rfl (is_no A.toForJ h) ?_
  rintro _ w2 ⟨rfl, hu2⟩
  refine xr 3 rfl ?_
  exact xre hc [_] ⟨rfl, trivial⟩ ⟨rfl, hu2⟩
theorem undo_nil (A : ForQ P) {v : Value} {cs : List Value} (h : NoF w v) : RetV P A.undo [v, .agg cs.toArray] w (intV' 1) := by
  refine Ret.of_exec A.h_undo (Nat.le_of_ble_eq_true rfl) fun c hc => ?_
  dsimp only [b_Pforest_Forest_Undo, argEnv, ym, yo, yg, ys, yt, yd, ye]
  refine exec_box rfl rfl ?_
  intro b3 w1 hb3 hs1 hu1 hB3
  refine xr 3 rfl ?_
  refine xca rfl rfl (is_no A.toForJ (h.ext hu1)) ?_
  rintro _ w2 ⟨rfl, hu2⟩
  refine xr 4 rfl ?_
  exact xre hc [_] ⟨rfl, trivial⟩ ⟨rfl, hu1.trans hu2⟩
theorem texts_no (A : ForV P) {v : Value} (h : NoF w v) : RetV P A.texts [v] w (.slice none 0 0) := by
  refine Ret.of_exec A.h_texts (Nat.le_of_ble_eq_true rfl) fun c hc => ?_
  dsimp only [b_Pforest_Forest_Texts, argEnv, ym, yo, yg, ys, yt, yd, ye]
  refine xr 2 rfl ?_
  refine xca rfl rfl (is_no A.toForJ h) ?_
  rintro _ w2 ⟨rfl, hu2⟩
  refine xr 3 rfl ?_
  exact xre hc [_] ⟨rfl, trivial⟩ ⟨rfl, hu2⟩
end
end Go.Sp

namespace Go.Sp
/-! The forest of five leaves. -/
def lk1 : List (Option Hash) := [some (hK 1), some (hK 2), some (hK 3), some (hK 4), some (hK 5)]
def lk2 : List (Option Hash) := [none, some (hK 2), some (hK 3), some (hK 4), some (hK 5)]
def lk3 : List (Option Hash) := [none, none, some (hK 3), some (hK 4), some (hK 5)]
theorem trees5 : treesN 5 = [2, 0] := by decide
theorem where_lk1a : whereT (treesT parH (lv lk1) 5) 5 4 = 4 := by
  rw [treesT, trees5]; generalize parH = par; rfl
theorem where_lk1b : whereT (treesT parH (lv lk1) 5) 5 2 = 2 := by
  rw [treesT, trees5]; generalize parH = par; rfl
theorem where_lk2a : whereT (treesT parH (lv lk2) 5) 5 1 = 8 := by
  rw [treesT, trees5]; generalize parH = par; rfl
theorem where_lk2b : whereT (treesT parH (lv lk2) 5) 5 2 = 2 := by
  rw [treesT, trees5]; generalize parH = par; rfl
theorem where_lk3 : whereT (treesT parH (lv lk3) 5) 5 2 = 8 := by
  rw [treesT, trees5]; generalize parH = par; rfl
theorem at_lk1 : (nodeN parH (lv lk1) 5 12).map Tr.hash = some (parH (parH (hK 1) (hK 2)) (parH (hK 3) (hK 4))) := by
  generalize parH = par; rfl
theorem at_lk2a : nodeN parH (lv lk2) 5 0 = none := by
  generalize parH = par; rfl
theorem at_lk2b : nodeN parH (lv lk2) 5 1 = none := by
  generalize parH = par; rfl
theorem at_lk2c : (nodeN parH (lv lk2) 5 8).map Tr.hash = some (hK 2) := by
  generalize parH = par; rfl
theorem at_lk2d : (nodeN parH (lv lk2) 5 9).map Tr.hash = some (parH (hK 3) (hK 4)) := by
  generalize parH = par; rfl
theorem need_lk2 : needN 5 [8] = some [9] := by
  have h : madeN 5 [8] = some ((madeN 5 [8]).getD []) := by decide
  unfold needN
  rw [h]
  show some (sortN [9]) = _
  simp [sortN]
theorem gk1 : Granted [] [] [hK 1, hK 2, hK 3, hK 4, hK 5] := ⟨by decide, by decide, by decide, by decide⟩
theorem mk1 : modL [] [hK 1, hK 2, hK 3, hK 4, hK 5] [] = lk1 := rfl
theorem gk2 : Granted lk1 [hK 1] [] := ⟨by decide, by decide, by decide, by decide⟩
theorem mk2 : modL [hK 1] [] lk1 = lk2 := by decide
theorem gk3 : Granted lk2 [hK 2] [] := ⟨by decide, by decide, by decide, by decide⟩
theorem mk3 : modL [hK 2] [] lk2 = lk3 := by decide
theorem ng1 : ¬ Granted lk2 [] [hK 2] := fun h => absurd (h.free (hK 2) (by decide) (by decide)) (by decide)
theorem ng2 : ¬ Granted lk2 [] [hK 6, hK 6] := fun h => absurd h.new (by decide)
theorem ng3 : ¬ Granted lk2 [hK 6] [] := fun h => absurd (h.live (hK 6) (by decide)) (by decide)
theorem rf3 {e : Nat} (h : Refused lk2 [hK 6] [] e) : e = 5 := by
  rcases h with ⟨h, _⟩ | ⟨_, h, _⟩ | ⟨_, h, _⟩
  · exact h
  · exact absurd (h (hK 6) (by decide)) (by decide)
  · exact absurd (h (hK 6) (by decide)) (by decide)
theorem rf0 {add : List Hash} {e : Nat} (h : Refused lk2 [] add e) : e = 6 := by
  rcases h with ⟨_, h, h1, _⟩ | ⟨_, _, h⟩ | ⟨h, _⟩
  · cases h1
  · exact absurd List.nodup_nil h
  · exact h
set_option maxRecDepth 8000 in
theorem fill12 : fillL (rleL [(160, .int .u8 0)]) [(0, 32, hV (hK 1)), (32, 32, hV (hK 2)), (64, 32, hV (hK 3)), (96, 32, hV (hK 4)), (128, 32, hV (hK 5))] = some (hs [hK 1, hK 2, hK 3, hK 4, hK 5]) := rfl
end Go.Sp

namespace Go.Sp
/-- the functions of the laws, on -/
structure LawK (P : Program) extends LawU P, ForV P where
  lknown : Nat
  TKn1 : Nat
  TKn2 : Nat
  TKn3 : Nat
  h_lknown : Has P lknown (b_spinneylaw14_ForestKnown new' modify where' atF parent prove undo leaves texts copy stump works TH TKn1 TKn2 TKn3 TPF)
section
variable {P : Program} {f : Nat} {w : World}
theorem where_k (A : ForN P) {p m : Nat} {s : Fo} (h : FAt w p m s) {x q : Nat} {a : Hash} (hx : s.L[x]? = some (some a)) (hq : whereT (treesT parH (lv s.L) s.L.length) s.L.length x = q) : RetV P A.where' [ptrV p, hV a] w (.tuple #[u64V q, .bool true]) := by
  refine (where_ok A h a).mono fun v w' hv => ?_
  obtain ⟨hu, ⟨_, h1⟩ | ⟨y, rfl, hy⟩⟩ := hv
  · exact absurd (List.mem_of_getElem? hx) h1
  · rw [h.num hy, ← h.num hx, hq]; exact ⟨rfl, hu⟩
theorem mod_no (A : ForL P) (hT : Tabs A.toShaF w) {p m : Nat} {s : Fo} (h : FAt w p m s) {dv av : Value} {del add : List Hash} (hD : SlC w dv 32 del.length (hs del)) (hA : SlC w av 32 add.length (hs add)) (hl : s.L.length + add.length < 2 ^ 40) (hd : del.length < 2 ^ 40) (ht : s.turns + 1 < 2 ^ 40)
    {E : Nat} (hG : ¬ Granted s.L del add) (hE : ∀ e, Refused s.L del add e → e = E) : RetV P A.modify [ptrV p, dv, av] w (.tuple #[.agg undoZ.toArray, intV' E]) := by
  refine (modify_ok A hT h hD hA hl hd ht).mono fun v w' hv => ?_
  rcases hv with ⟨e, rfl, hR, hu⟩ | ⟨_, _, hg, _⟩
  · rw [hE e hR]; exact ⟨rfl, hu⟩
  · exact absurd hg hG
theorem mod_yes (A : ForL P) (hT : Tabs A.toShaF w) {p m : Nat} {s : Fo} (h : FAt w p m s) {dv av : Value} {del add : List Hash} (hD : SlC w dv 32 del.length (hs del)) (hA : SlC w av 32 add.length (hs add)) (hl : s.L.length + add.length < 2 ^ 40) (hd : del.length < 2 ^ 40) (ht : s.turns + 1 < 2 ^ 40)
    (hG : Granted s.L del add) {L' : List (Option Hash)} (hL : modL del add s.L = L') : Ret P A.modify [ptrV p, dv, av] w fun v w' => ∃ cs : List Value, v = .tuple #[.agg cs.toArray, intV' 0] ∧ cs.length = 7 ∧ cs.all cellValue = true ∧ FAt w' p m ⟨L', s.turns + 1, s.turns + 1⟩ ∧ UAt w' (.agg cs.toArray) p m s (s.turns + 1) del add ∧ Upd [p, m] w w' := by
  refine (modify_ok A hT h hD hA hl hd ht).mono fun v w' hv => ?_
  rcases hv with ⟨e, _, hR, _⟩ | ⟨u, rfl, _, h1, h2, h3⟩
  · exact absurd hR hG.not_refused
  · rw [hL] at h1
    have hc := h2.cells
    obtain ⟨cs, rfl⟩ : ∃ cs : List Value, u = .agg cs.toArray := by
      obtain ⟨⟨tv, gr, cr, gl, cl, rfl, _⟩, _⟩ := h2
      exact ⟨[_, _, _, _, _, _, _], rfl⟩
    exact ⟨cs, rfl, by simpa [Value.cells] using hc.1, by simpa [Value.cells] using hc.2, h1, h2, h3⟩
theorem proveK_no (A : ForT P) {p m : Nat} {s : Fo} (h : FAt w p m s) {dv : Value} {l : List Hash} (hS : SlC w dv 32 l.length (hs l)) (hl : l.length < 2 ^ 20) (hn : ∃ h ∈ l, some h ∉ s.L) : RetV P A.prove [ptrV p, dv] w (.tuple #[.agg #[.slice none 0 0, .slice none 0 0], intV' 5]) := by
  refine (prove_ok A h hS hl).mono fun v w' hv => ?_
  obtain ⟨x, hx, hx2⟩ := hn
  obtain ⟨hu, ⟨rfl, _⟩ | ⟨_, h1, _⟩ | ⟨_, _, _, h1, _⟩⟩ := hv
  · exact ⟨rfl, hu⟩
  · exact absurd (h1 x hx) hx2
  · exact absurd (h1 x hx) hx2
theorem proveK_two (A : ForT P) {p m : Nat} {s : Fo} (h : FAt w p m s) {dv : Value} {l : List Hash} (hS : SlC w dv 32 l.length (hs l)) (hl : l.length < 2 ^ 20) (hn : ∀ h ∈ l, some h ∈ s.L) (hd : ¬ l.Nodup) : RetV P A.prove [ptrV p, dv] w (.tuple #[.agg #[.slice none 0 0, .slice none 0 0], intV' 24]) := by
  refine (prove_ok A h hS hl).mono fun v w' hv => ?_
  obtain ⟨hu, ⟨_, x, hx, hx2⟩ | ⟨rfl, _⟩ | ⟨_, _, _, _, h1, _⟩⟩ := hv
  · exact absurd (hn x hx) hx2
  · exact ⟨rfl, hu⟩
  · exact absurd h1 hd
theorem proveK_yes (A : ForT P) {p m : Nat} {s : Fo} (h : FAt w p m s) {dv : Value} {l : List Hash} (hS : SlC w dv 32 l.length (hs l)) (hl : l.length < 2 ^ 20) (hn : ∀ h ∈ l, some h ∈ s.L) (hd : l.Nodup) {T : List Nat} {H : List Hash} (hT : proofT s.L l = T) (hH : proofH s.L l = H) :
    Ret P A.prove [ptrV p, dv] w fun v w' => ∃ tv hv, v = .tuple #[.agg #[tv, hv], intV' 0] ∧ OwnC w' tv 1 T.length (T.map u64V) ∧ OwnC w' hv 32 H.length (hs H) ∧ (∀ b ∈ blkOf tv, w.heap.size ≤ b) ∧ (∀ b ∈ blkOf hv, w.heap.size ≤ b) ∧ Ext w w' := by
  refine (prove_ok A h hS hl).mono fun v w' hv => ?_
  obtain ⟨hu, ⟨_, x, hx, hx2⟩ | ⟨_, _, h1⟩ | ⟨tv, hv, rfl, _, _, h1, h2, h3, h4⟩⟩ := hv
  · exact absurd (hn x hx) hx2
  · exact absurd hd h1
  · rw [hT] at h1; rw [hH] at h2
    exact ⟨tv, hv, rfl, h1, h2, h3, h4, hu⟩
theorem FAt.spot {p m : Nat} {s : Fo} (h : FAt w p m s) {x q : Nat} {a : Hash} (hx : s.L[x]? = some (some a)) (hq : whereT (treesT parH (lv s.L) s.L.length) s.L.length x = q) : spotL s.L a = q := by rw [spotL, ← h.num hx, hq]
theorem proofK {p m : Nat} {a b : Nat} (h : FAt w p m ⟨lk2, a, b⟩) : proofT lk2 [hK 2] = [8] ∧ proofH lk2 [hK 2] = [parH (hK 3) (hK 4)] := by
  have h1 : proofT lk2 [hK 2] = [8] := by
    rw [proofT, List.map_cons, List.map_nil, h.spot (x := 1) (q := 8) rfl where_lk2a]
  refine ⟨h1, ?_⟩
  rw [proofH, proofN, h1, show lk2.length = 5 from rfl, need_lk2]
  show [hashL lk2 9] = _
  rw [hashL, show lk2.length = 5 from rfl, at_lk2d]; rfl
theorem at_yes (A : ForS P) {p m : Nat} {s : Fo} (h : FAt w p m s) (x : Nat) (hx : x < 2 ^ 64) {v : Hash} (hn : (nodeN parH (lv s.L) s.L.length x).map Tr.hash = some v) : RetV P A.atF [ptrV p, u64V x] w (.tuple #[hV v, .bool true]) := by
  refine (at_ok A h x hx).mono fun _ _ hv => ⟨hv.1.trans ?_, hv.2⟩
  have h2 : (nodeN parH (lv s.L) s.L.length x).isSome = true := by rw [← Option.isSome_map (f := Tr.hash), hn]; rfl
  rw [hn, h2]; rfl
theorem at_none (A : ForS P) {p m : Nat} {s : Fo} (h : FAt w p m s) (x : Nat) (hx : x < 2 ^ 64) (hn : nodeN parH (lv s.L) s.L.length x = none) : RetV P A.atF [ptrV p, u64V x] w (.tuple #[hV hZ, .bool false]) := by
  refine (at_ok A h x hx).mono fun _ _ hv => ⟨hv.1.trans ?_, hv.2⟩
  rw [hn]; rfl
theorem ok_ne_same {T : TypeId} {e : Env} {x y : Operand} {a : Hash} (hT : TyBytes P T 32) (hx : e.ev x = some (hV a)) (hy : e.ev y = some (hV a)) : OpOK P (.bin .neq T x y) e w (Just (.bool false) w) := by
  have := ok_ne_hash (w := w) hT hx hy
  simpa using this
/-- the five leaves' blocks, and the forest -/
structure KSt (A : LawK P) (w0 w : World) (p m n0 b1 b2 b3 b4 b5 : Nat) (s : Fo) : Prop where
  ext : Ext w0 w
  tabs : Tabs A.toShaF w
  f : FAt w p m s
  lo : w0.heap.size ≤ n0 ∧ n0 ≤ p ∧ n0 ≤ m
  l : b1 < n0 ∧ b2 < n0 ∧ b3 < n0 ∧ b4 < n0 ∧ b5 < n0
  k1 : Blk w b1 (hC (hK 1))
  k2 : Blk w b2 (hC (hK 2))
  k3 : Blk w b3 (hC (hK 3))
  k4 : Blk w b4 (hC (hK 4))
  k5 : Blk w b5 (hC (hK 5))
theorem KSt.go {A : LawK P} {w0 w w' : World} {p m n0 b1 b2 b3 b4 b5 : Nat} {s : Fo} (h : KSt A w0 w p m n0 b1 b2 b3 b4 b5 s) (hu : Ext w w') : KSt A w0 w' p m n0 b1 b2 b3 b4 b5 s :=
  ⟨h.ext.trans hu, h.tabs.upd hu, h.f.ext hu, h.lo, h.l, h.k1.upd hu, h.k2.upd hu, h.k3.upd hu, h.k4.upd hu, h.k5.upd hu⟩
theorem KSt.step {A : LawK P} {w0 w w' : World} {p m n0 b1 b2 b3 b4 b5 : Nat} {s s' : Fo} (h : KSt A w0 w p m n0 b1 b2 b3 b4 b5 s) (hf : FAt w' p m s') (hu : Upd [p, m] w w') : KSt A w0 w' p m n0 b1 b2 b3 b4 b5 s' := by
  obtain ⟨e, t, f, ⟨h1, h2, h3⟩, ⟨l1, l2, l3, l4, l5⟩, k1, k2, k3, k4, k5⟩ := h
  have ht := f.tabs t
  exact ⟨e.trans hu (fun b hb => .inr (by simp at hb; rcases hb with rfl | rfl <;> omega)), t.upd hu ht.1 ht.2, hf, ⟨h1, h2, h3⟩, ⟨l1, l2, l3, l4, l5⟩, k1.upd hu (by simp; omega), k2.upd hu (by simp; omega), k3.upd hu (by simp; omega), k4.upd hu (by simp; omega), k5.upd hu (by simp; omega)⟩
theorem KSt.far {A : LawK P} {w0 w : World} {p m n0 b1 b2 b3 b4 b5 b : Nat} {s : Fo} (h : KSt A w0 w p m n0 b1 b2 b3 b4 b5 s) (hb : b = w.heap.size) : b ∉ [p, m] := by
  have := h.f.lt; simp; omega
set_option maxHeartbeats 6400000 in
theorem lknown_ok (A : LawK P) (hT : Tabs A.toShaF w) : RetV P A.lknown [] w (.bool true) := by
  refine Ret.of_exec A.h_lknown (Nat.le_of_ble_eq_true rfl) fun c hc => ?_
  dsimp only [b_spinneylaw14_ForestKnown, argEnv, ym, yo, yg, ys, yt, yd, ye]
  refine xr 1 rfl ?_
  refine xju (ok_mkL (l := [(0, 1, .int .u8 1)]) (cs := hC (hK 1)) rfl (hK_fill 1)) rfl ?_
  refine xju (ok_mkL (l := [(0, 1, .int .u8 2)]) (cs := hC (hK 2)) rfl (hK_fill 2)) rfl ?_
  refine xju (ok_mkL (l := [(0, 1, .int .u8 3)]) (cs := hC (hK 3)) rfl (hK_fill 3)) rfl ?_
  refine xju (ok_mkL (l := [(0, 1, .int .u8 4)]) (cs := hC (hK 4)) rfl (hK_fill 4)) rfl ?_
  refine xju (ok_mkL (l := [(0, 1, .int .u8 5)]) (cs := hC (hK 5)) rfl (hK_fill 5)) rfl ?_
  refine exec_new rfl ?_
  intro b1 w1 hb1 hs1 hu1 hB1
  refine exec_new rfl ?_
  intro b2 w2 hb2 hs2 hu2 hB2
  refine exec_new rfl ?_
  intro b3 w3 hb3 hs3 hu3 hB3
  refine exec_new rfl ?_
  intro b4 w4 hb4 hs4 hu4 hB4
  refine exec_new rfl ?_
  intro b5 w5 hb5 hs5 hu5 hB5
  have z0 := hB1.lt
  refine exec_store (b := b1) (o := 0) (v := hV (hK 1)) rfl rfl ((((hB1.upd hu2).upd hu3).upd hu4).upd hu5) (hV_size _) (by simp [rle]) (by rw [hV_cells]; exact hC_cell _) ?_
  intro w6 hu6 s6 hC1
  refine exec_store (b := b2) (o := 0) (v := hV (hK 2)) rfl rfl ((((hB2.upd hu3).upd hu4).upd hu5).upd hu6 (by simp; omega)) (hV_size _) (by simp [rle]) (by rw [hV_cells]; exact hC_cell _) ?_
  intro w7 hu7 s7 hC2
  refine exec_store (b := b3) (o := 0) (v := hV (hK 3)) rfl rfl ((((hB3.upd hu4).upd hu5).upd hu6 (by simp; omega)).upd hu7 (by simp; omega)) (hV_size _) (by simp [rle]) (by rw [hV_cells]; exact hC_cell _) ?_
  intro w8 hu8 s8 hC3
  refine exec_store (b := b4) (o := 0) (v := hV (hK 4)) rfl rfl ((((hB4.upd hu5).upd hu6 (by simp; omega)).upd hu7 (by simp; omega)).upd hu8 (by simp; omega)) (hV_size _) (by simp [rle]) (by rw [hV_cells]; exact hC_cell _) ?_
  intro w9 hu9 s9 hC4
  refine exec_store (b := b5) (o := 0) (v := hV (hK 5)) rfl rfl ((((hB5.upd hu6 (by simp; omega)).upd hu7 (by simp; omega)).upd hu8 (by simp; omega)).upd hu9 (by simp; omega)) (hV_size _) (by simp [rle]) (by rw [hV_cells]; exact hC_cell _) ?_
  intro w10 hu10 s10 hC5
  rw [hV_cells, splice_all (by simp [hC_length, rle])] at hC1 hC2 hC3 hC4 hC5
  have hD1 := (((hC1.upd hu7 (by simp; omega)).upd hu8 (by simp; omega)).upd hu9 (by simp; omega)).upd hu10 (by simp; omega)
  have hD2 := ((hC2.upd hu8 (by simp; omega)).upd hu9 (by simp; omega)).upd hu10 (by simp; omega)
  have hD3 := (hC3.upd hu9 (by simp; omega)).upd hu10 (by simp; omega)
  have hD4 := hC4.upd hu10 (by simp; omega)
  have hE5 := (((hu1.trans hu2).trans hu3).trans hu4).trans hu5
  have hE : Ext w w10 := ((((hE5.trans hu6 (fun b hb => .inr (by simp at hb; omega))).trans hu7 (fun b hb => .inr (by simp at hb; omega))).trans hu8 (fun b hb => .inr (by simp at hb; omega))).trans hu9 (fun b hb => .inr (by simp at hb; omega))).trans hu10 (fun b hb => .inr (by simp at hb; omega))
  clear hB1 hB2 hB3 hB4 hB5 hC1 hC2 hC3 hC4
  refine xen [(1, ptrV b1), (2, ptrV b2), (3, ptrV b3), (4, ptrV b4), (5, ptrV b5)] ⟨rfl, rfl, rfl, rfl, rfl, trivial⟩ ?_
  refine xca rfl rfl (new_ok A.toForM) ?_
  rintro _ w11 ⟨p, m, rfl, hp, hm, hF, hu11⟩
  have K0 : KSt A w w11 p m w10.heap.size b1 b2 b3 b4 b5 ⟨[], 0, 0⟩ := ⟨hE.trans hu11, hT.upd (hE.trans hu11), hF, ⟨hE.size, hp, hm⟩, ⟨hD1.lt, hD2.lt, hD3.lt, hD4.lt, hC5.lt⟩, hD1.upd hu11, hD2.upd hu11, hD3.upd hu11, hD4.upd hu11, hC5.upd hu11⟩
  clear hD1 hD2 hD3 hD4 hC5 hu1 hu2 hu3 hu4 hu5 hu6 hu7 hu8 hu9 hu10 hE hE5 hF
  refine xr 2 rfl ?_
  refine exec_loadN (b := b1) (o := 0) (vs := hC (hK 1)) rfl rfl K0.k1.memAll (hC_length _) ?_
  refine exec_loadN (b := b2) (o := 0) (vs := hC (hK 2)) rfl rfl K0.k2.memAll (hC_length _) ?_
  refine exec_loadN (b := b3) (o := 0) (vs := hC (hK 3)) rfl rfl K0.k3.memAll (hC_length _) ?_
  refine exec_loadN (b := b4) (o := 0) (vs := hC (hK 4)) rfl rfl K0.k4.memAll (hC_length _) ?_
  refine exec_loadN (b := b5) (o := 0) (vs := hC (hK 5)) rfl rfl K0.k5.memAll (hC_length _) ?_
  refine exec_litL (N := 32) (cs := hs [hK 1, hK 2, hK 3, hK 4, hK 5]) (l := [(0, 32, hV (hK 1)), (32, 32, hV (hK 2)), (64, 32, hV (hK 3)), (96, 32, hV (hK 4)), (128, 32, hV (hK 5))]) rfl fill12 rfl rfl ?_
  intro bl W0 hbl hs0 h0 hOl
  have K1 := K0.go h0
  refine xca rfl rfl (mod_yes A.toForL K1.tabs K1.f (del := []) (add := [hK 1, hK 2, hK 3, hK 4, hK 5]) (nilS _) hOl.sl (by decide) (by decide) (by decide) gk1 mk1) ?_
  rintro v W1 ⟨u1, rfl, l1, c1, f1, hU1, h1⟩
  have K2 : KSt A w W1 p m _ b1 b2 b3 b4 b5 ⟨lk1, 1, 1⟩ := K1.step f1 h1
  clear K0 K1 hU1
  refine xr 3 rfl ?_
  refine exec_new_store (v := .agg u1.toArray) rfl rfl rfl (by simpa [Value.cells] using l1) rfl (by simpa [Value.cells] using c1) ?_
  intro b7 W2 hb7 hs2' h2 hB7
  have K3 := K2.go h2
  clear hB7 K2
  refine xr 2 rfl ?_
  refine exec_loadN (b := b5) (o := 0) (vs := hC (hK 5)) rfl rfl K3.k5.memAll (hC_length _) ?_
  refine xca rfl rfl (where_k A.toForN K3.f (q := 4) (x := 4) rfl where_lk1a) ?_
  rintro _ W3 ⟨rfl, hW3⟩
  have K4 := K3.go hW3
  refine xr 6 rfl ?_
  refine exec_loadN (b := b3) (o := 0) (vs := hC (hK 3)) rfl rfl K4.k3.memAll (hC_length _) ?_
  refine xca rfl rfl (where_k A.toForN K4.f (q := 2) (x := 2) rfl where_lk1b) ?_
  rintro _ W4 ⟨rfl, hW4⟩
  have K5 := K4.go hW4
  refine xr 6 rfl ?_
  refine xca rfl rfl (at_yes A.toForS K5.f 12 (by decide) at_lk1) ?_
  rintro _ W5 ⟨rfl, hW5⟩
  have K6 := K5.go hW5
  refine xr 3 rfl ?_
  refine exec_new_store (v := hV (parH (parH (hK 1) (hK 2)) (parH (hK 3) (hK 4)))) rfl rfl rfl (hV_size _) rfl (by rw [hV_cells]; exact hC_cell _) ?_
  intro bW6 W6 hbW6 hsW6 hW6 hBW6
  rw [hV_cells] at hBW6
  have dW6 := K6.far hbW6
  have K6 := K6.go hW6
  refine xr 2 rfl ?_
  refine exec_loadN (b := b1) (o := 0) (vs := hC (hK 1)) rfl rfl K6.k1.memAll (hC_length _) ?_
  refine exec_litL (N := 32) (cs := hs [hK 1]) (l := [(0, 32, hV (hK 1))]) rfl (by rw [hash_fill]; simp [hs]) rfl rfl ?_
  intro bW7 W7 hbW7 hsW7 hW7 hOW7
  have K7 := K6.go hW7
  refine xca rfl rfl (mod_yes A.toForL K7.tabs K7.f (del := [hK 1]) (add := []) hOW7.sl (nilS _) (by decide) (by decide) (by decide) gk2 mk2) ?_
  rintro v W8 ⟨u2, rfl, l2, c2, f2, hU2, h8⟩
  have K8 : KSt A w W8 p m _ b1 b2 b3 b4 b5 ⟨lk2, 2, 2⟩ := K7.step f2 h8
  have hB12 := (hBW6.upd hW7).upd h8 dW6
  clear hU2 hBW6
  refine xr 3 rfl ?_
  refine exec_new_store (v := .agg u2.toArray) rfl rfl rfl (by simpa [Value.cells] using l2) rfl (by simpa [Value.cells] using c2) ?_
  intro b15 W9 hb15 hs15 h9 hB15
  have K9 := K8.go h9
  have hB12 := hB12.upd h9
  clear hB15
  refine xr 2 rfl ?_
  refine exec_loadN (b := b2) (o := 0) (vs := hC (hK 2)) rfl rfl K9.k2.memAll (hC_length _) ?_
  refine xca rfl rfl (where_k A.toForN K9.f (q := 8) (x := 1) rfl where_lk2a) ?_
  rintro _ W10 ⟨rfl, hW10⟩
  have K10 := K9.go hW10
  refine xr 6 rfl ?_
  refine exec_loadN (b := b3) (o := 0) (vs := hC (hK 3)) rfl rfl K10.k3.memAll (hC_length _) ?_
  refine xca rfl rfl (where_k A.toForN K10.f (q := 2) (x := 2) rfl where_lk2b) ?_
  rintro _ W11 ⟨rfl, hW11⟩
  have K11 := K10.go hW11
  refine xr 6 rfl ?_
  refine xca rfl rfl (at_none A.toForS K11.f 0 (by decide) at_lk2a) ?_
  rintro _ W12 ⟨rfl, hW12⟩
  have K12 := K11.go hW12
  refine xr 3 rfl ?_
  refine exec_new_store (v := hV hZ) rfl rfl rfl (hV_size _) rfl (by rw [hV_cells]; exact hC_cell _) ?_
  intro bW13 W13 hbW13 hsW13 hW13 hBW13
  rw [hV_cells] at hBW13
  have dW13 := K12.far hbW13
  have K12 := K12.go hW13
  refine xr 2 rfl ?_
  refine xca rfl rfl (at_none A.toForS K12.f 1 (by decide) at_lk2b) ?_
  rintro _ W14 ⟨rfl, hW14⟩
  have K13 := K12.go hW14
  refine xr 3 rfl ?_
  refine exec_new_store (v := hV hZ) rfl rfl rfl (hV_size _) rfl (by rw [hV_cells]; exact hC_cell _) ?_
  intro bW15 W15 hbW15 hsW15 hW15 hBW15
  rw [hV_cells] at hBW15
  have dW15 := K13.far hbW15
  have K13 := K13.go hW15
  refine xr 2 rfl ?_
  refine xca rfl rfl (at_yes A.toForS K13.f 8 (by decide) at_lk2c) ?_
  rintro _ W16 ⟨rfl, hW16⟩
  have K14 := K13.go hW16
  refine xr 3 rfl ?_
  refine exec_new_store (v := hV (hK 2)) rfl rfl rfl (hV_size _) rfl (by rw [hV_cells]; exact hC_cell _) ?_
  intro bW17 W17 hbW17 hsW17 hW17 hBW17
  rw [hV_cells] at hBW17
  have dW17 := K14.far hbW17
  have K14 := K14.go hW17
  refine xr 1 rfl ?_
  have hB12 := ((((((((hB12.upd hW10).upd hW11).upd hW12).upd hW13).upd hW14).upd hW15).upd hW16).upd hW17)
  refine xen [(1, ptrV b1), (2, ptrV b2), (3, ptrV b3), (4, ptrV b4), (6, ptrV p), (8, intV' 0), (9, u64V 4), (10, .bool true), (11, u64V 2), (12, .bool true), (13, ptrV bW6), (14, .bool true), (16, intV' 0), (17, u64V 8), (19, u64V 2), (22, .bool false), (24, .bool false), (25, ptrV bW17), (26, .bool true)] ⟨rfl, rfl, rfl, rfl, rfl, rfl, rfl, rfl, rfl, rfl, rfl, rfl, rfl, rfl, rfl, rfl, rfl, rfl, rfl, trivial⟩ ?_
  refine exec_dwr rfl rfl rfl ?_
  repeat (first | refine wtm rfl rfl rfl ?_ | refine wgt rfl rfl rfl rfl ?_ | refine wgs rfl rfl ?_ | refine ws_gskipU rfl rfl ?_)
  refine ws_val rfl (pv_neqI (a := 0) (b := 0) (q := false) rfl rfl rfl) ?_
  repeat (first | refine wtm rfl rfl rfl ?_ | refine wgt rfl rfl rfl rfl ?_ | refine wgs rfl rfl ?_ | refine ws_gskipU rfl rfl ?_)
  refine ws_gval rfl rfl (pv_neqI (K := .u64) (a := 4) (b := 4) (q := false) rfl rfl rfl) ?_
  repeat (first | refine wtm rfl rfl rfl ?_ | refine wgt rfl rfl rfl rfl ?_ | refine wgs rfl rfl ?_ | refine ws_gskipU rfl rfl ?_)
  refine ws_gval rfl rfl (pv_neqI (K := .u64) (a := 2) (b := 2) (q := false) rfl rfl rfl) ?_
  repeat (first | refine wtm rfl rfl rfl ?_ | refine wgt rfl rfl rfl rfl ?_ | refine wgs rfl rfl ?_ | refine ws_gskipU rfl rfl ?_)
  refine ws_gkeep (hV (parH (parH (hK 1) (hK 2)) (parH (hK 3) (hK 4)))) rfl rfl (fun X hx => ok_loadN (b := bW6) (o := 0) rfl (hB12.upd hx).memAll (hC_length _)) ?_
  refine ws_gkeep (hV (hK 1)) rfl rfl (fun X hx => ok_loadN (b := b1) (o := 0) rfl (K14.k1.upd hx).memAll (hC_length _)) ?_
  refine ws_gkeep (hV (hK 2)) rfl rfl (fun X hx => ok_loadN (b := b2) (o := 0) rfl (K14.k2.upd hx).memAll (hC_length _)) ?_
  refine ws_gext (hV (parH (hK 1) (hK 2))) rfl rfl (fun X hx => ok_call rfl (parH_ok A.toLeafF (K14.tabs.upd hx) (hK 1) (hK 2))) ?_
  refine ws_gkeep (hV (hK 3)) rfl rfl (fun X hx => ok_loadN (b := b3) (o := 0) rfl (K14.k3.upd hx).memAll (hC_length _)) ?_
  refine ws_gkeep (hV (hK 4)) rfl rfl (fun X hx => ok_loadN (b := b4) (o := 0) rfl (K14.k4.upd hx).memAll (hC_length _)) ?_
  refine ws_gext (hV (parH (hK 3) (hK 4))) rfl rfl (fun X hx => ok_call rfl (parH_ok A.toLeafF (K14.tabs.upd hx) (hK 3) (hK 4))) ?_
  refine ws_gext (hV (parH (parH (hK 1) (hK 2)) (parH (hK 3) (hK 4)))) rfl rfl (fun X hx => ok_call rfl (parH_ok A.toLeafF (K14.tabs.upd hx) (parH (hK 1) (hK 2)) (parH (hK 3) (hK 4)))) ?_
  refine ws_gkeep (.bool false) rfl rfl (fun X hx => ok_ne_same A.h_TH rfl rfl) ?_
  repeat (first | refine wtm rfl rfl rfl ?_ | refine wgt rfl rfl rfl rfl ?_ | refine wgs rfl rfl ?_ | refine ws_gskipU rfl rfl ?_)
  refine ws_gval rfl rfl (pv_neqI (a := 0) (b := 0) (q := false) rfl rfl rfl) ?_
  repeat (first | refine wtm rfl rfl rfl ?_ | refine wgt rfl rfl rfl rfl ?_ | refine wgs rfl rfl ?_ | refine ws_gskipU rfl rfl ?_)
  refine ws_gval rfl rfl (pv_neqI (K := .u64) (a := 8) (b := 8) (q := false) rfl rfl rfl) ?_
  repeat (first | refine wtm rfl rfl rfl ?_ | refine wgt rfl rfl rfl rfl ?_ | refine wgs rfl rfl ?_ | refine ws_gskipU rfl rfl ?_)
  refine ws_gval rfl rfl (pv_neqI (K := .u64) (a := 2) (b := 2) (q := false) rfl rfl rfl) ?_
  repeat (first | refine wtm rfl rfl rfl ?_ | refine wgt rfl rfl rfl rfl ?_ | refine wgs rfl rfl ?_ | refine ws_gskipU rfl rfl ?_)
  refine ws_gkeep (hV (hK 2)) rfl rfl (fun X hx => ok_loadN (b := bW17) (o := 0) rfl (hBW17.upd hx).memAll (hC_length _)) ?_
  refine ws_gkeep (hV (hK 2)) rfl rfl (fun X hx => ok_loadN (b := b2) (o := 0) rfl (K14.k2.upd hx).memAll (hC_length _)) ?_
  refine ws_fin fun W18 hW18 => ?_
  have K15 := K14.go hW18
  clear hB12 hBW17 hBW13 hBW15
  refine xgr rfl ?_
  refine xju (ok_ne_same A.h_TH rfl rfl) rfl ?_
  refine xr 10 rfl ?_
  refine xen [(1, ptrV b1), (2, ptrV b2), (3, ptrV b3), (4, ptrV b4), (6, ptrV p), (187, ptrV p)] ⟨rfl, rfl, rfl, rfl, rfl, rfl, trivial⟩ ?_
  refine exec_loadN (b := b2) (o := 0) (vs := hC (hK 2)) rfl rfl K15.k2.memAll (hC_length _) ?_
  refine exec_litL (N := 32) (cs := hs [hK 2]) (l := [(0, 32, hV (hK 2))]) rfl (by rw [hash_fill]; simp [hs]) rfl rfl ?_
  intro bW19 W19 hbW19 hsW19 hW19 hOW19
  have K16 := K15.go hW19
  obtain ⟨qT, qH⟩ := proofK K16.f
  refine xca rfl rfl (proveK_yes A.toForT K16.f (l := [hK 2]) hOW19.sl (by decide) (by decide) (by decide) qT qH) ?_
  rintro _ W20 ⟨tv, hv, rfl, hOt, hOh, htb, hhb, hW20⟩
  have K17 := K16.go hW20
  have dt : ∀ b ∈ blkOf tv, b ∉ [p, m] := fun b hb => by have h1 := htb b hb; have h2 := K16.f.lt; simp; omega
  have dh : ∀ b ∈ blkOf hv, b ∉ [p, m] := fun b hb => by have h1 := hhb b hb; have h2 := K16.f.lt; simp; omega
  obtain ⟨ta, tl, tc, htv⟩ := hOt.slice
  obtain ⟨ha, hll, hcc, hhv⟩ := hOh.slice
  subst htv hhv
  refine xr 3 rfl ?_
  refine exec_new_store (v := .agg #[.slice ta tl tc, .slice ha hll hcc]) rfl rfl rfl rfl rfl rfl ?_
  intro b27 W21 hb27 hs27 hW21 hB27
  have hB27 : Blk W21 b27 [.slice ta tl tc, .slice ha hll hcc] := hB27
  have d27 := K17.far hb27
  have K18 := K17.go hW21
  refine xr 2 rfl ?_
  refine exec_loadN (b := b1) (o := 0) (vs := hC (hK 1)) rfl rfl K18.k1.memAll (hC_length _) ?_
  refine exec_litL (N := 32) (cs := hs [hK 1]) (l := [(0, 32, hV (hK 1))]) rfl (by rw [hash_fill]; simp [hs]) rfl rfl ?_
  intro bW22 W22 hbW22 hsW22 hW22 hOW22
  have K19 := K18.go hW22
  refine xca rfl rfl (proveK_no A.toForT K19.f (l := [hK 1]) hOW22.sl (by decide) (by decide)) ?_
  rintro _ W23 ⟨rfl, hW23⟩
  have K20 := K19.go hW23
  refine xr 3 rfl ?_
  refine exec_new_store (v := .agg #[.slice none 0 0, .slice none 0 0]) rfl rfl rfl rfl rfl rfl ?_
  intro bW24 W24 hbW24 hsW24 hW24 hBW24
  have K21 := K20.go hW24
  refine xr 2 rfl ?_
  refine exec_loadN (b := b2) (o := 0) (vs := hC (hK 2)) rfl rfl K21.k2.memAll (hC_length _) ?_
  refine exec_loadN (b := b2) (o := 0) (vs := hC (hK 2)) rfl rfl K21.k2.memAll (hC_length _) ?_
  refine exec_litL (N := 32) (cs := hs [hK 2, hK 2]) (l := [(0, 32, hV (hK 2)), (32, 32, hV (hK 2))]) rfl rfl rfl rfl ?_
  intro bW25 W25 hbW25 hsW25 hW25 hOW25
  have K22 := K21.go hW25
  refine xca rfl rfl (proveK_two A.toForT K22.f (l := [hK 2, hK 2]) hOW25.sl (by decide) (by decide) (by decide)) ?_
  rintro _ W26 ⟨rfl, hW26⟩
  have K23 := K22.go hW26
  refine xr 3 rfl ?_
  refine exec_new_store (v := .agg #[.slice none 0 0, .slice none 0 0]) rfl rfl rfl rfl rfl rfl ?_
  intro bW27 W27 hbW27 hsW27 hW27 hBW27
  have K24 := K23.go hW27
  refine xr 2 rfl ?_
  have g27 := ((((((hW22.trans hW23).trans hW24).trans hW25).trans hW26).trans hW27))
  have hB27 := hB27.upd g27
  have hOt := (hOt.upd hW21 (by simp)).upd g27 (by simp)
  have hOh := (hOh.upd hW21 (by simp)).upd g27 (by simp)
  clear hBW24 hBW27 hOW19 hOW22 hOW25
  refine xen [(1, ptrV b1), (2, ptrV b2), (3, ptrV b3), (4, ptrV b4), (6, ptrV p), (27, ptrV b27), (28, intV' 0), (30, intV' 5), (32, intV' 24), (209, ptrV p)] ⟨rfl, rfl, rfl, rfl, rfl, rfl, rfl, rfl, rfl, rfl, trivial⟩ ?_
  refine exec_loadN (b := b2) (o := 0) (vs := hC (hK 2)) rfl rfl K24.k2.memAll (hC_length _) ?_
  refine exec_litL (N := 32) (cs := hs [hK 2]) (l := [(0, 32, hV (hK 2))]) rfl (by rw [hash_fill]; simp [hs]) rfl rfl ?_
  intro bW28 W28 hbW28 hsW28 hW28 hOW28
  have K25 := K24.go hW28
  refine xca rfl rfl (mod_yes A.toForL K25.tabs K25.f (del := [hK 2]) (add := []) hOW28.sl (nilS _) (by decide) (by decide) (by decide) gk3 mk3) ?_
  rintro v W29 ⟨u3, rfl, l3, c3, f3, hU3, hW29⟩
  have K26 : KSt A w W29 p m _ b1 b2 b3 b4 b5 ⟨lk3, 3, 3⟩ := K25.step f3 hW29
  have hB27 := (hB27.upd hW28).upd hW29 d27
  have hOt := (hOt.upd hW28 (by simp)).upd hW29 dt
  have hOh := (hOh.upd hW28 (by simp)).upd hW29 dh
  refine xr 3 rfl ?_
  refine exec_new_store (v := .agg u3.toArray) rfl rfl rfl (by simpa [Value.cells] using l3) rfl (by simpa [Value.cells] using c3) ?_
  intro b33 W30 hb33 hs33 hW30 hB33
  have hB33 : Blk W30 b33 u3 := hB33
  have d33 := K26.far hb33
  have K27 := K26.go hW30
  refine xr 2 rfl ?_
  refine exec_loadN (b := b3) (o := 0) (vs := hC (hK 3)) rfl rfl K27.k3.memAll (hC_length _) ?_
  refine xca rfl rfl (where_k A.toForN K27.f (q := 8) (x := 2) rfl where_lk3) ?_
  rintro _ W31 ⟨rfl, hW31⟩
  have K28 := K27.go hW31
  refine xr 6 rfl ?_
  have g31 := hW30.trans hW31
  have hU3 : UAt W31 (.agg u3.toArray) p m ⟨lk2, 2, 2⟩ 3 [hK 2] [] := hU3.upd g31 (Foreign.nil _) (by simp)
  refine exec_loadN (b := b33) (o := 0) (vs := u3) rfl rfl (hB33.upd hW31).memAll l3 ?_
  refine xca rfl rfl (undo_ok A.toForQ K28.f hU3 mk3.symm gk3) ?_
  rintro _ W32 ⟨rfl, f4, hW32⟩
  have K29 : KSt A w W32 p m _ b1 b2 b3 b4 b5 ⟨lk2, 2, 3⟩ := K28.step f4 hW32
  have hB27 := (hB27.upd g31).upd hW32 d27
  have hOt := (hOt.upd g31 (by simp)).upd hW32 dt
  have hOh := (hOh.upd g31 (by simp)).upd hW32 dh
  have hB33 := (hB33.upd hW31).upd hW32 d33
  have hU3 := hU3.upd hW32 K28.f.foreign (fun b hb => by simp at hb; rcases hb with h | h <;> simp [h])
  refine xr 2 rfl ?_
  refine exec_loadN (b := b3) (o := 0) (vs := hC (hK 3)) rfl rfl K29.k3.memAll (hC_length _) ?_
  refine xca rfl rfl (where_k A.toForN K29.f (q := 2) (x := 2) rfl where_lk2b) ?_
  rintro _ W33 ⟨rfl, hW33⟩
  have K30 := K29.go hW33
  refine xr 6 rfl ?_
  refine exec_loadN (b := b2) (o := 0) (vs := hC (hK 2)) rfl rfl K30.k2.memAll (hC_length _) ?_
  refine xca rfl rfl (where_k A.toForN K30.f (q := 8) (x := 1) rfl where_lk2a) ?_
  rintro _ W34 ⟨rfl, hW34⟩
  have K31 := K30.go hW34
  refine xr 6 rfl ?_
  refine exec_loadN (b := b2) (o := 0) (vs := hC (hK 2)) rfl rfl K31.k2.memAll (hC_length _) ?_
  refine exec_litL (N := 32) (cs := hs [hK 2]) (l := [(0, 32, hV (hK 2))]) rfl (by rw [hash_fill]; simp [hs]) rfl rfl ?_
  intro bW35 W35 hbW35 hsW35 hW35 hOW35
  have K32 := K31.go hW35
  refine xca rfl rfl (mod_no A.toForL K32.tabs K32.f (del := []) (add := [hK 2]) (nilS _) hOW35.sl (by decide) (by decide) (by decide) ng1 (fun _ h => rf0 h)) ?_
  rintro _ W36 ⟨rfl, hW36⟩
  have K33 := K32.go hW36
  refine xr 3 rfl ?_
  refine exec_new_store (v := .agg undoZ.toArray) rfl rfl rfl rfl rfl rfl ?_
  intro bW37 W37 hbW37 hsW37 hW37 hBW37
  have K34 := K33.go hW37
  refine xr 2 rfl ?_
  refine xju (ok_mkL (l := [(0, 1, .int .u8 6)]) (cs := hC (hK 6)) rfl (hK_fill 6)) rfl ?_
  refine xju (ok_mkL (l := [(0, 1, .int .u8 6)]) (cs := hC (hK 6)) rfl (hK_fill 6)) rfl ?_
  refine exec_litL (N := 32) (cs := hs [hK 6, hK 6]) (l := [(0, 32, hV (hK 6)), (32, 32, hV (hK 6))]) rfl rfl rfl rfl ?_
  intro bW38 W38 hbW38 hsW38 hW38 hOW38
  have K35 := K34.go hW38
  refine xca rfl rfl (mod_no A.toForL K35.tabs K35.f (del := []) (add := [hK 6, hK 6]) (nilS _) hOW38.sl (by decide) (by decide) (by decide) ng2 (fun _ h => rf0 h)) ?_
  rintro _ W39 ⟨rfl, hW39⟩
  have K36 := K35.go hW39
  refine xr 3 rfl ?_
  refine exec_new_store (v := .agg undoZ.toArray) rfl rfl rfl rfl rfl rfl ?_
  intro bW40 W40 hbW40 hsW40 hW40 hBW40
  have K37 := K36.go hW40
  refine xr 2 rfl ?_
  refine xju (ok_mkL (l := [(0, 1, .int .u8 6)]) (cs := hC (hK 6)) rfl (hK_fill 6)) rfl ?_
  refine exec_litL (N := 32) (cs := hs [hK 6]) (l := [(0, 32, hV (hK 6))]) rfl (by rw [hash_fill]; simp [hs]) rfl rfl ?_
  intro bW41 W41 hbW41 hsW41 hW41 hOW41
  have K38 := K37.go hW41
  refine xca rfl rfl (mod_no A.toForL K38.tabs K38.f (del := [hK 6]) (add := []) hOW41.sl (nilS _) (by decide) (by decide) (by decide) ng3 (fun _ h => rf3 h)) ?_
  rintro _ W42 ⟨rfl, hW42⟩
  have K39 := K38.go hW42
  refine xr 3 rfl ?_
  refine exec_new_store (v := .agg undoZ.toArray) rfl rfl rfl rfl rfl rfl ?_
  intro bW43 W43 hbW43 hsW43 hW43 hBW43
  have K40 := K39.go hW43
  refine xr 1 rfl ?_
  have g43 := ((((((((((hW33.trans hW34).trans hW35).trans hW36).trans hW37).trans hW38).trans hW39).trans hW40).trans hW41).trans hW42).trans hW43)
  have hB27 := hB27.upd g43
  have hOt := hOt.upd g43 (by simp)
  have hOh := hOh.upd g43 (by simp)
  have hB33 := hB33.upd g43
  have hU3 := hU3.upd g43 (Foreign.nil _) (by simp)
  clear hBW37 hBW40 hBW43 hOW35 hOW38 hOW41 hOW28
  obtain ⟨bt, ot, ct, htv, hmt, _⟩ := hOt.sl.at (by decide)
  obtain ⟨bh, oh, ch, hhv, hmh, _⟩ := hOh.sl.at (by decide)
  cases htv
  cases hhv
  refine xen [(1, ptrV b1), (2, ptrV b2), (3, ptrV b3), (4, ptrV b4), (6, ptrV p), (27, ptrV b27), (28, intV' 0), (30, intV' 5), (32, intV' 24), (33, ptrV b33), (34, intV' 0), (35, u64V 8), (37, intV' 0), (38, u64V 2), (40, u64V 8), (43, intV' 6), (45, intV' 6), (47, intV' 5)] ⟨rfl, rfl, rfl, rfl, rfl, rfl, rfl, rfl, rfl, rfl, rfl, rfl, rfl, rfl, rfl, rfl, rfl, rfl, trivial⟩ ?_
  refine exec_dwr rfl rfl rfl ?_
  repeat (first | refine wtm rfl rfl rfl ?_ | refine wgt rfl rfl rfl rfl ?_ | refine wgs rfl rfl ?_ | refine ws_gskipU rfl rfl ?_)
  refine ws_val rfl (pv_neqI (a := 0) (b := 0) (q := false) rfl rfl rfl) ?_
  repeat (first | refine wtm rfl rfl rfl ?_ | refine wgt rfl rfl rfl rfl ?_ | refine wgs rfl rfl ?_ | refine ws_gskipU rfl rfl ?_)
  refine ws_gkeep (.slice (some ⟨bt, ot, none⟩) 1 tc) rfl rfl (fun X hx => ok_load1 (b := b27) (o := 0 + 0) rfl ((hB27.upd hx).cell rfl)) ?_
  repeat (first | refine wtm rfl rfl rfl ?_ | refine wgt rfl rfl rfl rfl ?_ | refine wgs rfl rfl ?_ | refine ws_gskipU rfl rfl ?_)
  refine ws_gval rfl rfl (pv_neqI (a := 1) (b := 1) (q := false) rfl rfl rfl) ?_
  repeat (first | refine wtm rfl rfl rfl ?_ | refine wgt rfl rfl rfl rfl ?_ | refine wgs rfl rfl ?_ | refine ws_gskipU rfl rfl ?_)
  refine ws_gkeep (.slice (some ⟨bt, ot, none⟩) 1 tc) rfl rfl (fun X hx => ok_load1 (b := b27) (o := 0 + 0) rfl ((hB27.upd hx).cell rfl)) ?_
  refine ws_gkeep _ rfl rfl (fun X hx => ok_iaddr (N := 1) (b := bt) (o := ot) (len := 1) (cap := tc) rfl rfl 0 rfl (by omega)) ?_
  refine ws_gkeep (u64V 8) rfl rfl (fun X hx => ok_load1 (b := bt) (o := ot + 0 * 1) rfl ((hmt.upd hx (by simp)) 0 _ rfl)) ?_
  refine ws_gval rfl rfl (pv_neqI (K := .u64) (a := 8) (b := 8) (q := false) rfl rfl rfl) ?_
  repeat (first | refine wtm rfl rfl rfl ?_ | refine wgt rfl rfl rfl rfl ?_ | refine wgs rfl rfl ?_ | refine ws_gskipU rfl rfl ?_)
  refine ws_gkeep (.slice (some ⟨bh, oh, none⟩) 1 hcc) rfl rfl (fun X hx => ok_load1 (b := b27) (o := 0 + 1) rfl ((hB27.upd hx).cell rfl)) ?_
  repeat (first | refine wtm rfl rfl rfl ?_ | refine wgt rfl rfl rfl rfl ?_ | refine wgs rfl rfl ?_ | refine ws_gskipU rfl rfl ?_)
  refine ws_gval rfl rfl (pv_neqI (a := 1) (b := 1) (q := false) rfl rfl rfl) ?_
  repeat (first | refine wtm rfl rfl rfl ?_ | refine wgt rfl rfl rfl rfl ?_ | refine wgs rfl rfl ?_ | refine ws_gskipU rfl rfl ?_)
  refine ws_gkeep (.slice (some ⟨bh, oh, none⟩) 1 hcc) rfl rfl (fun X hx => ok_load1 (b := b27) (o := 0 + 1) rfl ((hB27.upd hx).cell rfl)) ?_
  refine ws_gkeep _ rfl rfl (fun X hx => ok_iaddr (N := 32) (b := bh) (o := oh) (len := 1) (cap := hcc) rfl rfl 0 rfl (by omega)) ?_
  refine ws_gkeep (hV (parH (hK 3) (hK 4))) rfl rfl (fun X hx => ok_loadN (b := bh) (o := oh + 0 * 32) rfl ((show Mem _ bh (oh + 0 * 32) (hC (parH (hK 3) (hK 4))) from by simpa [hs] using hmh).upd hx (by simp)) (hC_length _)) ?_
  refine ws_gkeep (hV (hK 3)) rfl rfl (fun X hx => ok_loadN (b := b3) (o := 0) rfl (K40.k3.upd hx).memAll (hC_length _)) ?_
  refine ws_gkeep (hV (hK 4)) rfl rfl (fun X hx => ok_loadN (b := b4) (o := 0) rfl (K40.k4.upd hx).memAll (hC_length _)) ?_
  refine ws_gext (hV (parH (hK 3) (hK 4))) rfl rfl (fun X hx => ok_call rfl (parH_ok A.toLeafF (K40.tabs.upd hx) (hK 3) (hK 4))) ?_
  refine ws_fin fun W44 hW44 => ?_
  have K41 := K40.go hW44
  have hB33 := hB33.upd hW44
  have hU3 := hU3.upd hW44 (Foreign.nil _) (by simp)
  clear hB27 hOt hOh hmt hmh
  refine xgr rfl ?_
  refine xju (ok_ne_same A.h_TH rfl rfl) rfl ?_
  refine xr 5 rfl ?_
  refine xpu (pv_neqI (a := 5) (b := 5) (q := false) rfl rfl rfl) rfl ?_
  refine xr 5 rfl ?_
  refine xpu (pv_neqI (a := 24) (b := 24) (q := false) rfl rfl rfl) rfl ?_
  refine xr 4 rfl ?_
  refine xpu (pv_neqI (a := 0) (b := 0) (q := false) rfl rfl rfl) rfl ?_
  refine xr 4 rfl ?_
  refine xpu (pv_neqI (K := .u64) (a := 8) (b := 8) (q := false) rfl rfl rfl) rfl ?_
  refine xr 5 rfl ?_
  refine xpu (pv_neqI (a := 0) (b := 0) (q := false) rfl rfl rfl) rfl ?_
  refine xr 5 rfl ?_
  refine xpu (pv_neqI (K := .u64) (a := 2) (b := 2) (q := false) rfl rfl rfl) rfl ?_
  refine xr 5 rfl ?_
  refine xpu (pv_neqI (K := .u64) (a := 8) (b := 8) (q := false) rfl rfl rfl) rfl ?_
  refine xr 5 rfl ?_
  refine xpu (pv_neqI (a := 6) (b := 6) (q := false) rfl rfl rfl) rfl ?_
  refine xr 5 rfl ?_
  refine xpu (pv_neqI (a := 6) (b := 6) (q := false) rfl rfl rfl) rfl ?_
  refine xr 5 rfl ?_
  refine xpu (pv_neqI (a := 5) (b := 5) (q := false) rfl rfl rfl) rfl ?_
  refine xr 4 rfl ?_
  refine xen [(1, ptrV b1), (6, ptrV p), (33, ptrV b33), (48, .pointer none)] ⟨rfl, rfl, rfl, rfl, trivial⟩ ?_
  refine xju (ok_mkL (l := []) (cs := emptyC) rfl rfl) rfl ?_
  refine exec_box rfl rfl ?_
  intro b49 W45 hb49 hs49 hW45 hB49
  have K42 := K41.go hW45
  have hN : NoF W45 (ptrV b49) := .inr ⟨_, rfl, hB49⟩
  refine xr 2 rfl ?_
  refine xca rfl rfl (modify_no A.toForL (.inl rfl)) ?_
  rintro _ W46 ⟨rfl, hW46⟩
  have K43 := K42.go hW46
  refine xr 3 rfl ?_
  refine exec_new_store (v := .agg undoZ.toArray) rfl rfl rfl rfl rfl rfl ?_
  intro bW47 W47 hbW47 hsW47 hW47 hBW47
  have K44 := K43.go hW47
  refine xr 2 rfl ?_
  have hN := (hN.ext hW46).ext hW47
  refine xca rfl rfl (prove_no A.toForT hN) ?_
  rintro _ W48 ⟨rfl, hW48⟩
  have K45 := K44.go hW48
  refine xr 3 rfl ?_
  refine exec_new_store (v := .agg #[.slice none 0 0, .slice none 0 0]) rfl rfl rfl rfl rfl rfl ?_
  intro bW49 W49 hbW49 hsW49 hW49 hBW49
  have K46 := K45.go hW49
  refine xr 2 rfl ?_
  have hN := (hN.ext hW48).ext hW49
  refine xca rfl rfl (at_no A.toForS (.inl rfl) 0) ?_
  rintro _ W50 ⟨rfl, hW50⟩
  have K47 := K46.go hW50
  refine xr 3 rfl ?_
  refine exec_new_store (v := hV hZ) rfl rfl rfl (hV_size _) rfl (by rw [hV_cells]; exact hC_cell _) ?_
  intro b54 W51 hb54 hs54 hW51 hB54
  have K48 := K47.go hW51
  have hN := (hN.ext hW50).ext hW51
  refine xr 2 rfl ?_
  refine exec_loadN (b := b1) (o := 0) (vs := hC (hK 1)) rfl rfl K48.k1.memAll (hC_length _) ?_
  refine xca rfl rfl (where_no A.toForN hN (hK 1)) ?_
  rintro _ W52 ⟨rfl, hW52⟩
  have K49 := K48.go hW52
  have hN := hN.ext hW52
  have g52 := (((((((hW45.trans hW46).trans hW47).trans hW48).trans hW49).trans hW50).trans hW51).trans hW52)
  have hB33 := hB33.upd g52
  have hU3 := hU3.upd g52 (Foreign.nil _) (by simp)
  clear hBW47 hBW49 hB54 hB49
  refine xr 6 rfl ?_
  refine xen [(6, ptrV p), (33, ptrV b33), (48, .pointer none), (49, ptrV b49), (53, intV' 1), (55, .bool false), (57, .bool false), (350, intV' 1)] ⟨rfl, rfl, rfl, rfl, rfl, rfl, rfl, rfl, trivial⟩ ?_
  refine xpu (pv_eqlI (a := 1) (b := 1) (q := true) rfl rfl rfl) rfl ?_
  refine xr 4 rfl ?_
  refine xpu (pv_eqlI (a := 1) (b := 1) (q := true) rfl rfl rfl) rfl ?_
  refine xr 17 rfl ?_
  refine exec_loadN (b := b33) (o := 0) (vs := u3) rfl rfl hB33.memAll l3 ?_
  refine xgr rfl ?_
  refine xca rfl rfl (undo_nil A.toForQ (.inl rfl)) ?_
  rintro _ W53 ⟨rfl, hW53⟩
  have K50 := K49.go hW53
  refine xgr rfl ?_
  refine xpu (pv_eqlI (a := 1) (b := 1) (q := true) rfl rfl rfl) rfl ?_
  refine xr 5 rfl ?_
  refine exec_loadN (b := b33) (o := 0) (vs := u3) rfl rfl (hB33.upd hW53).memAll l3 ?_
  refine xgr rfl ?_
  obtain ⟨cp, hcp⟩ : ∃ cs, Blk W53 p cs := let ⟨⟨_, _, h1, _⟩, _, _⟩ := K50.f; ⟨_, h1⟩
  refine xca rfl rfl (undo_no A.toForQ K50.f (hU3.upd hW53 (Foreign.nil _) (by simp)) hcp (.inr (by decide))) ?_
  rintro _ W54 ⟨rfl, hW54⟩
  have K51 := K50.go hW54
  refine xgr rfl ?_
  refine xpu (pv_eqlI (a := 2) (b := 2) (q := true) rfl rfl rfl) rfl ?_
  refine xr 5 rfl ?_
  refine xca rfl rfl (leaves_no A.toForP (.inl rfl) ⟨_, rfl⟩) ?_
  rintro _ W55 ⟨rfl, hW55⟩
  have K52 := K51.go hW55
  refine xr 3 rfl ?_
  refine xpu (pv_eqlI (a := 0) (b := 0) (q := true) rfl rfl rfl) rfl ?_
  refine xr 5 rfl ?_
  have hN := ((hN.ext hW53).ext hW54).ext hW55
  refine xca rfl rfl (texts_no A.toForV hN) ?_
  rintro _ W56 ⟨rfl, hW56⟩
  have K53 := K52.go hW56
  refine xr 3 rfl ?_
  refine xpu (pv_eqlI (a := 0) (b := 0) (q := true) rfl rfl rfl) rfl ?_
  refine xr 5 rfl ?_
  refine xca rfl rfl (copy_no A.toForR (hN.ext hW56)) ?_
  rintro _ W57 ⟨rfl, hW57⟩
  have K54 := K53.go hW57
  refine xr 1 rfl ?_
  refine xju (ok_eq_nilnil A.h_TPF rfl rfl) rfl ?_
  refine xr 5 rfl ?_
  refine xca rfl rfl (stump_no A.toForO (.inl rfl)) ?_
  rintro _ W58 ⟨rfl, hW58⟩
  have K55 := K54.go hW58
  refine xr 5 rfl ?_
  refine xpu (pv_eqlI (a := 0) (b := 0) (q := true) rfl rfl rfl) rfl ?_
  refine xr 3 rfl ?_
  refine xca rfl rfl (works_ok A.toLawG K55.tabs) ?_
  rintro _ W59 ⟨rfl, hW59⟩
  have K56 := K55.go hW59
  refine xr 2 rfl ?_
  exact xre hc [_] ⟨rfl, trivial⟩ ⟨rfl, K56.ext⟩
end
end Go.Sp
