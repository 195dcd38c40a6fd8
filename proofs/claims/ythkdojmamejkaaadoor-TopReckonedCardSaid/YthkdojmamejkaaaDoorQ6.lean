/- TopReckoned from its dot product on. -/
import Derived.Test.YthkdojmamejkaaaDoorQ8
import Derived.Test.YthkdojmamejkaaaDoorProg
import Derived.WalkKit
import Derived.WalkLawsBesides
import Derived.WalkSpells
import Derived.Deep.QuietTactic
import Derived.BigQuiet
import Derived.Deep.LoopGhost
import Derived.Deep.DeepFit
import Derived.Deep.DeepMust
import Derived.Lib.Hide
import Derived.Handy
import Derived.Deep.Light
import Derived.Laws.CopyOwn
import Derived.Deep.DeepCutAuto
import Derived.Deep.CutBlock
import Derived.Outline
set_option linter.unusedVariables false
set_option linter.unusedSimpArgs false
namespace Go.Proofs.YthkdojmamejkaaaDoor
open Go.RowKit
set_option maxHeartbeats 4000000 in
set_option maxRecDepth 100000 in
theorem TR6 (a b wide : Int) (A B S : Option Addr) (N M NS cl cm cs : Nat) (XS YS SS : List Int) (n p target kind bt : Int) (w0 w : World) {u3 u12 u13 u14 u15 u16 u17 u18 u19 u20 u21 u22 u23 u24 u26 u27 u28 u29 u30 u31 u32 u33 u34 u35 u36 u37 u38 u39 u40 u41 u42 u43 u44 u45 u46 u47 u48 u49 u50 u51 u52 u53 u54 u55 u56 u57 u58 u59 u60 u61 u62 u63 u64 u65 u66 u67 u68 u69 u70 u71 u72 u73 u74 u75 u76 u77 u78 u79 u80 u81 u82 u83 u84 u85 u86 u87 u88 u89 u90 u91 u92 u93 u94 u95 u96 u97 u98 u99 u100 u101 u102 u103 u104 u105 u106 u107 u108 u109 u110 u111 u112 u113 u114 u115 u116 u117 u118 u119 u120 u121 u122 u123 u124 u125 u126 u127 u128 u129 u130 u131 u132 u133 u134 u135 u136 u137 u138 u139 u140 u141 u142 u143 u144 u145 u146 u147 u148 u149 u150 u151 u152 u153 u154 u155 u156 u157 u158 u159 u160 u161 u162 u163 u164 u165 u166 u167 u168 u169 u170 u171 u172 u173 u174 u175 u176 u177 u178 u179 u180 u181 u182 u183 u184 u185 u186 u187 u188 u189 u190 u191 u192 u193 u194 u195 u196 u197 u198 u199 u200 u201 u202 u203 u204 u205 u206 u207 u208 u209 u210 u211 u212 u213 u214 u215 u216 u217 u218 u219 u220 u221 u222 u223 u224 u225 u226 u227 u228 u229 u230 u231 u232 u233 u234 u235 u236 u237 u238 u239 u240 u241 u242 u243 u244 u245 u246 u247 u248 u249 u250 u251 u252 u253 u254 u255 u256 u257 u258 u259 u260 u261 u262 u263 u264 u265 u266 u267 u268 u269 u270 u271 u272 u273 u274 u275 u276 u277 u278 u279 u280 u281 u282 u283 u284 u285 u286 u287 u288 u289 u290 u291 u292 u293 u294 u295 u296 u297 u298 u299 u300 u301 u302 u303 u304 u305 u306 u307 u308 u309 u310 u311 u312 u313 u314 u315 u316 u317 u318 u319 u320 u321 u322 u323 u324 u325 u326 u327 u328 u329 u330 u331 u332 u333 u334 u335 u336 u337 u338 u339 u340 u341 u342 u343 u344 u345 u346 u347 u348 u349 u350 u351 u352 u353 u354 u355 u356 u357 u358 u359 u360 u361 u362 u363 u364 u365 u366 u367 u368 u369 u370 u371 u372 u373 u374 u375 u376 u377 u378 u379 u380 u381 u382 u383 u384 u385 u386 u387 u388 u389 u390 u391 u392 u393 u394 u395 u396 u397 u398 u399 u400 u401 u402 u403 u404 u405 u406 u407 u408 u409 u410 u411 u412 u413 u414 u415 u416 u417 u418 u419 u420 u421 u422 u423 u424 u425 u426 u427 u428 u429 u430 u431 u432 u433 u434 u435 u436 u437 u438 u439 u440 u441 u442 u443 u444 u445 u446 u447 u448 u449 u450 u451 u452 u453 u454 u455 u456 u457 u458 u459 u460 u461 u462 u463 u464 u465 u466 u467 u468 u469 u470 u471 u472 u473 u474 u475 u476 u477 u478 u479 u480 u481 u482 u483 u484 u485 u486 u487 u488 u489 u490 u491 u492 u493 u494 u495 u496 u497 u498 u499 u500 u501 u502 u503 u504 u505 u506 u507 u508 u509 u510 u511 u512 u513 u514 u515 u516 u517 u518 u519 u520 u521 u522 u523 u524 u525 u526 u527 u528 u529 u530 u531 u532 u533 u534 u535 u536 u537 u538 u539 u540 : Value}
    (ha : -2147483648 ≤ a ∧ a ≤ 2147483647) (hb : -2147483648 ≤ b ∧ b ≤ 2147483647) (hw : -9223372036854775808 ≤ wide ∧ wide ≤ 9223372036854775807)
    (hn : -2147483648 ≤ n ∧ n ≤ 2147483647) (hp : -2147483648 ≤ p ∧ p ≤ 2147483647) (htg : -2147483648 ≤ target ∧ target ≤ 2147483647) (hkd : -9223372036854775808 ≤ kind ∧ kind ≤ 9223372036854775807) (hbt : 0 ≤ bt ∧ bt ≤ 255)
    (hx : RdI w .i32 A N XS) (hy : RdI w .i32 B M YS) (rx : InI32 XS) (ry : InI32 YS) (hN1 : N ≤ 20) (hM1 : M ≤ 20)
    (hs : RdI w .u8 S NS SS) (rs : InK8 SS) (hNS : NS ≤ 40) (hR0 : RowIs 0 .i64 w) (hR1 : RowIs 1 .i32 w) (hT : w.cell? ⟨3, 2, none⟩ = some (.int .u64 65535)) (hb0 : Below w0.heap.size w0 w) :
    Code.wp Tryd.prog (cTail 6 (cBody Tryd.f3)) (bodyPost Tryd.prog Tryd.f3 fun e w' => e = .returned (.bool true) ∧ Below w0.heap.size w0 w')
      ⟨#[.int .i32 a, .int .i32 b, .int .i64 wide, u3, .slice A N cl, .slice B M cm, .int .i32 n, .int .i32 p, .int .i32 target, .int .i64 kind, .slice S NS cs, .int .u8 bt, u12, u13, u14, u15, u16, u17, u18, u19, u20, u21, u22, u23, u24, .int .i64 a, u26, u27, u28, u29, u30, u31, u32, u33, u34, u35, u36, u37, u38, u39, u40, u41, u42, u43, u44, u45, u46, u47, u48, u49, u50, u51, u52, u53, u54, u55, u56, u57, u58, u59, u60, u61, u62, u63, u64, u65, u66, u67, u68, u69, u70, u71, u72, u73, u74, u75, u76, u77, u78, u79, u80, u81, u82, u83, u84, u85, u86, u87, u88, u89, u90, u91, u92, u93, u94, u95, u96, u97, u98, u99, u100, u101, u102, u103, u104, u105, u106, u107, u108, u109, u110, u111, u112, u113, u114, u115, u116, u117, u118, u119, u120, u121, u122, u123, u124, u125, u126, u127, u128, u129, u130, u131, u132, u133, u134, u135, u136, u137, u138, u139, u140, u141, u142, u143, u144, u145, u146, u147, u148, u149, u150, u151, u152, u153, u154, u155, u156, u157, u158, u159, u160, u161, u162, u163, u164, u165, u166, u167, u168, u169, u170, u171, u172, u173, u174, u175, u176, u177, u178, u179, u180, u181, u182, u183, u184, u185, u186, u187, u188, u189, u190, u191, u192, u193, u194, u195, u196, u197, u198, u199, u200, u201, u202, u203, u204, u205, u206, u207, u208, u209, u210, u211, u212, u213, u214, u215, u216, u217, u218, u219, u220, u221, u222, u223, u224, u225, u226, u227, u228, u229, u230, u231, u232, u233, u234, u235, u236, u237, u238, u239, u240, u241, u242, u243, u244, u245, u246, u247, u248, u249, u250, u251, u252, u253, u254, u255, u256, u257, u258, u259, u260, u261, u262, u263, u264, u265, u266, u267, u268, u269, u270, u271, u272, u273, u274, u275, u276, u277, u278, u279, u280, u281, u282, u283, u284, u285, u286, u287, u288, u289, u290, u291, u292, u293, u294, u295, u296, u297, u298, u299, u300, u301, u302, u303, u304, u305, u306, u307, u308, u309, u310, u311, u312, u313, u314, u315, u316, u317, u318, u319, u320, u321, u322, u323, u324, u325, u326, u327, u328, u329, u330, u331, u332, u333, u334, u335, u336, u337, u338, u339, u340, u341, u342, u343, u344, u345, u346, u347, u348, u349, u350, u351, u352, u353, u354, u355, u356, u357, u358, u359, u360, u361, u362, u363, u364, u365, u366, u367, u368, u369, u370, u371, u372, u373, u374, u375, u376, u377, u378, u379, u380, u381, u382, u383, u384, u385, u386, u387, u388, u389, u390, u391, u392, u393, u394, u395, u396, u397, u398, u399, u400, u401, u402, u403, u404, u405, u406, u407, u408, u409, u410, u411, u412, u413, u414, u415, u416, u417, u418, u419, u420, u421, u422, u423, u424, u425, u426, u427, u428, u429, u430, u431, u432, u433, u434, u435, u436, u437, u438, u439, u440, u441, u442, u443, u444, u445, u446, u447, u448, u449, u450, u451, u452, u453, u454, u455, u456, u457, u458, u459, u460, u461, u462, u463, u464, u465, u466, u467, u468, u469, u470, u471, u472, u473, u474, u475, u476, u477, u478, u479, u480, u481, u482, u483, u484, u485, u486, u487, u488, u489, u490, u491, u492, u493, u494, u495, u496, u497, u498, u499, u500, u501, u502, u503, u504, u505, u506, u507, u508, u509, u510, u511, u512, u513, u514, u515, u516, u517, u518, u519, u520, u521, u522, u523, u524, u525, u526, u527, u528, u529, u530, u531, u532, u533, u534, u535, u536, u537, u538, u539, u540], []⟩ w := by
  conv => arg 2; whnf
  go_upto_block 0 with (go_at_call 15; refine (c_Dot_any _ _ _ _ _ _ _ _ _ (hx) (hy) rx ry).mono ?_; rintro e w' ⟨rfl, nq5, rfl⟩)
  go_cut [28, 30, 145, 148, 149, 150] from 28 to 35 (fun s28 s30 s145 s148 s149 s150 wr => ∃ nq, wr = w.drewN nq)
  case first =>
    by_cases h1 : 16 < N ∨ 16 < M
    · have e1 : dotE N M = 4 := if_pos h1
      have e2 : dotV XS YS N M = 0 := if_pos h1
      go_wp2_with (fail)
      all_goals
        go_meet
        case rel => exact ⟨_, rfl⟩
    · by_cases h2 : N ≠ M
      · have e1 : dotE N M = 2 := by unfold dotE; rw [if_neg h1, if_pos h2]
        have e2 : dotV XS YS N M = 0 := by unfold dotV; rw [if_neg h1, if_pos h2]
        go_wp2_with (fail)
        all_goals
          go_meet
          case rel => exact ⟨_, rfl⟩
      · obtain rfl : N = M := by omega
        have hN : N ≤ 16 := by omega
        have e1 : dotE N N = 0 := by unfold dotE; rw [if_neg h1, if_neg h2]
        have e2 : dotV XS YS N N = sat (dotk XS YS N) := by unfold dotV; rw [if_neg h1, if_neg h2]
        clear h1 h2
        go_wp2_with (fail)
        go_loopw [31, 32, 153] (fun vh vl vi wr => ∃ (j : Nat) (hi lo : Int), j ≤ N ∧ vi = .int .i64 j ∧ vh = .int .i64 hi ∧ vl = .int .i64 lo ∧ TwoIs XS YS j hi lo ∧ ∃ nq, wr = w.drewN nq) (fun _ _ vi _ => N - (intOf vi).toNat)
        case atStart => exact ⟨0, 0, 0, by omega, rfl, rfl, rfl, ⟨rfl, by omega, by omega⟩, _, rfl⟩
        case round =>
          obtain ⟨j, hi, lo, hj, rfl, rfl, rfl, hd, nqr, rfl⟩ := hrel
          have hrg := dotk_rg XS YS rx ry j
          have hhi : (-100000000000 ≤ hi ∧ hi ≤ 100000000000) ∧ 0 ≤ lo ∧ lo ≤ 100000000000 := by
            obtain ⟨q1, q2, q3⟩ := hd
            omega
          have HD := Lib.hid hd
          have HR := Lib.hid hrg
          clear hd hrg
          by_cases hlt : j < N
          · obtain ⟨ad, rfl, hcx⟩ := hx.2.2 j hlt
            obtain ⟨bd, rfl, hcy⟩ := hy.2.2 j hlt
            have rxk := rx j
            have ryk := ry j
            have hp := mul_rg _ _ rxk ryk
            have hsu : dotk XS YS (j + 1) = dotk XS YS j + XS.getD j 0 * YS.getD j 0 := rfl
            have HS := Lib.hid hsu
            clear hsu
            have ha32 := i64_and32 (XS.getD j 0 * YS.getD j 0)
            generalize XS.getD j 0 = x at *
            generalize YS.getD j 0 = y at *
            go_wp2_with (fail)
            go_quiet (fail)
            go_wp2_with (fail)
            go_roundw
            case rel =>
              go_light
              refine ⟨j + 1, _, _, by omega, by go_num, rfl, rfl, ⟨?_, ?_⟩, _, rfl⟩
              · obtain ⟨q1, q2, q3⟩ := HD.out
                rw [HS.out]
                omega
              · obtain ⟨q1, q2, q3⟩ := HD.out
                omega
            case measure => simp [intOf]; omega
          · obtain rfl : j = N := by omega
            have hal := i64_and32 lo
            have hD : (hi + lo / 4294967296) * 4294967296 + lo % 4294967296 = dotk XS YS j := by
              obtain ⟨q1, q2, q3⟩ := HD.out
              omega
            by_cases g1 : 2147483647 < (hi + lo / 4294967296) * 4294967296 + lo % 4294967296
            · have e3 : sat (dotk XS YS j) = 2147483647 := by unfold sat; omega
              clear hD
              go_wp2_with (fail)
              all_goals
                go_meet
                case rel => exact ⟨_, rfl⟩
            · by_cases g2 : (hi + lo / 4294967296) * 4294967296 + lo % 4294967296 < -2147483648
              · have e3 : sat (dotk XS YS j) = -2147483648 := by unfold sat; omega
                clear hD
                go_wp2_with (fail)
                all_goals
                  go_meet
                  case rel => exact ⟨_, rfl⟩
              · have e3 : sat (dotk XS YS j) = (hi + lo / 4294967296) * 4294967296 + lo % 4294967296 := by unfold sat; omega
                clear hD
                go_wp2_with (fail)
                all_goals
                  go_meet
                  case rel => exact ⟨_, rfl⟩
  case rest =>
  obtain ⟨nq6, rfl⟩ := hcut
  go_step
  exact TR8 a b wide S NS cs SS n p target kind bt w0 (w.drewN nq6) ha hb hw hn hp htg hkd hbt (hs.drewN nq6) rs hNS (hR0.drewN nq6) (hR1.drewN nq6) hT (below_drewN' hb0 nq6)
end Go.Proofs.YthkdojmamejkaaaDoor
