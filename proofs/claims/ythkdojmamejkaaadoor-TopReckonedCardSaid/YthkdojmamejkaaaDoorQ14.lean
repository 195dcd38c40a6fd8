/- TopReckoned from its hashes on. -/
import Derived.Test.YthkdojmamejkaaaDoorPc
import Derived.Test.YthkdojmamejkaaaDoorProg
import Derived.WalkKit
import Derived.WalkLawsBesides
import Derived.WalkSpells
import Derived.Deep.QuietTactic
import Derived.BigQuiet
import Derived.Deep.LoopGhost
import Derived.Deep.DeepFit
import Derived.Deep.DeepMust
import Derived.Lib.Hide
import Derived.Handy
import Derived.Deep.Light
import Derived.Laws.CopyOwn
import Derived.Deep.DeepCutAuto
import Derived.Deep.CutBlock
import Derived.Outline
set_option linter.unusedVariables false
set_option linter.unusedSimpArgs false
namespace Go.Proofs.YthkdojmamejkaaaDoor
open Go.RowKit
theorem wrap_i64_nat (n : Int) (h0 : 0 ≤ n) (h1 : n < 2 ^ 63) : IntKind.i64.wrap n = n := by rw [IntKind.wrap_i64]; omega
theorem and_pow (d : Nat) (h : Int) (hd : d < 21) (h0 : 0 ≤ h ∧ h ≤ 4294967295) : bits BinOp.and IntKind.i64 h (2 ^ d - 1) = h % 2 ^ d :=
  bits_mask .i64 63 (by decide) wrap_i64_nat d (by omega) h h0.1 (by omega)
theorem pow_rg : ∀ d : Fin 21, 1 ≤ (2 : Int) ^ d.val ∧ (2 : Int) ^ d.val ≤ 1048576 := by decide +kernel
theorem pow_facts (d : Nat) (hd : d < 21) : (1 ≤ (2 : Int) ^ d ∧ (2 : Int) ^ d ≤ 1048576) ∧ bits BinOp.and IntKind.i64 (2 ^ d) (2 ^ d - 1) = 0 ∧ ∀ h : Int, 0 ≤ h → h ≤ 4294967295 → bits BinOp.and IntKind.i64 h (2 ^ d - 1) = h % 2 ^ d := by
  have h1 := pow_rg ⟨d, hd⟩
  refine ⟨h1, ?_, fun h h0 h2 => and_pow d h hd ⟨h0, h2⟩⟩
  have h1' : (1 ≤ (2 : Int) ^ d ∧ (2 : Int) ^ d ≤ 1048576) := h1
  rw [and_pow d (2 ^ d) hd ⟨by omega, by omega⟩, Int.emod_self]
set_option maxHeartbeats 4000000 in
set_option maxRecDepth 100000 in
theorem TR14 (b wide : Int) (S : Option Addr) (N cs : Nat) (XS : List Int) (kind bt : Int) (w0 w : World) {u0 u3 u4 u5 u6 u7 u8 u12 u13 u14 u15 u16 u17 u18 u19 u20 u21 u22 u23 u24 u25 u26 u27 u28 u29 u30 u31 u32 u33 u34 u35 u36 u37 u38 u39 u40 u41 u42 u43 u44 u45 u46 u47 u48 u49 u50 u51 u52 u53 u54 u55 u56 u57 u58 u59 u60 u61 u62 u63 u64 u65 u66 u67 u68 u69 u70 u71 u72 u73 u74 u75 u76 u77 u78 u79 u80 u81 u82 u83 u84 u85 u86 u87 u88 u89 u90 u91 u92 u93 u94 u95 u96 u97 u98 u99 u100 u101 u102 u103 u104 u105 u106 u107 u108 u109 u110 u111 u112 u113 u114 u115 u116 u117 u118 u119 u120 u121 u122 u123 u124 u125 u126 u127 u128 u129 u130 u131 u132 u133 u134 u135 u136 u137 u138 u139 u140 u141 u142 u143 u144 u145 u146 u147 u148 u149 u150 u151 u152 u153 u154 u155 u156 u157 u158 u159 u160 u161 u162 u163 u164 u165 u166 u167 u168 u169 u170 u171 u172 u173 u174 u175 u176 u177 u178 u179 u180 u181 u182 u183 u184 u185 u186 u187 u188 u189 u190 u191 u192 u193 u194 u195 u196 u197 u198 u199 u200 u201 u202 u203 u204 u205 u206 u207 u208 u209 u210 u211 u212 u213 u214 u215 u216 u217 u218 u219 u220 u221 u222 u223 u224 u225 u226 u227 u228 u229 u230 u231 u232 u233 u234 u235 u236 u237 u238 u239 u240 u241 u242 u243 u244 u245 u246 u247 u248 u249 u250 u251 u252 u253 u254 u255 u256 u257 u258 u259 u260 u261 u262 u263 u264 u265 u266 u267 u268 u269 u270 u271 u272 u273 u274 u275 u276 u277 u278 u279 u280 u281 u282 u283 u284 u285 u286 u287 u288 u289 u290 u291 u292 u293 u294 u295 u296 u297 u298 u299 u300 u301 u302 u303 u304 u305 u306 u307 u308 u309 u310 u311 u312 u313 u314 u315 u316 u317 u318 u319 u320 u321 u322 u323 u324 u325 u326 u327 u328 u329 u330 u331 u332 u333 u334 u335 u336 u337 u338 u339 u340 u341 u342 u343 u344 u345 u346 u347 u348 u349 u350 u351 u352 u353 u354 u355 u356 u357 u358 u359 u360 u361 u362 u363 u364 u365 u366 u367 u368 u369 u370 u371 u372 u373 u374 u375 u376 u377 u378 u379 u380 u381 u382 u383 u384 u385 u386 u387 u388 u389 u390 u391 u392 u393 u394 u395 u396 u397 u398 u399 u400 u401 u402 u403 u404 u405 u406 u407 u408 u409 u410 u411 u412 u413 u414 u415 u416 u417 u418 u419 u420 u421 u422 u423 u424 u425 u426 u427 u428 u429 u430 u431 u432 u433 u434 u435 u436 u437 u438 u439 u440 u441 u442 u443 u444 u445 u446 u447 u448 u449 u450 u451 u452 u453 u454 u455 u456 u457 u458 u459 u460 u461 u462 u463 u464 u465 u466 u467 u468 u469 u470 u471 u472 u473 u474 u475 u476 u477 u478 u479 u480 u481 u482 u483 u484 u485 u486 u487 u488 u489 u490 u491 u492 u493 u494 u495 u496 u497 u498 u499 u500 u501 u502 u503 u504 u505 u506 u507 u508 u509 u510 u511 u512 u513 u514 u515 u516 u517 u518 u519 u520 u521 u522 u523 u524 u525 u526 u527 u528 u529 u530 u531 u532 u533 u534 u535 u536 u537 u538 u539 u540 : Value}
    (hb : -2147483648 ≤ b ∧ b ≤ 2147483647) (hw : -9223372036854775808 ≤ wide ∧ wide ≤ 9223372036854775807) (hkd : -9223372036854775808 ≤ kind ∧ kind ≤ 9223372036854775807) (hbt : 0 ≤ bt ∧ bt ≤ 255)
    (hs : RdI w .u8 S N XS) (rs : InK8 XS) (hN : N ≤ 40) (hT : w.cell? ⟨3, 2, none⟩ = some (.int .u64 65535)) (hb0 : Below w0.heap.size w0 w) :
    Code.wp Tryd.prog (cTail 14 (cBody Tryd.f3)) (bodyPost Tryd.prog Tryd.f3 fun e w' => e = .returned (.bool true) ∧ Below w0.heap.size w0 w')
      ⟨#[u0, .int .i32 b, .int .i64 wide, u3, u4, u5, u6, u7, u8, .int .i64 kind, .slice S N cs, .int .u8 bt, u12, u13, u14, u15, u16, u17, u18, u19, u20, u21, u22, u23, u24, u25, u26, u27, u28, u29, u30, u31, u32, u33, u34, u35, u36, u37, u38, u39, u40, u41, u42, u43, u44, u45, u46, u47, u48, u49, u50, u51, u52, u53, u54, u55, u56, u57, u58, u59, u60, u61, u62, u63, u64, u65, u66, u67, u68, u69, u70, u71, u72, u73, u74, u75, u76, u77, u78, u79, u80, u81, u82, u83, u84, u85, u86, u87, u88, u89, u90, u91, u92, u93, u94, u95, u96, u97, u98, u99, u100, u101, u102, u103, u104, u105, u106, u107, u108, u109, u110, u111, u112, u113, u114, u115, u116, u117, u118, u119, u120, u121, u122, u123, u124, u125, u126, u127, u128, u129, u130, u131, u132, u133, u134, u135, u136, u137, u138, u139, u140, u141, u142, u143, u144, u145, u146, u147, u148, u149, u150, u151, u152, u153, u154, u155, u156, u157, u158, u159, u160, u161, u162, u163, u164, u165, u166, u167, u168, u169, u170, u171, u172, u173, u174, u175, u176, u177, u178, u179, u180, u181, u182, u183, u184, u185, u186, u187, u188, u189, u190, u191, u192, u193, u194, u195, u196, u197, u198, u199, u200, u201, u202, u203, u204, u205, u206, u207, u208, u209, u210, u211, u212, u213, u214, u215, u216, u217, u218, u219, u220, u221, u222, u223, u224, u225, u226, u227, u228, u229, u230, u231, u232, u233, u234, u235, u236, u237, u238, u239, u240, u241, u242, u243, u244, u245, u246, u247, u248, u249, u250, u251, u252, u253, u254, u255, u256, u257, u258, u259, u260, u261, u262, u263, u264, u265, u266, u267, u268, u269, u270, u271, u272, u273, u274, u275, u276, u277, u278, u279, u280, u281, u282, u283, u284, u285, u286, u287, u288, u289, u290, u291, u292, u293, u294, u295, u296, u297, u298, u299, u300, u301, u302, u303, u304, u305, u306, u307, u308, u309, u310, u311, u312, u313, u314, u315, u316, u317, u318, u319, u320, u321, u322, u323, u324, u325, u326, u327, u328, u329, u330, u331, u332, u333, u334, u335, u336, u337, u338, u339, u340, u341, u342, u343, u344, u345, u346, u347, u348, u349, u350, u351, u352, u353, u354, u355, u356, u357, u358, u359, u360, u361, u362, u363, u364, u365, u366, u367, u368, u369, u370, u371, u372, u373, u374, u375, u376, u377, u378, u379, u380, u381, u382, u383, u384, u385, u386, u387, u388, u389, u390, u391, u392, u393, u394, u395, u396, u397, u398, u399, u400, u401, u402, u403, u404, u405, u406, u407, u408, u409, u410, u411, u412, u413, u414, u415, u416, u417, u418, u419, u420, u421, u422, u423, u424, u425, u426, u427, u428, u429, u430, u431, u432, u433, u434, u435, u436, u437, u438, u439, u440, u441, u442, u443, u444, u445, u446, u447, u448, u449, u450, u451, u452, u453, u454, u455, u456, u457, u458, u459, u460, u461, u462, u463, u464, u465, u466, u467, u468, u469, u470, u471, u472, u473, u474, u475, u476, u477, u478, u479, u480, u481, u482, u483, u484, u485, u486, u487, u488, u489, u490, u491, u492, u493, u494, u495, u496, u497, u498, u499, u500, u501, u502, u503, u504, u505, u506, u507, u508, u509, u510, u511, u512, u513, u514, u515, u516, u517, u518, u519, u520, u521, u522, u523, u524, u525, u526, u527, u528, u529, u530, u531, u532, u533, u534, u535, u536, u537, u538, u539, u540], []⟩ w := by
  conv => arg 2; whnf
  go_upto_region 63 with (first | (go_at_call 25; refine (c_hOf_any _ _ _ _ _ _ hkd hs rs (by omega)).mono ?_; rintro e w' ⟨rfl, nq, rfl⟩) | (go_at_call 26; refine (c_Start_any _ _ hkd).mono ?_; rintro e w' ⟨rfl, rfl⟩))
  have hb0 := below_drewN' hb0 nq
  have hs := hs.drewN nq
  have hT : (w.drewN nq).cell? ⟨3, 2, none⟩ = some (.int .u64 65535) := hT
  generalize w.drewN nq = w1 at *
  go_cut [422] from 417 to 422 (fun s wr => s = .bool (decide (kind < 0 ∨ 7 < kind)) ∧ wr = w1)
  case first =>
    go_wp2_with (fail)
    all_goals
      go_meet
      case rel => go_light; exact ⟨by simp; try omega, rfl⟩
  case rest =>
  obtain ⟨rfl, rfl⟩ := hcut
  go_upto_if 422 with fail
  go_cut [28, 42, 47, 48] from 406 to 422 (fun _ _ _ _ wr => ∃ nq, wr = wc.drewN nq)
  case first =>
    by_cases h1 : kind < 0 ∨ 7 < kind
    · have e1 : hE kind = 2 := if_pos h1
      have e6 : decide (kind < 0 ∨ 7 < kind) = true := by simpa using h1
      go_wp2_with (fail)
      go_meet
      case rel => exact ⟨0, rfl⟩
    · have hk1 : 0 ≤ kind ∧ kind ≤ 7 := by omega
      have e1 : hE kind = 0 := if_neg h1
      have e2 : hV kind XS = stps (hst kind) XS := if_neg h1
      have e3 : hS kind = stps (hst kind) [] := if_neg h1
      have e6 : decide (kind < 0 ∨ 7 < kind) = false := by simpa using h1
      clear h1
      have hnil : RdI wc .u8 none 0 [] := ⟨rfl, by omega, fun j hj => by omega⟩
      go_wp2_with (first | (go_at_call_of 27 (Value.slice none 0 0); refine (c_hashed60 _ _ _ _ _ _ hk1 hnil (fun j => by simp)).mono ?_; rintro e w' ⟨rfl, n2, rfl⟩) | (go_at_call 27; refine (c_hashed60 _ _ _ _ _ _ hk1 (hs.drewN _) rs).mono ?_; rintro e w' ⟨rfl, n3, rfl⟩))
      go_meet
      case rel => exact ⟨_, rfl⟩
  case rest =>
  obtain ⟨n4, rfl⟩ := hcut
  obtain ⟨⟨P, hP⟩⟩ : Nonempty {P : Int // (2 : Int) ^ (bt % 21).toNat = P} := ⟨⟨_, rfl⟩⟩
  have hpf := pow_facts (bt % 21).toNat (by omega)
  rw [hP] at hpf
  obtain ⟨hPr, hPa, hPm⟩ := hpf
  have hbck := bck_stp (wide % 4294967296) (b % 256) (by omega) (by omega)
  have hsr := stp_rg (wide % 4294967296) (b % 256)
  have e1 : plE P = 0 := if_pos ⟨hPr.1, hPr.2, hPa⟩
  have e2 : plV (wide % 4294967296) P = wide % 4294967296 % P := by unfold plV; rw [if_pos ⟨hPr.1, hPr.2, hPa⟩]; exact hPm _ (by omega) (by omega)
  clear hPm hPa
  go_upto_region 73 with (first | (go_at_call 28; refine (c_step60 _ _ _ (by omega) (by omega)).mono ?_; rintro e w' ⟨rfl, rfl⟩) | (go_at_call 29; refine (c_Place_any _ _ _ (by omega) (by omega)).mono ?_; rintro e w' ⟨rfl, rfl⟩))
  generalize hz : P + bt % 21 - 1 = z
  have HZ := Lib.hid hz
  have hzr : 0 ≤ z ∧ z ≤ 1048596 := by omega
  clear hz
  go_cut [53] from 448 to 482 (fun s wr => s = .bool (decide (plOk z)) ∧ wr = wc.drewN n4)
  case first =>
    by_cases z1 : z < 1
    · have e5 : decide (plOk z) = false := by rw [decide_eq_false_iff_not]; unfold plOk; omega
      have E5 := Lib.hid e5
      clear e5
      go_wp2_with (fail)
      go_meet
      case rel => exact ⟨by rw [E5.out], rfl⟩
    · by_cases z2 : 1048576 < z
      · have e5 : decide (plOk z) = false := by rw [decide_eq_false_iff_not]; unfold plOk; omega
        have E5 := Lib.hid e5
        clear e5
        go_wp2_with (fail)
        go_meet
        case rel => exact ⟨by rw [E5.out], rfl⟩
      · have E5 : Hid (decide (plOk z) = (bits BinOp.and IntKind.i64 z (z - 1) == 0)) := by
          show _ = _
          by_cases h4 : bits BinOp.and IntKind.i64 z (z - 1) = 0
          · rw [h4]; simp [plOk, h4]; omega
          · rw [decide_eq_false (by unfold plOk; exact fun h => h4 h.2.2)]; simp [h4]
        go_wp2_with (fail)
        go_meet
        case rel => exact ⟨by rw [E5.out], rfl⟩
  case rest =>
  obtain ⟨rfl, rfl⟩ := hcut
  have hA : 0 ≤ wide % 4294967296 ∧ wide % 4294967296 ≤ 4294967295 := by omega
  have hB : 0 ≤ b % 256 ∧ b % 256 ≤ 255 := by omega
  generalize wide % 4294967296 = X at *
  generalize hY : b % 256 = Y at *
  have hXP : 0 ≤ X % P ∧ X % P ≤ 4294967295 := ⟨Int.emod_nonneg _ (by omega), by have := Int.emod_lt_of_pos X (show 0 < P by omega); omega⟩
  have hq : ((plE z == 0) == decide (plOk z)) = true := by
    by_cases h4 : plOk z
    · simp [plE, h4]
    · simp [plE, h4]
  have hT : (wc.drewN n4).cell? ⟨3, 2, none⟩ = some (.int .u64 65535) := hT
  have hb0 := below_drewN' hb0 n4
  generalize wc.drewN n4 = w4 at *
  go_wp2_with (fail)
  refine (c_hStep X Y _ hA hB).mono ?_
  rintro e w5 ⟨rfl, hb5⟩
  have hb05 := below_step hb0 hb5
  have hT5 := below_cell hb5 hT
  have B5 := Lib.hid hb05
  have T5 := Lib.hid hT5
  clear hb5 hb05 hT5 hb0 hT
  go_wp2_with (fail)
  refine (c_Back _ _ _ hsr hB).mono ?_
  rw [hbck]
  rintro e w6 ⟨rfl, hb6⟩
  have hb06 := below_step B5.out hb6
  have hT6 := below_cell hb6 T5.out
  have B6 := Lib.hid hb06
  have T6 := Lib.hid hT6
  clear hb6 hb06 hT6
  go_wp2_with (fail)
  refine (c_hCheck _ _ hA).mono ?_
  rintro e w7 ⟨rfl, rfl⟩
  dsimp only
  go_wp2_with (fail)
  refine (c_alive08 _ T6.out).mono ?_
  rintro e w8 ⟨rfl, hb8⟩
  have hb08 := below_step B6.out hb8
  go_wp2_with (fail)
  go_ret
  exact ⟨rfl, hb08⟩
end Go.Proofs.YthkdojmamejkaaaDoor
