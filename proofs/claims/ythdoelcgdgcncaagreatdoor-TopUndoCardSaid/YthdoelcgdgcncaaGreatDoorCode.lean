/- The code, laid compact. No condition. -/
import Derived.Test.YthdoelcgdgcncaaGreatDoorTab
import Derived.Test.YthdoelcgdgcncaaGreatDoorCan4
import Derived.Test.YthdoelcgdgcncaaGreatDoorCan5
set_option maxRecDepth 100000
namespace Go.Proofs.YthdoelcgdgcncaaGreatDoor
open Go Go.Can
noncomputable def s3_0 : List SOp := [⟨some 4, .box 26 (.tmp 1), none⟩, ⟨some 6, .assign (.const (.bool false)), none⟩]
noncomputable def s3_1_0 : List SOp := [⟨some 25, .load 26 (.tmp 4), none⟩, ⟨some 26, .call ⟨.value (.func 4), #[.tmp 25], #[26]⟩, none⟩, ⟨some 24, .move (.tmp 26), none⟩, ⟨some 27, .extract (.tmp 24) 0, none⟩, ⟨some 28, .extract (.tmp 24) 1, none⟩, ⟨some 7, .alloc 29, none⟩]
noncomputable def s3_1_1 : List SOp := [⟨none, .store 29 (.tmp 7) (.tmp 27), none⟩, ⟨some 8, .assign (.tmp 28), none⟩]
noncomputable def s3_1 : List SOp := s3_1_0 ++ s3_1_1
theorem s3_1_eq : s3_1 = s3_1_0 ++ s3_1_1 := rfl
noncomputable def s3_2 : List SOp := [⟨some 29, .move (.tmp 8), none⟩, ⟨some 30, .binOp .neq 30 (.tmp 29) (.const (.int .i64 0)) 30, none⟩, ⟨some 31, .move (.tmp 30), none⟩, ⟨some 32, .move (.tmp 0), some (31, false)⟩, ⟨some 33, .call ⟨.value (.func 5), #[.tmp 32], #[22]⟩, some (31, false)⟩, ⟨some 34, .binOp .neq 30 (.tmp 33) (.const (.int .i64 0)) 30, some (31, false)⟩, ⟨some 35, .pick (.tmp 31) (.const (.bool true)) (.tmp 34), none⟩]
noncomputable def s3_3 : List SOp := [⟨some 36, .call ⟨.value (.func 6), #[], #[]⟩, none⟩, ⟨some 6, .assign (.tmp 36), none⟩]
noncomputable def s3_4 : List SOp := [⟨some 37, .fieldAddr 29 (.tmp 7) 0, none⟩, ⟨some 38, .load 27 (.tmp 37), none⟩]
noncomputable def s3_5 : List SOp := [⟨some 40, .binOp .eql 27 (.tmp 38) (.const (.int .i8 1)) 27, none⟩, ⟨some 39, .assign (.tmp 40), none⟩]
noncomputable def s3_6_0 : List SOp := [⟨some 42, .move (.tmp 0), none⟩, ⟨some 43, .fieldAddr 29 (.tmp 7) 1, none⟩, ⟨some 44, .load 23 (.tmp 43), none⟩, ⟨some 45, .fieldAddr 29 (.tmp 7) 2, none⟩, ⟨some 46, .load 3 (.tmp 45), none⟩, ⟨some 47, .fieldAddr 29 (.tmp 7) 3, none⟩]
noncomputable def s3_6_1 : List SOp := [⟨some 48, .load 4 (.tmp 47), none⟩, ⟨some 49, .build 38 #[(0, .tmp 44), (1, .tmp 46), (2, .tmp 48)], none⟩, ⟨some 50, .call ⟨.value (.func 7), #[.tmp 42, .tmp 49], #[22, 38]⟩, none⟩, ⟨some 41, .move (.tmp 50), none⟩, ⟨some 51, .extract (.tmp 41) 0, none⟩, ⟨some 52, .extract (.tmp 41) 1, none⟩]
noncomputable def s3_6_2 : List SOp := [⟨some 9, .assign (.tmp 51), none⟩, ⟨some 10, .assign (.tmp 52), none⟩]
noncomputable def s3_6 : List SOp := s3_6_0 ++ (s3_6_1 ++ s3_6_2)
theorem s3_6_eq : s3_6 = s3_6_0 ++ (s3_6_1 ++ s3_6_2) := rfl
noncomputable def s3_7 : List SOp := [⟨some 53, .move (.tmp 10), none⟩, ⟨some 54, .binOp .neq 30 (.tmp 53) (.const (.int .i64 0)) 30, none⟩]
noncomputable def s3_8 : List SOp := [⟨some 55, .call ⟨.value (.func 6), #[], #[]⟩, none⟩, ⟨some 6, .assign (.tmp 55), none⟩]
noncomputable def s3_9_0 : List SOp := [⟨some 57, .move (.tmp 9), none⟩, ⟨some 58, .fieldAddr 29 (.tmp 7) 1, none⟩, ⟨some 59, .load 23 (.tmp 58), none⟩, ⟨some 60, .fieldAddr 29 (.tmp 7) 2, none⟩, ⟨some 61, .load 3 (.tmp 60), none⟩, ⟨some 62, .call ⟨.value (.func 8), #[.tmp 57, .tmp 59, .tmp 61], #[22, 23, 3]⟩, none⟩]
noncomputable def s3_9_1 : List SOp := [⟨some 56, .move (.tmp 62), none⟩, ⟨some 63, .extract (.tmp 56) 0, none⟩, ⟨some 64, .extract (.tmp 56) 1, none⟩, ⟨some 11, .assign (.tmp 63), none⟩, ⟨some 12, .assign (.tmp 64), none⟩]
noncomputable def s3_9 : List SOp := s3_9_0 ++ s3_9_1
theorem s3_9_eq : s3_9 = s3_9_0 ++ s3_9_1 := rfl
noncomputable def s3_10_0 : List SOp := [⟨some 65, .move (.tmp 12), none⟩, ⟨some 66, .binOp .eql 30 (.tmp 65) (.const (.int .i64 0)) 30, none⟩, ⟨some 67, .move (.tmp 66), none⟩, ⟨some 68, .move (.tmp 11), some (67, true)⟩, ⟨some 69, .move (.tmp 0), some (67, true)⟩, ⟨some 70, .call ⟨.value (.func 9), #[.tmp 68, .tmp 69], #[22, 22]⟩, some (67, true)⟩]
noncomputable def s3_10_1 : List SOp := [⟨some 71, .pick (.tmp 67) (.tmp 70) (.const (.bool false)), none⟩, ⟨some 72, .move (.tmp 71), none⟩, ⟨some 73, .call ⟨.value (.func 6), #[], #[]⟩, some (72, true)⟩, ⟨some 74, .pick (.tmp 72) (.tmp 73) (.const (.bool false)), none⟩, ⟨some 6, .assign (.tmp 74), none⟩]
noncomputable def s3_10 : List SOp := s3_10_0 ++ s3_10_1
theorem s3_10_eq : s3_10 = s3_10_0 ++ s3_10_1 := rfl
noncomputable def s3_11 : List SOp := [⟨some 76, .binOp .eql 27 (.tmp 38) (.const (.int .i8 3)) 27, none⟩, ⟨some 75, .assign (.tmp 76), none⟩]
noncomputable def s3_12_0 : List SOp := [⟨some 78, .move (.tmp 0), none⟩, ⟨some 79, .fieldAddr 29 (.tmp 7) 1, none⟩, ⟨some 80, .load 23 (.tmp 79), none⟩, ⟨some 81, .fieldAddr 29 (.tmp 7) 2, none⟩, ⟨some 82, .load 3 (.tmp 81), none⟩, ⟨some 83, .fieldAddr 29 (.tmp 7) 3, none⟩]
noncomputable def s3_12_1 : List SOp := [⟨some 84, .load 4 (.tmp 83), none⟩, ⟨some 85, .call ⟨.value (.func 10), #[.tmp 78, .tmp 80, .tmp 82, .tmp 84], #[22, 23, 3, 4]⟩, none⟩, ⟨some 77, .move (.tmp 85), none⟩, ⟨some 86, .extract (.tmp 77) 0, none⟩, ⟨some 87, .extract (.tmp 77) 1, none⟩, ⟨some 13, .assign (.tmp 86), none⟩, ⟨some 14, .assign (.tmp 87), none⟩]
noncomputable def s3_12 : List SOp := s3_12_0 ++ s3_12_1
theorem s3_12_eq : s3_12 = s3_12_0 ++ s3_12_1 := rfl
noncomputable def s3_13 : List SOp := [⟨some 88, .move (.tmp 14), none⟩, ⟨some 89, .binOp .neq 30 (.tmp 88) (.const (.int .i64 0)) 30, none⟩]
noncomputable def s3_14 : List SOp := [⟨some 90, .call ⟨.value (.func 6), #[], #[]⟩, none⟩, ⟨some 6, .assign (.tmp 90), none⟩]
noncomputable def s3_15_0 : List SOp := [⟨some 92, .move (.tmp 0), none⟩, ⟨some 93, .move (.tmp 2), none⟩, ⟨some 94, .call ⟨.value (.func 11), #[.tmp 92, .tmp 93], #[22, 23]⟩, none⟩, ⟨some 91, .move (.tmp 94), none⟩, ⟨some 95, .extract (.tmp 91) 0, none⟩, ⟨some 96, .extract (.tmp 91) 1, none⟩]
noncomputable def s3_15_1 : List SOp := [⟨some 15, .alloc 38, none⟩, ⟨none, .store 38 (.tmp 15) (.tmp 95), none⟩, ⟨some 16, .assign (.tmp 96), none⟩]
noncomputable def s3_15 : List SOp := s3_15_0 ++ s3_15_1
theorem s3_15_eq : s3_15 = s3_15_0 ++ s3_15_1 := rfl
noncomputable def s3_16_0 : List SOp := [⟨some 98, .move (.tmp 13), none⟩, ⟨some 99, .move (.tmp 2), none⟩, ⟨some 100, .call ⟨.value (.func 11), #[.tmp 98, .tmp 99], #[22, 23]⟩, none⟩, ⟨some 97, .move (.tmp 100), none⟩, ⟨some 101, .extract (.tmp 97) 0, none⟩, ⟨some 102, .extract (.tmp 97) 1, none⟩]
noncomputable def s3_16_1 : List SOp := [⟨some 17, .alloc 38, none⟩, ⟨none, .store 38 (.tmp 17) (.tmp 101), none⟩, ⟨some 18, .assign (.tmp 102), none⟩]
noncomputable def s3_16 : List SOp := s3_16_0 ++ s3_16_1
theorem s3_16_eq : s3_16 = s3_16_0 ++ s3_16_1 := rfl
noncomputable def s3_17_0 : List SOp := [⟨some 103, .move (.tmp 16), none⟩, ⟨some 104, .move (.tmp 18), none⟩, ⟨some 105, .binOp .neq 4 (.tmp 103) (.tmp 104) 4, none⟩, ⟨some 106, .move (.tmp 105), none⟩, ⟨some 107, .move (.tmp 18), some (106, false)⟩, ⟨some 108, .move (.tmp 107), some (106, false)⟩]
noncomputable def s3_17_1 : List SOp := [⟨some 109, .move (.tmp 2), some (108, true)⟩, ⟨some 110, .fieldAddr 29 (.tmp 7) 1, some (108, true)⟩, ⟨some 111, .load 23 (.tmp 110), some (108, true)⟩, ⟨some 112, .binOp .lss 23 (.tmp 109) (.tmp 111) 23, some (108, true)⟩, ⟨some 113, .move (.tmp 112), some (108, true)⟩, ⟨some 114, .move (.tmp 2), some (113, false)⟩]
noncomputable def s3_17_2 : List SOp := [⟨some 115, .fieldAddr 29 (.tmp 7) 1, some (113, false)⟩, ⟨some 116, .load 23 (.tmp 115), some (113, false)⟩, ⟨some 117, .binOp .sub 23 (.tmp 114) (.tmp 116) 23, some (113, false)⟩, ⟨some 118, .fieldAddr 29 (.tmp 7) 2, some (113, false)⟩, ⟨some 119, .load 3 (.tmp 118), some (113, false)⟩, ⟨some 120, .convert 3 23 (.tmp 119), some (113, false)⟩]
noncomputable def s3_17_3 : List SOp := [⟨some 121, .binOp .geq 23 (.tmp 117) (.tmp 120) 23, some (113, false)⟩, ⟨some 122, .pick (.tmp 113) (.const (.bool true)) (.tmp 121), some (108, true)⟩, ⟨some 123, .pick (.tmp 108) (.tmp 122) (.const (.bool false)), some (106, false)⟩, ⟨some 124, .move (.tmp 123), some (106, false)⟩, ⟨some 125, .fieldAddr 38 (.tmp 17) 2, some (124, true)⟩, ⟨some 126, .load 4 (.tmp 125), some (124, true)⟩]
noncomputable def s3_17_4 : List SOp := [⟨some 127, .fieldAddr 38 (.tmp 15) 2, some (124, true)⟩, ⟨some 128, .load 4 (.tmp 127), some (124, true)⟩, ⟨some 129, .binOp .neq 4 (.tmp 126) (.tmp 128) 4, some (124, true)⟩, ⟨some 130, .pick (.tmp 124) (.tmp 129) (.const (.bool false)), some (106, false)⟩, ⟨some 131, .pick (.tmp 106) (.const (.bool true)) (.tmp 130), none⟩]
noncomputable def s3_17 : List SOp := s3_17_0 ++ (s3_17_1 ++ (s3_17_2 ++ (s3_17_3 ++ s3_17_4)))
theorem s3_17_eq : s3_17 = s3_17_0 ++ (s3_17_1 ++ (s3_17_2 ++ (s3_17_3 ++ s3_17_4))) := rfl
noncomputable def s3_18 : List SOp := [⟨some 6, .assign (.const (.bool false)), none⟩]
noncomputable def s3_19_0 : List SOp := [⟨some 133, .move (.tmp 13), none⟩, ⟨some 134, .fieldAddr 29 (.tmp 7) 1, none⟩, ⟨some 135, .load 23 (.tmp 134), none⟩, ⟨some 136, .fieldAddr 29 (.tmp 7) 2, none⟩, ⟨some 137, .load 3 (.tmp 136), none⟩, ⟨some 138, .fieldAddr 29 (.tmp 7) 3, none⟩]
noncomputable def s3_19_1 : List SOp := [⟨some 139, .load 4 (.tmp 138), none⟩, ⟨some 140, .unOp .not 4 (.tmp 139), none⟩, ⟨some 141, .call ⟨.value (.func 10), #[.tmp 133, .tmp 135, .tmp 137, .tmp 140], #[22, 23, 3, 4]⟩, none⟩, ⟨some 132, .move (.tmp 141), none⟩, ⟨some 142, .extract (.tmp 132) 0, none⟩, ⟨some 143, .extract (.tmp 132) 1, none⟩]
noncomputable def s3_19_2 : List SOp := [⟨some 19, .assign (.tmp 142), none⟩, ⟨some 20, .assign (.tmp 143), none⟩]
noncomputable def s3_19 : List SOp := s3_19_0 ++ (s3_19_1 ++ s3_19_2)
theorem s3_19_eq : s3_19 = s3_19_0 ++ (s3_19_1 ++ s3_19_2) := rfl
noncomputable def s3_20_0 : List SOp := [⟨some 145, .move (.tmp 19), none⟩, ⟨some 146, .move (.tmp 2), none⟩, ⟨some 147, .call ⟨.value (.func 11), #[.tmp 145, .tmp 146], #[22, 23]⟩, none⟩, ⟨some 144, .move (.tmp 147), none⟩, ⟨some 148, .extract (.tmp 144) 0, none⟩, ⟨some 149, .extract (.tmp 144) 1, none⟩]
noncomputable def s3_20_1 : List SOp := [⟨some 21, .alloc 38, none⟩, ⟨none, .store 38 (.tmp 21) (.tmp 148), none⟩, ⟨some 22, .assign (.tmp 149), none⟩]
noncomputable def s3_20 : List SOp := s3_20_0 ++ s3_20_1
theorem s3_20_eq : s3_20 = s3_20_0 ++ s3_20_1 := rfl
noncomputable def s3_21_0 : List SOp := [⟨some 150, .move (.tmp 2), none⟩, ⟨some 151, .fieldAddr 29 (.tmp 7) 1, none⟩, ⟨some 152, .load 23 (.tmp 151), none⟩, ⟨some 153, .binOp .geq 23 (.tmp 150) (.tmp 152) 23, none⟩, ⟨some 154, .move (.tmp 153), none⟩, ⟨some 155, .move (.tmp 2), some (154, true)⟩]
noncomputable def s3_21_1 : List SOp := [⟨some 156, .fieldAddr 29 (.tmp 7) 1, some (154, true)⟩, ⟨some 157, .load 23 (.tmp 156), some (154, true)⟩, ⟨some 158, .binOp .sub 23 (.tmp 155) (.tmp 157) 23, some (154, true)⟩, ⟨some 159, .fieldAddr 29 (.tmp 7) 2, some (154, true)⟩, ⟨some 160, .load 3 (.tmp 159), some (154, true)⟩, ⟨some 161, .convert 3 23 (.tmp 160), some (154, true)⟩]
noncomputable def s3_21_2 : List SOp := [⟨some 162, .binOp .lss 23 (.tmp 158) (.tmp 161) 23, some (154, true)⟩, ⟨some 163, .pick (.tmp 154) (.tmp 162) (.const (.bool false)), none⟩, ⟨some 23, .assign (.tmp 163), none⟩]
noncomputable def s3_21 : List SOp := s3_21_0 ++ (s3_21_1 ++ s3_21_2)
theorem s3_21_eq : s3_21 = s3_21_0 ++ (s3_21_1 ++ s3_21_2) := rfl
noncomputable def s3_22 : List SOp := [⟨some 164, .move (.tmp 20), none⟩, ⟨some 165, .binOp .neq 30 (.tmp 164) (.const (.int .i64 0)) 30, none⟩, ⟨some 166, .move (.tmp 165), none⟩, ⟨some 167, .move (.tmp 22), some (166, false)⟩, ⟨some 168, .move (.tmp 16), some (166, false)⟩, ⟨some 169, .binOp .neq 4 (.tmp 167) (.tmp 168) 4, some (166, false)⟩, ⟨some 170, .pick (.tmp 166) (.const (.bool true)) (.tmp 169), none⟩]
noncomputable def s3_23 : List SOp := [⟨some 6, .assign (.const (.bool false)), none⟩]
noncomputable def s3_24_0 : List SOp := [⟨some 171, .move (.tmp 16), none⟩, ⟨some 172, .move (.tmp 171), none⟩, ⟨some 173, .move (.tmp 23), some (172, true)⟩, ⟨some 174, .move (.tmp 173), some (172, true)⟩, ⟨some 175, .fieldAddr 38 (.tmp 21) 2, some (174, true)⟩, ⟨some 176, .load 4 (.tmp 175), some (174, true)⟩]
noncomputable def s3_24_1 : List SOp := [⟨some 177, .fieldAddr 29 (.tmp 7) 3, some (174, true)⟩, ⟨some 178, .load 4 (.tmp 177), some (174, true)⟩, ⟨some 179, .binOp .eql 4 (.tmp 176) (.tmp 178) 4, some (174, true)⟩, ⟨some 180, .pick (.tmp 174) (.tmp 179) (.const (.bool false)), some (172, true)⟩, ⟨some 181, .move (.tmp 180), some (172, true)⟩, ⟨some 182, .move (.tmp 23), some (181, false)⟩]
noncomputable def s3_24_2 : List SOp := [⟨some 183, .unOp .not 4 (.tmp 182), some (181, false)⟩, ⟨some 184, .move (.tmp 183), some (181, false)⟩, ⟨some 185, .fieldAddr 38 (.tmp 21) 2, some (184, true)⟩, ⟨some 186, .load 4 (.tmp 185), some (184, true)⟩, ⟨some 187, .fieldAddr 38 (.tmp 15) 2, some (184, true)⟩, ⟨some 188, .load 4 (.tmp 187), some (184, true)⟩]
noncomputable def s3_24_3 : List SOp := [⟨some 189, .binOp .neq 4 (.tmp 186) (.tmp 188) 4, some (184, true)⟩, ⟨some 190, .pick (.tmp 184) (.tmp 189) (.const (.bool false)), some (181, false)⟩, ⟨some 191, .pick (.tmp 181) (.const (.bool true)) (.tmp 190), some (172, true)⟩, ⟨some 192, .pick (.tmp 172) (.tmp 191) (.const (.bool false)), none⟩]
noncomputable def s3_24 : List SOp := s3_24_0 ++ (s3_24_1 ++ (s3_24_2 ++ s3_24_3))
theorem s3_24_eq : s3_24 = s3_24_0 ++ (s3_24_1 ++ (s3_24_2 ++ s3_24_3)) := rfl
noncomputable def s3_25 : List SOp := [⟨some 6, .assign (.const (.bool false)), none⟩]
noncomputable def s3_26 : List SOp := [⟨some 193, .call ⟨.value (.func 6), #[], #[]⟩, none⟩, ⟨some 6, .assign (.tmp 193), none⟩]
noncomputable def s3_27 : List SOp := [⟨some 194, .call ⟨.value (.func 6), #[], #[]⟩, none⟩, ⟨some 6, .assign (.tmp 194), none⟩]
noncomputable def c3 : SC := (.seq (.reg s3_0) (.seq (.reg s3_1) (.seq (.seq (.reg s3_2) (.cond (.tmp 35) (.seq (.reg s3_3) .ret) .skip)) (.seq (.seq (.reg s3_4) (.block 0 (.seq (.reg s3_5) (.cond (.tmp 39) (.seq (.reg s3_6) (.seq (.seq (.reg s3_7) (.cond (.tmp 54) (.seq (.reg s3_8) .ret) .skip)) (.seq (.reg s3_9) (.seq (.reg s3_10) .ret)))) (.seq (.reg s3_11) (.cond (.tmp 75) (.seq (.reg s3_12) (.seq (.seq (.reg s3_13) (.cond (.tmp 89) (.seq (.reg s3_14) .ret) .skip)) (.seq (.reg s3_15) (.seq (.reg s3_16) (.seq (.seq (.reg s3_17) (.cond (.tmp 131) (.seq (.reg s3_18) .ret) .skip)) (.seq (.reg s3_19) (.seq (.reg s3_20) (.seq (.reg s3_21) (.seq (.seq (.reg s3_22) (.cond (.tmp 170) (.seq (.reg s3_23) .ret) .skip)) (.seq (.seq (.reg s3_24) (.cond (.tmp 192) (.seq (.reg s3_25) .ret) .skip)) (.seq (.reg s3_26) .ret))))))))))) .skip)))))) (.seq (.reg s3_27) .ret)))))
theorem c3_ok : comp (Tryz.f3.body.getD .skip) = some c3 := by kernel_rfl
noncomputable def s4_0 : List SOp := [⟨some 1, .box 26 (.tmp 0), none⟩, ⟨some 2, .alloc 29, none⟩, ⟨some 3, .assign (.const (.int .i64 0)), none⟩]
noncomputable def s4_1 : List SOp := [⟨some 8, .call ⟨.value (.func 12), #[], #[]⟩, none⟩, ⟨some 4, .alloc 47, none⟩, ⟨none, .store 47 (.tmp 4) (.tmp 8), none⟩]
noncomputable def s4_2 : List SOp := [⟨some 9, .fieldAddr 26 (.tmp 1) 0, none⟩, ⟨some 10, .load 23 (.tmp 9), none⟩, ⟨some 11, .binOp .geq 23 (.tmp 10) (.const (.int .u64 8)) 23, none⟩]
noncomputable def s4_3 : List SOp := [⟨some 12, .build 29 #[], none⟩, ⟨none, .store 29 (.tmp 2) (.tmp 12), none⟩, ⟨some 3, .assign (.const (.int .i64 210)), none⟩]
noncomputable def s4_4 : List SOp := [⟨some 13, .fieldAddr 26 (.tmp 1) 0, none⟩, ⟨some 14, .load 23 (.tmp 13), none⟩, ⟨some 15, .indexAddr 47 (.tmp 4) (.tmp 14), none⟩, ⟨some 16, .load 46 (.tmp 15), none⟩, ⟨some 5, .assign (.tmp 16), none⟩]
noncomputable def s4_5 : List SOp := [⟨some 17, .move (.tmp 5), none⟩, ⟨some 18, .binOp .eql 46 (.tmp 17) (.const .nilFunc) 46, none⟩]
noncomputable def s4_6 : List SOp := [⟨some 19, .build 29 #[], none⟩, ⟨none, .store 29 (.tmp 2) (.tmp 19), none⟩, ⟨some 3, .assign (.const (.int .i64 210)), none⟩]
noncomputable def s4_7_0 : List SOp := [⟨some 21, .move (.tmp 5), none⟩, ⟨some 22, .fieldAddr 26 (.tmp 1) 1, none⟩, ⟨some 23, .load 24 (.tmp 22), none⟩, ⟨some 24, .call ⟨.value (.tmp 21), #[.tmp 23], #[24]⟩, none⟩, ⟨some 20, .move (.tmp 24), none⟩, ⟨some 25, .extract (.tmp 20) 0, none⟩]
noncomputable def s4_7_1 : List SOp := [⟨some 26, .extract (.tmp 20) 1, none⟩, ⟨some 6, .alloc 29, none⟩, ⟨none, .store 29 (.tmp 6) (.tmp 25), none⟩, ⟨some 7, .assign (.tmp 26), none⟩]
noncomputable def s4_7 : List SOp := s4_7_0 ++ s4_7_1
theorem s4_7_eq : s4_7 = s4_7_0 ++ s4_7_1 := rfl
noncomputable def s4_8 : List SOp := [⟨some 27, .move (.tmp 7), none⟩, ⟨some 28, .unOp .not 4 (.tmp 27), none⟩]
noncomputable def s4_9 : List SOp := [⟨some 29, .build 29 #[], none⟩, ⟨none, .store 29 (.tmp 2) (.tmp 29), none⟩, ⟨some 3, .assign (.const (.int .i64 210)), none⟩]
noncomputable def s4_10 : List SOp := [⟨some 30, .load 29 (.tmp 6), none⟩, ⟨none, .store 29 (.tmp 2) (.tmp 30), none⟩, ⟨some 3, .assign (.const (.int .i64 0)), none⟩]
noncomputable def c4 : SC := (.seq (.reg s4_0) (.seq (.reg s4_1) (.seq (.seq (.reg s4_2) (.cond (.tmp 11) (.seq (.reg s4_3) .ret) .skip)) (.seq (.reg s4_4) (.seq (.seq (.reg s4_5) (.cond (.tmp 18) (.seq (.reg s4_6) .ret) .skip)) (.seq (.reg s4_7) (.seq (.seq (.reg s4_8) (.cond (.tmp 28) (.seq (.reg s4_9) .ret) .skip)) (.seq (.reg s4_10) .ret))))))))
theorem c4_ok : comp (Tryz.f4.body.getD .skip) = some c4 := by kernel_rfl
noncomputable def s5_0 : List SOp := [⟨some 2, .assign (.const (.int .i64 0)), none⟩]
noncomputable def s5_1 : List SOp := [⟨some 8, .move (.tmp 0), none⟩, ⟨some 9, .call ⟨.builtin .len, #[.tmp 8], #[22]⟩, none⟩, ⟨some 10, .binOp .gtr 3 (.tmp 9) (.const (.int .i64 8)) 3, none⟩]
noncomputable def s5_2 : List SOp := [⟨some 2, .assign (.const (.int .i64 2)), none⟩]
noncomputable def s5_3 : List SOp := [⟨some 3, .assign (.const (.int .u64 0)), none⟩]
noncomputable def s5_4 : List SOp := [⟨some 11, .move (.tmp 0), none⟩, ⟨some 12, .call ⟨.builtin .len, #[.tmp 11], #[22]⟩, none⟩, ⟨some 13, .move (.const (.int .i64 0)), none⟩]
noncomputable def s5_5 : List SOp := [⟨some 14, .binOp .lss 3 (.tmp 13) (.tmp 12) 3, none⟩]
noncomputable def s5_6 : List SOp := [⟨some 15, .indexAddr 22 (.tmp 11) (.tmp 13), none⟩, ⟨some 16, .load 38 (.tmp 15), none⟩, ⟨some 5, .alloc 38, none⟩, ⟨none, .store 38 (.tmp 5) (.tmp 16), none⟩]
noncomputable def s5_7_0 : List SOp := [⟨some 18, .fieldAddr 38 (.tmp 5) 0, none⟩, ⟨some 19, .load 23 (.tmp 18), none⟩, ⟨some 20, .fieldAddr 38 (.tmp 5) 1, none⟩, ⟨some 21, .load 3 (.tmp 20), none⟩, ⟨some 22, .call ⟨.value (.func 13), #[.tmp 19, .tmp 21], #[23, 3]⟩, none⟩, ⟨some 17, .move (.tmp 22), none⟩]
noncomputable def s5_7_1 : List SOp := [⟨some 23, .extract (.tmp 17) 0, none⟩, ⟨some 24, .extract (.tmp 17) 1, none⟩, ⟨some 6, .assign (.tmp 23), none⟩, ⟨some 7, .assign (.tmp 24), none⟩]
noncomputable def s5_7 : List SOp := s5_7_0 ++ s5_7_1
theorem s5_7_eq : s5_7 = s5_7_0 ++ s5_7_1 := rfl
noncomputable def s5_8_0 : List SOp := [⟨some 25, .move (.tmp 7), none⟩, ⟨some 26, .unOp .not 4 (.tmp 25), none⟩, ⟨some 27, .move (.tmp 26), none⟩, ⟨some 28, .fieldAddr 38 (.tmp 5) 0, some (27, false)⟩, ⟨some 29, .load 23 (.tmp 28), some (27, false)⟩, ⟨some 30, .move (.tmp 3), some (27, false)⟩]
noncomputable def s5_8_1 : List SOp := [⟨some 31, .binOp .lss 23 (.tmp 29) (.tmp 30) 23, some (27, false)⟩, ⟨some 32, .pick (.tmp 27) (.const (.bool true)) (.tmp 31), none⟩]
noncomputable def s5_8 : List SOp := s5_8_0 ++ s5_8_1
theorem s5_8_eq : s5_8 = s5_8_0 ++ s5_8_1 := rfl
noncomputable def s5_9 : List SOp := [⟨some 2, .assign (.const (.int .i64 2)), none⟩]
noncomputable def s5_10 : List SOp := [⟨some 33, .move (.tmp 6), none⟩, ⟨some 3, .assign (.tmp 33), none⟩]
noncomputable def s5_11 : List SOp := [⟨some 34, .binOp .add 3 (.tmp 13) (.const (.int .i64 1)) 3, none⟩, ⟨some 13, .move (.tmp 34), none⟩]
noncomputable def s5_12 : List SOp := [⟨some 35, .move (.tmp 0), none⟩, ⟨some 36, .call ⟨.value (.func 14), #[.tmp 35], #[22]⟩, none⟩, ⟨some 37, .binOp .gtr 3 (.tmp 36) (.const (.int .i64 16)) 3, none⟩]
noncomputable def s5_13 : List SOp := [⟨some 2, .assign (.const (.int .i64 2)), none⟩]
noncomputable def s5_14 : List SOp := [⟨some 2, .assign (.const (.int .i64 0)), none⟩]
noncomputable def c5 : SC := (.seq (.reg s5_0) (.seq (.seq (.reg s5_1) (.cond (.tmp 10) (.seq (.reg s5_2) .ret) .skip)) (.seq (.reg s5_3) (.seq (.seq (.reg s5_4) (.block 0 (.loop (.seq (.reg s5_5) (.seq (.cond (.tmp 14) .skip (.exit 0)) (.seq (.block 1 (.seq (.reg s5_6) (.seq (.reg s5_7) (.seq (.seq (.reg s5_8) (.cond (.tmp 32) (.seq (.reg s5_9) .ret) .skip)) (.reg s5_10))))) (.reg s5_11))))))) (.seq (.seq (.reg s5_12) (.cond (.tmp 37) (.seq (.reg s5_13) .ret) .skip)) (.seq (.reg s5_14) .ret))))))
theorem c5_ok : comp (Tryz.f5.body.getD .skip) = some c5 := by kernel_rfl
noncomputable def s7_0 : List SOp := [⟨some 3, .box 38 (.tmp 1), none⟩, ⟨some 4, .assign (.const (.slice none 0 0)), none⟩, ⟨some 5, .assign (.const (.int .i64 0)), none⟩]
noncomputable def s7_1 : List SOp := [⟨some 10, .move (.tmp 0), none⟩, ⟨some 11, .call ⟨.value (.func 5), #[.tmp 10], #[22]⟩, none⟩, ⟨some 6, .assign (.tmp 11), none⟩]
noncomputable def s7_2 : List SOp := [⟨some 12, .move (.tmp 6), none⟩, ⟨some 13, .binOp .neq 30 (.tmp 12) (.const (.int .i64 0)) 30, none⟩]
noncomputable def s7_3 : List SOp := [⟨some 14, .move (.tmp 6), none⟩, ⟨some 4, .assign (.const (.slice none 0 0)), none⟩, ⟨some 5, .assign (.tmp 14), none⟩]
noncomputable def s7_4_0 : List SOp := [⟨some 16, .fieldAddr 38 (.tmp 3) 0, none⟩, ⟨some 17, .load 23 (.tmp 16), none⟩, ⟨some 18, .fieldAddr 38 (.tmp 3) 1, none⟩, ⟨some 19, .load 3 (.tmp 18), none⟩, ⟨some 20, .call ⟨.value (.func 13), #[.tmp 17, .tmp 19], #[23, 3]⟩, none⟩, ⟨some 15, .move (.tmp 20), none⟩]
noncomputable def s7_4_1 : List SOp := [⟨some 21, .extract (.tmp 15) 0, none⟩, ⟨some 22, .extract (.tmp 15) 1, none⟩, ⟨some 7, .assign (.tmp 21), none⟩, ⟨some 8, .assign (.tmp 22), none⟩]
noncomputable def s7_4 : List SOp := s7_4_0 ++ s7_4_1
theorem s7_4_eq : s7_4 = s7_4_0 ++ s7_4_1 := rfl
noncomputable def s7_5 : List SOp := [⟨some 23, .move (.tmp 8), none⟩, ⟨some 24, .unOp .not 4 (.tmp 23), none⟩]
noncomputable def s7_6 : List SOp := [⟨some 4, .assign (.const (.slice none 0 0)), none⟩, ⟨some 5, .assign (.const (.int .i64 190)), none⟩]
noncomputable def s7_7 : List SOp := [⟨some 25, .move (.tmp 0), none⟩, ⟨some 26, .fieldAddr 38 (.tmp 3) 0, none⟩, ⟨some 27, .load 23 (.tmp 26), none⟩, ⟨some 28, .call ⟨.value (.func 19), #[.tmp 25, .tmp 27], #[22, 23]⟩, none⟩, ⟨some 9, .assign (.tmp 28), none⟩]
noncomputable def s7_8_0 : List SOp := [⟨some 29, .move (.tmp 9), none⟩, ⟨some 30, .move (.tmp 0), none⟩, ⟨some 31, .call ⟨.builtin .len, #[.tmp 30], #[22]⟩, none⟩, ⟨some 32, .binOp .lss 3 (.tmp 29) (.tmp 31) 3, none⟩, ⟨some 33, .move (.tmp 32), none⟩, ⟨some 34, .move (.tmp 0), some (33, true)⟩]
noncomputable def s7_8_1 : List SOp := [⟨some 35, .move (.tmp 9), some (33, true)⟩, ⟨some 36, .indexAddr 22 (.tmp 34) (.tmp 35), some (33, true)⟩, ⟨some 37, .fieldAddr 38 (.tmp 36) 0, some (33, true)⟩, ⟨some 38, .load 23 (.tmp 37), some (33, true)⟩, ⟨some 39, .move (.tmp 7), some (33, true)⟩, ⟨some 40, .binOp .lss 23 (.tmp 38) (.tmp 39) 23, some (33, true)⟩, ⟨some 41, .pick (.tmp 33) (.tmp 40) (.const (.bool false)), none⟩]
noncomputable def s7_8 : List SOp := s7_8_0 ++ s7_8_1
theorem s7_8_eq : s7_8 = s7_8_0 ++ s7_8_1 := rfl
noncomputable def s7_9 : List SOp := [⟨some 4, .assign (.const (.slice none 0 0)), none⟩, ⟨some 5, .assign (.const (.int .i64 190)), none⟩]
noncomputable def d7_10 : Array Oper := (opsIn 10 (Tryz.f7.body.getD .skip)).getD #[]
noncomputable def s7_11 : List SOp := [⟨some 4, .assign (.const (.slice none 0 0)), none⟩, ⟨some 5, .assign (.const (.int .i64 20)), none⟩]
noncomputable def d7_12 : Array Oper := (opsIn 12 (Tryz.f7.body.getD .skip)).getD #[]
noncomputable def c7 : SC := (.seq (.reg s7_0) (.seq (.seq (.reg s7_1) (.seq (.reg s7_2) (.cond (.tmp 13) (.seq (.reg s7_3) .ret) .skip))) (.seq (.reg s7_4) (.seq (.seq (.reg s7_5) (.cond (.tmp 24) (.seq (.reg s7_6) .ret) .skip)) (.seq (.reg s7_7) (.seq (.seq (.reg s7_8) (.cond (.tmp 41) (.seq (.reg s7_9) .ret) .skip)) (.seq (.seq (.draw d7_10) (.cond (.tmp 53) (.seq (.reg s7_11) .ret) .skip)) (.seq (.draw d7_12) .ret))))))))
theorem c7_ok : comp (Tryz.f7.body.getD .skip) = some c7 := by kernel_rfl
noncomputable def s8_0 : List SOp := [⟨some 6, .assign (.const (.slice none 0 0)), none⟩, ⟨some 7, .assign (.const (.int .i64 0)), none⟩]
noncomputable def s8_1_0 : List SOp := [⟨some 8, .move (.tmp 0), none⟩, ⟨some 9, .move (.tmp 1), none⟩, ⟨some 10, .move (.tmp 2), none⟩, ⟨some 11, .call ⟨.value (.func 22), #[.tmp 8, .tmp 9, .tmp 10, .func 23], #[22, 23, 3, 80]⟩, none⟩, ⟨some 12, .extract (.tmp 11) 0, none⟩, ⟨some 13, .extract (.tmp 11) 1, none⟩]
noncomputable def s8_1_1 : List SOp := [⟨some 6, .assign (.tmp 12), none⟩, ⟨some 7, .assign (.tmp 13), none⟩]
noncomputable def s8_1 : List SOp := s8_1_0 ++ s8_1_1
theorem s8_1_eq : s8_1 = s8_1_0 ++ s8_1_1 := rfl
noncomputable def c8 : SC := (.seq (.reg s8_0) (.seq (.reg s8_1) .ret))
theorem c8_ok : comp (Tryz.f8.body.getD .skip) = some c8 := by kernel_rfl
noncomputable def s9_0 : List SOp := [⟨some 4, .assign (.const (.bool false)), none⟩]
noncomputable def s9_1 : List SOp := [⟨some 6, .move (.tmp 0), none⟩, ⟨some 7, .call ⟨.builtin .len, #[.tmp 6], #[22]⟩, none⟩, ⟨some 8, .move (.tmp 1), none⟩, ⟨some 9, .call ⟨.builtin .len, #[.tmp 8], #[22]⟩, none⟩, ⟨some 10, .binOp .neq 3 (.tmp 7) (.tmp 9) 3, none⟩]
noncomputable def s9_2 : List SOp := [⟨some 4, .assign (.const (.bool false)), none⟩]
noncomputable def s9_3 : List SOp := [⟨some 5, .assign (.const (.int .i64 0)), none⟩]
noncomputable def s9_4 : List SOp := [⟨some 11, .move (.tmp 5), none⟩, ⟨some 12, .move (.tmp 0), none⟩, ⟨some 13, .call ⟨.builtin .len, #[.tmp 12], #[22]⟩, none⟩, ⟨some 14, .binOp .lss 3 (.tmp 11) (.tmp 13) 3, none⟩]
noncomputable def d9_6 : Array Oper := (opsIn 6 (Tryz.f9.body.getD .skip)).getD #[]
noncomputable def s9_7 : List SOp := [⟨some 4, .assign (.const (.bool false)), none⟩]
noncomputable def s9_5 : List SOp := [⟨some 15, .move (.tmp 5), none⟩, ⟨some 16, .binOp .add 3 (.tmp 15) (.const (.int .i64 1)) 3, none⟩, ⟨some 5, .assign (.tmp 16), none⟩]
noncomputable def s9_8 : List SOp := [⟨some 4, .assign (.const (.bool true)), none⟩]
noncomputable def c9 : SC := (.seq (.reg s9_0) (.seq (.seq (.reg s9_1) (.cond (.tmp 10) (.seq (.reg s9_2) .ret) .skip)) (.seq (.seq (.reg s9_3) (.block 0 (.loop (.seq (.seq (.reg s9_4) (.cond (.tmp 14) .skip (.exit 0))) (.seq (.block 1 (.seq (.draw d9_6) (.cond (.tmp 25) (.seq (.reg s9_7) .ret) .skip))) (.reg s9_5)))))) (.seq (.reg s9_8) .ret))))
theorem c9_ok : comp (Tryz.f9.body.getD .skip) = some c9 := by kernel_rfl
noncomputable def s10_0 : List SOp := [⟨some 7, .box 4 (.tmp 3), none⟩, ⟨some 8, .assign (.const (.slice none 0 0)), none⟩, ⟨some 9, .assign (.const (.int .i64 0)), none⟩]
noncomputable def s10_1_0 : List SOp := [⟨some 10, .move (.tmp 0), none⟩, ⟨some 11, .move (.tmp 1), none⟩, ⟨some 12, .move (.tmp 2), none⟩, ⟨some 13, .makeFunc (.func 25) #[] #[.tmp 7], none⟩, ⟨some 14, .call ⟨.value (.func 22), #[.tmp 10, .tmp 11, .tmp 12, .tmp 13], #[22, 23, 3, 80]⟩, none⟩, ⟨some 15, .extract (.tmp 14) 0, none⟩]
noncomputable def s10_1_1 : List SOp := [⟨some 16, .extract (.tmp 14) 1, none⟩, ⟨some 8, .assign (.tmp 15), none⟩, ⟨some 9, .assign (.tmp 16), none⟩]
noncomputable def s10_1 : List SOp := s10_1_0 ++ s10_1_1
theorem s10_1_eq : s10_1 = s10_1_0 ++ s10_1_1 := rfl
noncomputable def c10 : SC := (.seq (.reg s10_0) (.seq (.reg s10_1) .ret))
theorem c10_ok : comp (Tryz.f10.body.getD .skip) = some c10 := by kernel_rfl
noncomputable def s11_0 : List SOp := [⟨some 4, .alloc 38, none⟩, ⟨some 5, .assign (.const (.bool false)), none⟩]
noncomputable def s11_1 : List SOp := [⟨some 7, .move (.tmp 0), none⟩, ⟨some 8, .call ⟨.value (.func 5), #[.tmp 7], #[22]⟩, none⟩, ⟨some 9, .binOp .neq 30 (.tmp 8) (.const (.int .i64 0)) 30, none⟩]
noncomputable def s11_2 : List SOp := [⟨some 10, .build 38 #[], none⟩, ⟨none, .store 38 (.tmp 4) (.tmp 10), none⟩, ⟨some 5, .assign (.const (.bool false)), none⟩]
noncomputable def s11_3 : List SOp := [⟨some 11, .move (.tmp 0), none⟩, ⟨some 12, .move (.tmp 1), none⟩, ⟨some 13, .call ⟨.value (.func 19), #[.tmp 11, .tmp 12], #[22, 23]⟩, none⟩, ⟨some 6, .assign (.tmp 13), none⟩]
noncomputable def s11_4_0 : List SOp := [⟨some 14, .move (.tmp 6), none⟩, ⟨some 15, .move (.tmp 0), none⟩, ⟨some 16, .call ⟨.builtin .len, #[.tmp 15], #[22]⟩, none⟩, ⟨some 17, .binOp .eql 3 (.tmp 14) (.tmp 16) 3, none⟩, ⟨some 18, .move (.tmp 17), none⟩, ⟨some 19, .move (.tmp 0), some (18, false)⟩]
noncomputable def s11_4_1 : List SOp := [⟨some 20, .move (.tmp 6), some (18, false)⟩, ⟨some 21, .indexAddr 22 (.tmp 19) (.tmp 20), some (18, false)⟩, ⟨some 22, .fieldAddr 38 (.tmp 21) 0, some (18, false)⟩, ⟨some 23, .load 23 (.tmp 22), some (18, false)⟩, ⟨some 24, .move (.tmp 1), some (18, false)⟩, ⟨some 25, .binOp .gtr 23 (.tmp 23) (.tmp 24) 23, some (18, false)⟩, ⟨some 26, .pick (.tmp 18) (.const (.bool true)) (.tmp 25), none⟩]
noncomputable def s11_4 : List SOp := s11_4_0 ++ s11_4_1
theorem s11_4_eq : s11_4 = s11_4_0 ++ s11_4_1 := rfl
noncomputable def s11_5 : List SOp := [⟨some 27, .build 38 #[], none⟩, ⟨none, .store 38 (.tmp 4) (.tmp 27), none⟩, ⟨some 5, .assign (.const (.bool false)), none⟩]
noncomputable def s11_6 : List SOp := [⟨some 28, .move (.tmp 0), none⟩, ⟨some 29, .move (.tmp 6), none⟩, ⟨some 30, .indexAddr 22 (.tmp 28) (.tmp 29), none⟩, ⟨some 31, .load 38 (.tmp 30), none⟩, ⟨none, .store 38 (.tmp 4) (.tmp 31), none⟩, ⟨some 5, .assign (.const (.bool true)), none⟩]
noncomputable def c11 : SC := (.seq (.reg s11_0) (.seq (.seq (.reg s11_1) (.cond (.tmp 9) (.seq (.reg s11_2) .ret) .skip)) (.seq (.reg s11_3) (.seq (.seq (.reg s11_4) (.cond (.tmp 26) (.seq (.reg s11_5) .ret) .skip)) (.seq (.reg s11_6) .ret)))))
theorem c11_ok : comp (Tryz.f11.body.getD .skip) = some c11 := by kernel_rfl
noncomputable def s12_0 : List SOp := [⟨some 0, .alloc 47, none⟩]
noncomputable def s12_1 : List SOp := [⟨some 1, .call ⟨.value (.func 32), #[.const (.int .i8 4)], #[27]⟩, none⟩, ⟨some 2, .call ⟨.value (.func 32), #[.const (.int .i8 5)], #[27]⟩, none⟩, ⟨some 3, .call ⟨.value (.func 32), #[.const (.int .i8 6)], #[27]⟩, none⟩, ⟨some 4, .build 47 #[(1, .func 26), (2, .func 30), (3, .func 31), (4, .tmp 1), (5, .tmp 2), (6, .tmp 3), (7, .func 33)], none⟩, ⟨none, .store 47 (.tmp 0) (.tmp 4), none⟩]
noncomputable def c12 : SC := (.seq (.reg s12_0) (.seq (.reg s12_1) .ret))
theorem c12_ok : comp (Tryz.f12.body.getD .skip) = some c12 := by kernel_rfl
noncomputable def s13_0 : List SOp := [⟨some 4, .assign (.const (.int .u64 0)), none⟩, ⟨some 5, .assign (.const (.bool false)), none⟩]
noncomputable def s13_1 : List SOp := [⟨some 6, .move (.tmp 1), none⟩, ⟨some 7, .binOp .lss 3 (.tmp 6) (.const (.int .i64 1)) 3, none⟩, ⟨some 8, .move (.tmp 7), none⟩, ⟨some 9, .move (.tmp 1), some (8, false)⟩, ⟨some 10, .convert 3 23 (.tmp 9), some (8, false)⟩, ⟨some 11, .binOp .gtr 23 (.tmp 10) (.const (.int .u64 34359738368)) 23, some (8, false)⟩, ⟨some 12, .pick (.tmp 8) (.const (.bool true)) (.tmp 11), none⟩]
noncomputable def s13_2 : List SOp := [⟨some 4, .assign (.const (.int .u64 0)), none⟩, ⟨some 5, .assign (.const (.bool false)), none⟩]
noncomputable def s13_3 : List SOp := [⟨some 13, .move (.tmp 0), none⟩, ⟨some 14, .move (.tmp 1), none⟩, ⟨some 15, .convert 3 23 (.tmp 14), none⟩, ⟨some 16, .binOp .sub 23 (.const (.int .u64 34359738368)) (.tmp 15) 23, none⟩, ⟨some 17, .binOp .gtr 23 (.tmp 13) (.tmp 16) 23, none⟩]
noncomputable def s13_4 : List SOp := [⟨some 4, .assign (.const (.int .u64 0)), none⟩, ⟨some 5, .assign (.const (.bool false)), none⟩]
noncomputable def s13_5 : List SOp := [⟨some 18, .move (.tmp 0), none⟩, ⟨some 19, .move (.tmp 1), none⟩, ⟨some 20, .convert 3 23 (.tmp 19), none⟩, ⟨some 21, .binOp .add 23 (.tmp 18) (.tmp 20) 23, none⟩, ⟨some 4, .assign (.tmp 21), none⟩, ⟨some 5, .assign (.const (.bool true)), none⟩]
noncomputable def c13 : SC := (.seq (.reg s13_0) (.seq (.seq (.reg s13_1) (.cond (.tmp 12) (.seq (.reg s13_2) .ret) .skip)) (.seq (.seq (.reg s13_3) (.cond (.tmp 17) (.seq (.reg s13_4) .ret) .skip)) (.seq (.reg s13_5) .ret))))
theorem c13_ok : comp (Tryz.f13.body.getD .skip) = some c13 := by kernel_rfl
noncomputable def s14_0 : List SOp := [⟨some 2, .assign (.const (.int .i64 0)), none⟩]
noncomputable def s14_1 : List SOp := [⟨some 3, .assign (.const (.int .i64 0)), none⟩]
noncomputable def s14_2 : List SOp := [⟨some 6, .move (.tmp 0), none⟩, ⟨some 7, .call ⟨.builtin .len, #[.tmp 6], #[22]⟩, none⟩, ⟨some 8, .move (.const (.int .i64 0)), none⟩]
noncomputable def s14_3 : List SOp := [⟨some 9, .binOp .lss 3 (.tmp 8) (.tmp 7) 3, none⟩]
noncomputable def s14_4 : List SOp := [⟨some 10, .indexAddr 22 (.tmp 6) (.tmp 8), none⟩, ⟨some 11, .load 38 (.tmp 10), none⟩, ⟨some 5, .alloc 38, none⟩, ⟨none, .store 38 (.tmp 5) (.tmp 11), none⟩]
noncomputable def s14_5 : List SOp := [⟨some 12, .move (.tmp 3), none⟩, ⟨some 13, .fieldAddr 38 (.tmp 5) 1, none⟩, ⟨some 14, .load 3 (.tmp 13), none⟩, ⟨some 15, .binOp .add 3 (.tmp 12) (.tmp 14) 3, none⟩, ⟨some 3, .assign (.tmp 15), none⟩]
noncomputable def s14_6 : List SOp := [⟨some 16, .binOp .add 3 (.tmp 8) (.const (.int .i64 1)) 3, none⟩, ⟨some 8, .move (.tmp 16), none⟩]
noncomputable def s14_7 : List SOp := [⟨some 17, .move (.tmp 3), none⟩, ⟨some 2, .assign (.tmp 17), none⟩]
noncomputable def c14 : SC := (.seq (.reg s14_0) (.seq (.reg s14_1) (.seq (.seq (.reg s14_2) (.block 0 (.loop (.seq (.reg s14_3) (.seq (.cond (.tmp 9) .skip (.exit 0)) (.seq (.block 1 (.seq (.reg s14_4) (.reg s14_5))) (.reg s14_6))))))) (.seq (.reg s14_7) .ret))))
theorem c14_ok : comp (Tryz.f14.body.getD .skip) = some c14 := by kernel_rfl
noncomputable def s19_0 : List SOp := [⟨some 2, .box 22 (.tmp 0), none⟩, ⟨some 3, .box 23 (.tmp 1), none⟩, ⟨some 4, .assign (.const (.int .i64 0)), none⟩]
noncomputable def s19_1 : List SOp := [⟨some 5, .load 22 (.tmp 2), none⟩, ⟨some 6, .call ⟨.builtin .len, #[.tmp 5], #[22]⟩, none⟩, ⟨some 7, .makeFunc (.func 48) #[] #[.tmp 2, .tmp 3], none⟩, ⟨some 8, .call ⟨.value (.func 47), #[.tmp 6, .tmp 7], #[3, 107]⟩, none⟩, ⟨some 4, .assign (.tmp 8), none⟩]
noncomputable def c19 : SC := (.seq (.reg s19_0) (.seq (.reg s19_1) .ret))
theorem c19_ok : comp (Tryz.f19.body.getD .skip) = some c19 := by kernel_rfl
noncomputable def s20_0 : List SOp := [⟨some 6, .assign (.const (.slice none 0 0)), none⟩]
noncomputable def s20_1 : List SOp := [⟨some 10, .move (.tmp 0), none⟩, ⟨some 11, .move (.tmp 1), none⟩, ⟨some 12, .slice 22 (.tmp 10) (some (.tmp 11)) none none, none⟩]
noncomputable def s20_2 : List SOp := [⟨some 13, .move (.tmp 2), none⟩, ⟨some 14, .call ⟨.builtin .len, #[.tmp 13], #[22]⟩, none⟩, ⟨some 7, .assign (.tmp 14), none⟩]
noncomputable def s20_3 : List SOp := [⟨some 15, .move (.tmp 7), none⟩, ⟨some 16, .binOp .eql 3 (.tmp 15) (.const (.int .i64 0)) 3, none⟩]
noncomputable def s20_4 : List SOp := [⟨some 17, .move (.tmp 0), none⟩, ⟨some 6, .assign (.tmp 17), none⟩]
noncomputable def s20_5 : List SOp := [⟨some 18, .move (.tmp 0), none⟩, ⟨some 19, .call ⟨.builtin .len, #[.tmp 18], #[22]⟩, none⟩, ⟨some 8, .assign (.tmp 19), none⟩]
noncomputable def s20_6 : List SOp := [⟨some 20, .move (.tmp 1), none⟩, ⟨some 21, .move (.tmp 8), none⟩, ⟨some 22, .binOp .eql 3 (.tmp 20) (.tmp 21) 3, none⟩]
noncomputable def s20_7 : List SOp := [⟨some 23, .move (.tmp 0), none⟩, ⟨some 24, .move (.tmp 2), none⟩, ⟨some 25, .call ⟨.builtin .append, #[.tmp 23, .tmp 24], #[22, 22]⟩, none⟩, ⟨some 6, .assign (.tmp 25), none⟩]
noncomputable def s20_8 : List SOp := [⟨some 26, .move (.tmp 8), none⟩, ⟨some 27, .move (.tmp 7), none⟩, ⟨some 28, .binOp .add 3 (.tmp 26) (.tmp 27) 3, none⟩, ⟨some 29, .move (.tmp 0), none⟩, ⟨some 30, .call ⟨.builtin .cap, #[.tmp 29], #[22]⟩, none⟩, ⟨some 31, .binOp .gtr 3 (.tmp 28) (.tmp 30) 3, none⟩]
noncomputable def s20_9_0 : List SOp := [⟨some 32, .move (.tmp 0), none⟩, ⟨some 33, .move (.tmp 1), none⟩, ⟨some 34, .slice 22 (.tmp 32) none (some (.tmp 33)) none, none⟩, ⟨some 35, .move (.tmp 8), none⟩, ⟨some 36, .move (.tmp 7), none⟩, ⟨some 37, .binOp .add 3 (.tmp 35) (.tmp 36) 3, none⟩]
noncomputable def s20_9_1 : List SOp := [⟨some 38, .move (.tmp 1), none⟩, ⟨some 39, .binOp .sub 3 (.tmp 37) (.tmp 38) 3, none⟩, ⟨some 40, .call ⟨.builtin .append, #[.tmp 34, .tmp 39], #[22, 3]⟩, none⟩, ⟨some 9, .assign (.tmp 40), none⟩]
noncomputable def s20_9 : List SOp := s20_9_0 ++ s20_9_1
theorem s20_9_eq : s20_9 = s20_9_0 ++ s20_9_1 := rfl
noncomputable def s20_10 : List SOp := [⟨some 41, .move (.tmp 9), none⟩, ⟨some 42, .move (.tmp 1), none⟩, ⟨some 43, .slice 22 (.tmp 41) (some (.tmp 42)) none none, none⟩, ⟨some 44, .move (.tmp 2), none⟩, ⟨some 45, .call ⟨.builtin .copy, #[.tmp 43, .tmp 44], #[22, 22]⟩, none⟩]
noncomputable def d20_11 : Array Oper := (opsIn 11 (Tryz.f20.body.getD .skip)).getD #[]
noncomputable def s20_12 : List SOp := [⟨some 55, .move (.tmp 9), none⟩, ⟨some 6, .assign (.tmp 55), none⟩]
noncomputable def s20_13 : List SOp := [⟨some 56, .move (.tmp 0), none⟩, ⟨some 57, .move (.tmp 8), none⟩, ⟨some 58, .move (.tmp 7), none⟩, ⟨some 59, .binOp .add 3 (.tmp 57) (.tmp 58) 3, none⟩, ⟨some 60, .slice 22 (.tmp 56) none (some (.tmp 59)) none, none⟩, ⟨some 0, .assign (.tmp 60), none⟩]
noncomputable def s20_14_0 : List SOp := [⟨some 61, .move (.tmp 2), none⟩, ⟨some 62, .move (.tmp 0), none⟩, ⟨some 63, .move (.tmp 1), none⟩, ⟨some 64, .move (.tmp 7), none⟩, ⟨some 65, .binOp .add 3 (.tmp 63) (.tmp 64) 3, none⟩, ⟨some 66, .slice 22 (.tmp 62) (some (.tmp 65)) none none, none⟩]
noncomputable def s20_14_1 : List SOp := [⟨some 67, .call ⟨.value (.func 50), #[.tmp 61, .tmp 66], #[22, 22]⟩, none⟩, ⟨some 68, .unOp .not 4 (.tmp 67), none⟩]
noncomputable def s20_14 : List SOp := s20_14_0 ++ s20_14_1
theorem s20_14_eq : s20_14 = s20_14_0 ++ s20_14_1 := rfl
noncomputable def d20_15 : Array Oper := (opsIn 15 (Tryz.f20.body.getD .skip)).getD #[]
noncomputable def s20_16 : List SOp := [⟨some 78, .move (.tmp 0), none⟩, ⟨some 79, .move (.tmp 1), none⟩, ⟨some 80, .slice 22 (.tmp 78) (some (.tmp 79)) none none, none⟩, ⟨some 81, .move (.tmp 2), none⟩, ⟨some 82, .call ⟨.builtin .copy, #[.tmp 80, .tmp 81], #[22, 22]⟩, none⟩]
noncomputable def s20_17 : List SOp := [⟨some 83, .move (.tmp 0), none⟩, ⟨some 6, .assign (.tmp 83), none⟩]
noncomputable def s20_18 : List SOp := [⟨some 84, .move (.tmp 0), none⟩, ⟨some 85, .move (.tmp 8), none⟩, ⟨some 86, .slice 22 (.tmp 84) (some (.tmp 85)) none none, none⟩, ⟨some 87, .move (.tmp 2), none⟩, ⟨some 88, .call ⟨.builtin .copy, #[.tmp 86, .tmp 87], #[22, 22]⟩, none⟩]
noncomputable def s20_19 : List SOp := [⟨some 89, .move (.tmp 0), none⟩, ⟨some 90, .move (.tmp 1), none⟩, ⟨some 91, .slice 22 (.tmp 89) (some (.tmp 90)) none none, none⟩, ⟨some 92, .move (.tmp 7), none⟩, ⟨some 93, .call ⟨.value (.func 51), #[.tmp 91, .tmp 92], #[22, 3]⟩, none⟩]
noncomputable def s20_20 : List SOp := [⟨some 94, .move (.tmp 0), none⟩, ⟨some 6, .assign (.tmp 94), none⟩]
noncomputable def c20 : SC := (.seq (.reg s20_0) (.seq (.reg s20_1) (.seq (.reg s20_2) (.seq (.seq (.reg s20_3) (.cond (.tmp 16) (.seq (.reg s20_4) .ret) .skip)) (.seq (.reg s20_5) (.seq (.seq (.reg s20_6) (.cond (.tmp 22) (.seq (.reg s20_7) .ret) .skip)) (.seq (.seq (.reg s20_8) (.cond (.tmp 31) (.seq (.reg s20_9) (.seq (.reg s20_10) (.seq (.draw d20_11) (.seq (.reg s20_12) .ret)))) .skip)) (.seq (.reg s20_13) (.seq (.seq (.reg s20_14) (.cond (.tmp 68) (.seq (.draw d20_15) (.seq (.reg s20_16) (.seq (.reg s20_17) .ret))) .skip)) (.seq (.reg s20_18) (.seq (.reg s20_19) (.seq (.reg s20_20) .ret))))))))))))
theorem c20_ok : comp (Tryz.f20.body.getD .skip) = some c20 := by kernel_rfl
noncomputable def s21_0 : List SOp := [⟨some 2, .assign (.const (.slice none 0 0)), none⟩]
noncomputable def s21_1 : List SOp := [⟨some 3, .move (.tmp 0), none⟩, ⟨some 4, .binOp .eql 22 (.tmp 3) (.const (.slice none 0 0)) 22, none⟩]
noncomputable def s21_2 : List SOp := [⟨some 2, .assign (.const (.slice none 0 0)), none⟩]
noncomputable def s21_3 : List SOp := [⟨some 5, .buildSlice 22 0 #[], none⟩, ⟨some 6, .move (.tmp 0), none⟩, ⟨some 7, .call ⟨.builtin .append, #[.tmp 5, .tmp 6], #[22, 22]⟩, none⟩, ⟨some 2, .assign (.tmp 7), none⟩]
noncomputable def c21 : SC := (.seq (.reg s21_0) (.seq (.seq (.reg s21_1) (.cond (.tmp 4) (.seq (.reg s21_2) .ret) .skip)) (.seq (.reg s21_3) .ret)))
theorem c21_ok : comp (Tryz.f21.body.getD .skip) = some c21 := by kernel_rfl
noncomputable def s22_0 : List SOp := [⟨some 5, .box 23 (.tmp 1), none⟩, ⟨some 7, .box 80 (.tmp 3), none⟩, ⟨some 8, .assign (.const (.slice none 0 0)), none⟩, ⟨some 9, .assign (.const (.int .i64 0)), none⟩]
noncomputable def s22_1 : List SOp := [⟨some 13, .move (.tmp 0), none⟩, ⟨some 14, .call ⟨.value (.func 5), #[.tmp 13], #[22]⟩, none⟩, ⟨some 10, .assign (.tmp 14), none⟩]
noncomputable def s22_2 : List SOp := [⟨some 15, .move (.tmp 10), none⟩, ⟨some 16, .binOp .neq 30 (.tmp 15) (.const (.int .i64 0)) 30, none⟩]
noncomputable def s22_3 : List SOp := [⟨some 17, .move (.tmp 10), none⟩, ⟨some 8, .assign (.const (.slice none 0 0)), none⟩, ⟨some 9, .assign (.tmp 17), none⟩]
noncomputable def s22_4 : List SOp := [⟨some 18, .move (.tmp 0), none⟩, ⟨some 19, .load 23 (.tmp 5), none⟩, ⟨some 20, .move (.tmp 2), none⟩, ⟨some 21, .call ⟨.value (.func 52), #[.tmp 18, .tmp 19, .tmp 20], #[22, 23, 3]⟩, none⟩, ⟨some 22, .unOp .not 4 (.tmp 21), none⟩]
noncomputable def s22_5 : List SOp := [⟨some 8, .assign (.const (.slice none 0 0)), none⟩, ⟨some 9, .assign (.const (.int .i64 190)), none⟩]
noncomputable def s22_6 : List SOp := [⟨some 23, .load 23 (.tmp 5), none⟩, ⟨some 24, .move (.tmp 2), none⟩, ⟨some 25, .convert 3 23 (.tmp 24), none⟩, ⟨some 26, .binOp .add 23 (.tmp 23) (.tmp 25) 23, none⟩, ⟨some 11, .alloc 23, none⟩, ⟨none, .store 23 (.tmp 11) (.tmp 26), none⟩]
noncomputable def s22_7 : List SOp := [⟨some 27, .move (.tmp 0), none⟩, ⟨some 28, .makeFunc (.func 54) #[] #[.tmp 7, .tmp 5, .tmp 11], none⟩, ⟨some 29, .call ⟨.value (.func 53), #[.tmp 27, .tmp 28], #[22, 113]⟩, none⟩, ⟨some 12, .assign (.tmp 29), none⟩]
noncomputable def s22_8 : List SOp := [⟨some 30, .move (.tmp 12), none⟩, ⟨some 31, .call ⟨.builtin .len, #[.tmp 30], #[22]⟩, none⟩, ⟨some 32, .binOp .gtr 3 (.tmp 31) (.const (.int .i64 8)) 3, none⟩]
noncomputable def s22_9 : List SOp := [⟨some 8, .assign (.const (.slice none 0 0)), none⟩, ⟨some 9, .assign (.const (.int .i64 20)), none⟩]
noncomputable def s22_10 : List SOp := [⟨some 33, .move (.tmp 12), none⟩, ⟨some 8, .assign (.tmp 33), none⟩, ⟨some 9, .assign (.const (.int .i64 0)), none⟩]
noncomputable def c22 : SC := (.seq (.reg s22_0) (.seq (.seq (.reg s22_1) (.seq (.reg s22_2) (.cond (.tmp 16) (.seq (.reg s22_3) .ret) .skip))) (.seq (.seq (.reg s22_4) (.cond (.tmp 22) (.seq (.reg s22_5) .ret) .skip)) (.seq (.reg s22_6) (.seq (.reg s22_7) (.seq (.seq (.reg s22_8) (.cond (.tmp 32) (.seq (.reg s22_9) .ret) .skip)) (.seq (.reg s22_10) .ret)))))))
theorem c22_ok : comp (Tryz.f22.body.getD .skip) = some c22 := by kernel_rfl
noncomputable def s23_0 : List SOp := [⟨some 3, .box 38 (.tmp 0), none⟩, ⟨some 4, .box 38 (.tmp 1), none⟩, ⟨some 5, .box 38 (.tmp 2), none⟩, ⟨some 6, .assign (.const (.slice none 0 0)), none⟩]
noncomputable def s23_1 : List SOp := [⟨some 7, .load 38 (.tmp 3), none⟩, ⟨some 8, .load 38 (.tmp 5), none⟩, ⟨some 9, .buildSlice 22 2 #[(0, .tmp 7), (1, .tmp 8)], none⟩, ⟨some 10, .call ⟨.value (.func 24), #[.tmp 9], #[22]⟩, none⟩, ⟨some 6, .assign (.tmp 10), none⟩]
noncomputable def c23 : SC := (.seq (.reg s23_0) (.seq (.reg s23_1) .ret))
theorem c23_ok : comp (Tryz.f23.body.getD .skip) = some c23 := by kernel_rfl
noncomputable def s24_0 : List SOp := [⟨some 2, .assign (.const (.slice none 0 0)), none⟩]
noncomputable def s24_1 : List SOp := [⟨some 3, .move (.tmp 0), none⟩, ⟨some 4, .call ⟨.value (.func 56), #[.tmp 3, .func 57], #[22, 115]⟩, none⟩, ⟨some 2, .assign (.tmp 4), none⟩]
noncomputable def c24 : SC := (.seq (.reg s24_0) (.seq (.reg s24_1) .ret))
theorem c24_ok : comp (Tryz.f24.body.getD .skip) = some c24 := by kernel_rfl
noncomputable def s25_0 : List SOp := [⟨some 4, .box 38 (.tmp 0), none⟩, ⟨some 5, .box 38 (.tmp 1), none⟩, ⟨some 6, .box 38 (.tmp 2), none⟩, ⟨some 7, .assign (.const (.slice none 0 0)), none⟩]
noncomputable def s25_1 : List SOp := [⟨some 8, .load 4 (.tmp 3), none⟩, ⟨some 9, .fieldAddr 38 (.tmp 5) 2, none⟩, ⟨none, .store 4 (.tmp 9) (.tmp 8), none⟩]
noncomputable def s25_2 : List SOp := [⟨some 10, .load 38 (.tmp 4), none⟩, ⟨some 11, .load 38 (.tmp 5), none⟩, ⟨some 12, .load 38 (.tmp 6), none⟩, ⟨some 13, .buildSlice 22 3 #[(0, .tmp 10), (1, .tmp 11), (2, .tmp 12)], none⟩, ⟨some 14, .call ⟨.value (.func 24), #[.tmp 13], #[22]⟩, none⟩, ⟨some 7, .assign (.tmp 14), none⟩]
noncomputable def c25 : SC := (.seq (.reg s25_0) (.seq (.reg s25_1) (.seq (.reg s25_2) .ret)))
theorem c25_ok : comp (Tryz.f25.body.getD .skip) = some c25 := by kernel_rfl
noncomputable def s26_0 : List SOp := [⟨some 1, .box 24 (.tmp 0), none⟩, ⟨some 2, .alloc 29, none⟩, ⟨some 3, .assign (.const (.bool false)), none⟩]
noncomputable def d26_1 : Array Oper := (opsIn 1 (Tryz.f26.body.getD .skip)).getD #[]
noncomputable def c26 : SC := (.seq (.reg s26_0) (.seq (.draw d26_1) .ret))
theorem c26_ok : comp (Tryz.f26.body.getD .skip) = some c26 := by kernel_rfl
noncomputable def s27_0 : List SOp := [⟨some 4, .box 24 (.tmp 1), none⟩, ⟨some 6, .alloc 29, none⟩, ⟨some 7, .assign (.const (.bool false)), none⟩]
noncomputable def s27_1 : List SOp := [⟨some 10, .move (.tmp 2), none⟩, ⟨some 11, .call ⟨.builtin .len, #[.tmp 10], #[116]⟩, none⟩, ⟨some 12, .move (.const (.int .i64 0)), none⟩]
noncomputable def s27_2 : List SOp := [⟨some 13, .binOp .lss 3 (.tmp 12) (.tmp 11) 3, none⟩]
noncomputable def s27_3 : List SOp := [⟨some 14, .indexAddr 116 (.tmp 10) (.tmp 12), none⟩, ⟨some 15, .load 34 (.tmp 14), none⟩, ⟨some 9, .assign (.tmp 15), none⟩]
noncomputable def s27_4 : List SOp := [⟨some 16, .move (.tmp 9), none⟩, ⟨some 17, .call ⟨.value (.tmp 16), #[], #[]⟩, none⟩, ⟨some 18, .unOp .not 4 (.tmp 17), none⟩]
noncomputable def s27_5 : List SOp := [⟨some 19, .build 29 #[], none⟩, ⟨none, .store 29 (.tmp 6) (.tmp 19), none⟩, ⟨some 7, .assign (.const (.bool false)), none⟩]
noncomputable def s27_6 : List SOp := [⟨some 20, .binOp .add 3 (.tmp 12) (.const (.int .i64 1)) 3, none⟩, ⟨some 12, .move (.tmp 20), none⟩]
noncomputable def s27_7_0 : List SOp := [⟨some 21, .move (.tmp 0), none⟩, ⟨some 22, .indexAddr 24 (.tmp 4) (.const (.int .i64 0)), none⟩, ⟨some 23, .load 23 (.tmp 22), none⟩, ⟨some 24, .binOp .quo 23 (.tmp 23) (.const (.int .u64 4096)) 23, none⟩, ⟨some 25, .indexAddr 24 (.tmp 4) (.const (.int .i64 1)), none⟩, ⟨some 26, .load 23 (.tmp 25), none⟩]
noncomputable def s27_7_1 : List SOp := [⟨some 27, .binOp .quo 23 (.tmp 26) (.const (.int .u64 4096)) 23, none⟩, ⟨some 28, .call ⟨.builtin .min, #[.tmp 27, .const (.int .u64 1048576)], #[23, 23]⟩, none⟩, ⟨some 29, .convert 23 3 (.tmp 28), none⟩, ⟨some 30, .indexAddr 24 (.tmp 4) (.const (.int .i64 2)), none⟩, ⟨some 31, .load 23 (.tmp 30), none⟩, ⟨some 32, .binOp .eql 23 (.tmp 31) (.const (.int .u64 3)) 23, none⟩]
noncomputable def s27_7_2 : List SOp := [⟨some 33, .build 29 #[(0, .tmp 21), (1, .tmp 24), (2, .tmp 29), (3, .tmp 32)], none⟩, ⟨none, .store 29 (.tmp 6) (.tmp 33), none⟩, ⟨some 7, .assign (.const (.bool true)), none⟩]
noncomputable def s27_7 : List SOp := s27_7_0 ++ (s27_7_1 ++ s27_7_2)
theorem s27_7_eq : s27_7 = s27_7_0 ++ (s27_7_1 ++ s27_7_2) := rfl
noncomputable def c27 : SC := (.seq (.reg s27_0) (.seq (.seq (.reg s27_1) (.block 0 (.loop (.seq (.reg s27_2) (.seq (.cond (.tmp 13) .skip (.exit 0)) (.seq (.block 1 (.seq (.reg s27_3) (.seq (.reg s27_4) (.cond (.tmp 18) (.seq (.reg s27_5) .ret) .skip)))) (.reg s27_6))))))) (.seq (.reg s27_7) .ret)))
theorem c27_ok : comp (Tryz.f27.body.getD .skip) = some c27 := by kernel_rfl
noncomputable def s28_0 : List SOp := [⟨some 1, .box 24 (.tmp 0), none⟩, ⟨some 2, .assign (.const .nilFunc), none⟩]
noncomputable def d28_1 : Array Oper := (opsIn 1 (Tryz.f28.body.getD .skip)).getD #[]
noncomputable def s28_2 : List SOp := [⟨some 9, .makeFunc (.func 58) #[] #[.tmp 3, .tmp 4], none⟩, ⟨some 2, .assign (.tmp 9), none⟩]
noncomputable def c28 : SC := (.seq (.reg s28_0) (.seq (.draw d28_1) (.seq (.reg s28_2) .ret)))
theorem c28_ok : comp (Tryz.f28.body.getD .skip) = some c28 := by kernel_rfl
noncomputable def s29_0 : List SOp := [⟨some 1, .box 24 (.tmp 0), none⟩, ⟨some 2, .assign (.const .nilFunc), none⟩]
noncomputable def s29_1 : List SOp := [⟨some 3, .makeFunc (.func 59) #[] #[.tmp 1], none⟩, ⟨some 2, .assign (.tmp 3), none⟩]
noncomputable def c29 : SC := (.seq (.reg s29_0) (.seq (.reg s29_1) .ret))
theorem c29_ok : comp (Tryz.f29.body.getD .skip) = some c29 := by kernel_rfl
noncomputable def s30_0 : List SOp := [⟨some 1, .box 24 (.tmp 0), none⟩, ⟨some 2, .alloc 29, none⟩, ⟨some 3, .assign (.const (.bool false)), none⟩]
noncomputable def d30_1 : Array Oper := (opsIn 1 (Tryz.f30.body.getD .skip)).getD #[]
noncomputable def c30 : SC := (.seq (.reg s30_0) (.seq (.draw d30_1) .ret))
theorem c30_ok : comp (Tryz.f30.body.getD .skip) = some c30 := by kernel_rfl
noncomputable def s31_0 : List SOp := [⟨some 1, .box 24 (.tmp 0), none⟩, ⟨some 2, .alloc 29, none⟩, ⟨some 3, .assign (.const (.bool false)), none⟩]
noncomputable def d31_1 : Array Oper := (opsIn 1 (Tryz.f31.body.getD .skip)).getD #[]
noncomputable def c31 : SC := (.seq (.reg s31_0) (.seq (.draw d31_1) .ret))
theorem c31_ok : comp (Tryz.f31.body.getD .skip) = some c31 := by kernel_rfl
noncomputable def s32_0 : List SOp := [⟨some 1, .box 27 (.tmp 0), none⟩, ⟨some 2, .assign (.const .nilFunc), none⟩]
noncomputable def s32_1 : List SOp := [⟨some 3, .makeFunc (.func 60) #[] #[.tmp 1], none⟩, ⟨some 2, .assign (.tmp 3), none⟩]
noncomputable def c32 : SC := (.seq (.reg s32_0) (.seq (.reg s32_1) .ret))
theorem c32_ok : comp (Tryz.f32.body.getD .skip) = some c32 := by kernel_rfl
noncomputable def s33_0 : List SOp := [⟨some 1, .box 24 (.tmp 0), none⟩, ⟨some 2, .alloc 29, none⟩, ⟨some 3, .assign (.const (.bool false)), none⟩]
noncomputable def s33_1 : List SOp := [⟨some 4, .indexAddr 24 (.tmp 1) (.const (.int .i64 0)), none⟩, ⟨some 5, .load 23 (.tmp 4), none⟩, ⟨some 6, .binOp .geq 23 (.tmp 5) (.const (.int .u64 64)) 23, none⟩]
noncomputable def s33_2 : List SOp := [⟨some 7, .build 29 #[], none⟩, ⟨none, .store 29 (.tmp 2) (.tmp 7), none⟩, ⟨some 3, .assign (.const (.bool false)), none⟩]
noncomputable def s33_3 : List SOp := [⟨some 8, .indexAddr 24 (.tmp 1) (.const (.int .i64 0)), none⟩, ⟨some 9, .load 23 (.tmp 8), none⟩, ⟨some 10, .convert 23 3 (.tmp 9), none⟩, ⟨some 11, .build 29 #[(0, .const (.int .i8 7)), (4, .tmp 10)], none⟩, ⟨none, .store 29 (.tmp 2) (.tmp 11), none⟩, ⟨some 3, .assign (.const (.bool true)), none⟩]
noncomputable def c33 : SC := (.seq (.reg s33_0) (.seq (.seq (.reg s33_1) (.cond (.tmp 6) (.seq (.reg s33_2) .ret) .skip)) (.seq (.reg s33_3) .ret)))
theorem c33_ok : comp (Tryz.f33.body.getD .skip) = some c33 := by kernel_rfl
noncomputable def s47_0 : List SOp := [⟨some 4, .assign (.const (.int .i64 0)), none⟩]
noncomputable def s47_1 : List SOp := [⟨some 8, .move (.tmp 0), none⟩, ⟨some 5, .assign (.const (.int .i64 0)), none⟩, ⟨some 6, .assign (.tmp 8), none⟩]
noncomputable def s47_2 : List SOp := [⟨some 9, .move (.tmp 5), none⟩, ⟨some 10, .move (.tmp 6), none⟩, ⟨some 11, .binOp .lss 3 (.tmp 9) (.tmp 10) 3, none⟩]
noncomputable def s47_3 : List SOp := [⟨some 12, .move (.tmp 5), none⟩, ⟨some 13, .move (.tmp 6), none⟩, ⟨some 14, .binOp .add 3 (.tmp 12) (.tmp 13) 3, none⟩, ⟨some 15, .convert 3 150 (.tmp 14), none⟩, ⟨some 16, .binOp .shr 150 (.tmp 15) (.const (.int .u64 1)) 150, none⟩, ⟨some 17, .convert 150 3 (.tmp 16), none⟩, ⟨some 7, .assign (.tmp 17), none⟩]
noncomputable def s47_4 : List SOp := [⟨some 18, .move (.tmp 1), none⟩, ⟨some 19, .move (.tmp 7), none⟩, ⟨some 20, .call ⟨.value (.tmp 18), #[.tmp 19], #[3]⟩, none⟩, ⟨some 21, .unOp .not 4 (.tmp 20), none⟩]
noncomputable def s47_5 : List SOp := [⟨some 22, .move (.tmp 7), none⟩, ⟨some 23, .binOp .add 3 (.tmp 22) (.const (.int .i64 1)) 3, none⟩, ⟨some 5, .assign (.tmp 23), none⟩]
noncomputable def s47_6 : List SOp := [⟨some 24, .move (.tmp 7), none⟩, ⟨some 6, .assign (.tmp 24), none⟩]
noncomputable def s47_7 : List SOp := [⟨some 25, .move (.tmp 5), none⟩, ⟨some 4, .assign (.tmp 25), none⟩]
noncomputable def c47 : SC := (.seq (.reg s47_0) (.seq (.reg s47_1) (.seq (.block 0 (.loop (.seq (.seq (.reg s47_2) (.cond (.tmp 11) .skip (.exit 0))) (.block 1 (.seq (.reg s47_3) (.seq (.reg s47_4) (.cond (.tmp 21) (.reg s47_5) (.reg s47_6)))))))) (.seq (.reg s47_7) .ret))))
theorem c47_ok : comp (Tryz.f47.body.getD .skip) = some c47 := by kernel_rfl
noncomputable def s48_0 : List SOp := [⟨some 4, .assign (.const (.bool false)), none⟩]
noncomputable def d48_1 : Array Oper := (opsIn 1 (Tryz.f48.body.getD .skip)).getD #[]
noncomputable def c48 : SC := (.seq (.reg s48_0) (.seq (.draw d48_1) .ret))
theorem c48_ok : comp (Tryz.f48.body.getD .skip) = some c48 := by kernel_rfl
noncomputable def s49_0 : List SOp := [⟨some 1, .box 38 (.tmp 0), none⟩, ⟨some 2, .assign (.const (.int .u64 0)), none⟩]
noncomputable def s49_1 : List SOp := [⟨some 3, .fieldAddr 38 (.tmp 1) 0, none⟩, ⟨some 4, .load 23 (.tmp 3), none⟩, ⟨some 5, .fieldAddr 38 (.tmp 1) 1, none⟩, ⟨some 6, .load 3 (.tmp 5), none⟩, ⟨some 7, .convert 3 23 (.tmp 6), none⟩, ⟨some 8, .binOp .add 23 (.tmp 4) (.tmp 7) 23, none⟩, ⟨some 2, .assign (.tmp 8), none⟩]
noncomputable def c49 : SC := (.seq (.reg s49_0) (.seq (.reg s49_1) .ret))
theorem c49_ok : comp (Tryz.f49.body.getD .skip) = some c49 := by kernel_rfl
noncomputable def s52_0 : List SOp := [⟨some 6, .assign (.const (.bool false)), none⟩]
noncomputable def s52_1_0 : List SOp := [⟨some 13, .move (.tmp 1), none⟩, ⟨some 14, .move (.tmp 2), none⟩, ⟨some 15, .call ⟨.value (.func 13), #[.tmp 13, .tmp 14], #[23, 3]⟩, none⟩, ⟨some 12, .move (.tmp 15), none⟩, ⟨some 16, .extract (.tmp 12) 0, none⟩, ⟨some 17, .extract (.tmp 12) 1, none⟩]
noncomputable def s52_1_1 : List SOp := [⟨some 7, .assign (.tmp 16), none⟩, ⟨some 8, .assign (.tmp 17), none⟩]
noncomputable def s52_1 : List SOp := s52_1_0 ++ s52_1_1
theorem s52_1_eq : s52_1 = s52_1_0 ++ s52_1_1 := rfl
noncomputable def s52_2 : List SOp := [⟨some 18, .move (.tmp 8), none⟩, ⟨some 19, .unOp .not 4 (.tmp 18), none⟩, ⟨some 20, .move (.tmp 19), none⟩, ⟨some 21, .move (.tmp 2), some (20, false)⟩, ⟨some 22, .binOp .gtr 3 (.tmp 21) (.const (.int .i64 16)) 3, some (20, false)⟩, ⟨some 23, .pick (.tmp 20) (.const (.bool true)) (.tmp 22), none⟩]
noncomputable def s52_3 : List SOp := [⟨some 6, .assign (.const (.bool false)), none⟩]
noncomputable def s52_4 : List SOp := [⟨some 24, .move (.tmp 1), none⟩, ⟨some 9, .assign (.tmp 24), none⟩]
noncomputable def s52_5 : List SOp := [⟨some 25, .move (.tmp 9), none⟩, ⟨some 26, .move (.tmp 7), none⟩, ⟨some 27, .binOp .lss 23 (.tmp 25) (.tmp 26) 23, none⟩]
noncomputable def s52_7_0 : List SOp := [⟨some 31, .move (.tmp 0), none⟩, ⟨some 32, .move (.tmp 9), none⟩, ⟨some 33, .call ⟨.value (.func 11), #[.tmp 31, .tmp 32], #[22, 23]⟩, none⟩, ⟨some 30, .move (.tmp 33), none⟩, ⟨some 34, .extract (.tmp 30) 0, none⟩, ⟨some 35, .extract (.tmp 30) 1, none⟩]
noncomputable def s52_7_1 : List SOp := [⟨some 10, .alloc 38, none⟩, ⟨none, .store 38 (.tmp 10) (.tmp 34), none⟩, ⟨some 11, .assign (.tmp 35), none⟩]
noncomputable def s52_7 : List SOp := s52_7_0 ++ s52_7_1
theorem s52_7_eq : s52_7 = s52_7_0 ++ s52_7_1 := rfl
noncomputable def s52_8 : List SOp := [⟨some 36, .move (.tmp 11), none⟩, ⟨some 37, .unOp .not 4 (.tmp 36), none⟩]
noncomputable def s52_9 : List SOp := [⟨some 6, .assign (.const (.bool false)), none⟩]
noncomputable def s52_6 : List SOp := [⟨some 28, .move (.tmp 9), none⟩, ⟨some 29, .binOp .add 23 (.tmp 28) (.const (.int .u64 1)) 23, none⟩, ⟨some 9, .assign (.tmp 29), none⟩]
noncomputable def s52_10 : List SOp := [⟨some 6, .assign (.const (.bool true)), none⟩]
noncomputable def c52 : SC := (.seq (.reg s52_0) (.seq (.reg s52_1) (.seq (.seq (.reg s52_2) (.cond (.tmp 23) (.seq (.reg s52_3) .ret) .skip)) (.seq (.seq (.reg s52_4) (.block 0 (.loop (.seq (.seq (.reg s52_5) (.cond (.tmp 27) .skip (.exit 0))) (.seq (.block 1 (.seq (.reg s52_7) (.seq (.reg s52_8) (.cond (.tmp 37) (.seq (.reg s52_9) .ret) .skip)))) (.reg s52_6)))))) (.seq (.reg s52_10) .ret)))))
theorem c52_ok : comp (Tryz.f52.body.getD .skip) = some c52 := by kernel_rfl
noncomputable def s53_0 : List SOp := [⟨some 4, .assign (.const (.slice none 0 0)), none⟩]
noncomputable def s53_1 : List SOp := [⟨some 5, .assign (.const (.slice none 0 0)), none⟩]
noncomputable def s53_2 : List SOp := [⟨some 8, .move (.tmp 0), none⟩, ⟨some 9, .call ⟨.builtin .len, #[.tmp 8], #[22]⟩, none⟩, ⟨some 10, .move (.const (.int .i64 0)), none⟩]
noncomputable def s53_3 : List SOp := [⟨some 11, .binOp .lss 3 (.tmp 10) (.tmp 9) 3, none⟩]
noncomputable def s53_4 : List SOp := [⟨some 12, .indexAddr 22 (.tmp 8) (.tmp 10), none⟩, ⟨some 13, .load 38 (.tmp 12), none⟩, ⟨some 7, .alloc 38, none⟩, ⟨none, .store 38 (.tmp 7) (.tmp 13), none⟩]
noncomputable def s53_5 : List SOp := [⟨some 14, .move (.tmp 5), none⟩, ⟨some 15, .move (.tmp 1), none⟩, ⟨some 16, .load 38 (.tmp 7), none⟩, ⟨some 17, .call ⟨.value (.tmp 15), #[.tmp 16], #[38]⟩, none⟩, ⟨some 18, .call ⟨.builtin .append, #[.tmp 14, .tmp 17], #[22, 22]⟩, none⟩, ⟨some 5, .assign (.tmp 18), none⟩]
noncomputable def s53_6 : List SOp := [⟨some 19, .binOp .add 3 (.tmp 10) (.const (.int .i64 1)) 3, none⟩, ⟨some 10, .move (.tmp 19), none⟩]
noncomputable def s53_7 : List SOp := [⟨some 20, .move (.tmp 5), none⟩, ⟨some 4, .assign (.tmp 20), none⟩]
noncomputable def c53 : SC := (.seq (.reg s53_0) (.seq (.reg s53_1) (.seq (.seq (.reg s53_2) (.block 0 (.loop (.seq (.reg s53_3) (.seq (.cond (.tmp 11) .skip (.exit 0)) (.seq (.block 1 (.seq (.reg s53_4) (.reg s53_5))) (.reg s53_6))))))) (.seq (.reg s53_7) .ret))))
theorem c53_ok : comp (Tryz.f53.body.getD .skip) = some c53 := by kernel_rfl
noncomputable def s54_0 : List SOp := [⟨some 4, .box 38 (.tmp 0), none⟩, ⟨some 5, .assign (.const (.slice none 0 0)), none⟩]
noncomputable def d54_1 : Array Oper := (opsIn 1 (Tryz.f54.body.getD .skip)).getD #[]
noncomputable def c54 : SC := (.seq (.reg s54_0) (.seq (.draw d54_1) .ret))
theorem c54_ok : comp (Tryz.f54.body.getD .skip) = some c54 := by kernel_rfl
noncomputable def s55_0 : List SOp := [⟨some 3, .box 38 (.tmp 0), none⟩, ⟨some 6, .alloc 38, none⟩, ⟨some 7, .alloc 38, none⟩, ⟨some 8, .alloc 38, none⟩]
noncomputable def d55_1 : Array Oper := (opsIn 1 (Tryz.f55.body.getD .skip)).getD #[]
noncomputable def s55_2 : List SOp := [⟨some 18, .move (.tmp 2), none⟩, ⟨some 19, .load 38 (.tmp 3), none⟩, ⟨some 20, .call ⟨.value (.func 49), #[.tmp 19], #[38]⟩, none⟩, ⟨some 21, .call ⟨.builtin .min, #[.tmp 18, .tmp 20], #[23, 23]⟩, none⟩, ⟨some 22, .move (.tmp 9), none⟩, ⟨some 23, .call ⟨.builtin .max, #[.tmp 21, .tmp 22], #[23, 23]⟩, none⟩, ⟨some 10, .assign (.tmp 23), none⟩]
noncomputable def d55_3 : Array Oper := (opsIn 3 (Tryz.f55.body.getD .skip)).getD #[]
noncomputable def s55_4 : List SOp := [⟨some 27, .move (.tmp 9), none⟩, ⟨some 28, .fieldAddr 38 (.tmp 3) 0, none⟩, ⟨some 29, .load 23 (.tmp 28), none⟩, ⟨some 30, .binOp .sub 23 (.tmp 27) (.tmp 29) 23, none⟩, ⟨some 31, .convert 23 3 (.tmp 30), none⟩, ⟨some 32, .fieldAddr 38 (.tmp 6) 1, none⟩, ⟨none, .store 3 (.tmp 32) (.tmp 31), none⟩]
noncomputable def s55_5_0 : List SOp := [⟨some 33, .move (.tmp 9), none⟩, ⟨some 34, .move (.tmp 10), none⟩, ⟨some 35, .move (.tmp 9), none⟩, ⟨some 36, .binOp .sub 23 (.tmp 34) (.tmp 35) 23, none⟩, ⟨some 37, .convert 23 3 (.tmp 36), none⟩, ⟨some 38, .fieldAddr 38 (.tmp 7) 0, none⟩]
noncomputable def s55_5_1 : List SOp := [⟨none, .store 23 (.tmp 38) (.tmp 33), none⟩, ⟨some 39, .fieldAddr 38 (.tmp 7) 1, none⟩, ⟨none, .store 3 (.tmp 39) (.tmp 37), none⟩]
noncomputable def s55_5 : List SOp := s55_5_0 ++ s55_5_1
theorem s55_5_eq : s55_5 = s55_5_0 ++ s55_5_1 := rfl
noncomputable def s55_6_0 : List SOp := [⟨some 40, .move (.tmp 10), none⟩, ⟨some 41, .load 38 (.tmp 3), none⟩, ⟨some 42, .call ⟨.value (.func 49), #[.tmp 41], #[38]⟩, none⟩, ⟨some 43, .move (.tmp 10), none⟩, ⟨some 44, .binOp .sub 23 (.tmp 42) (.tmp 43) 23, none⟩, ⟨some 45, .convert 23 3 (.tmp 44), none⟩]
noncomputable def s55_6_1 : List SOp := [⟨some 46, .fieldAddr 38 (.tmp 8) 0, none⟩, ⟨none, .store 23 (.tmp 46) (.tmp 40), none⟩, ⟨some 47, .fieldAddr 38 (.tmp 8) 1, none⟩, ⟨none, .store 3 (.tmp 47) (.tmp 45), none⟩]
noncomputable def s55_6 : List SOp := s55_6_0 ++ s55_6_1
theorem s55_6_eq : s55_6 = s55_6_0 ++ s55_6_1 := rfl
noncomputable def d55_7 : Array Oper := (opsIn 7 (Tryz.f55.body.getD .skip)).getD #[]
noncomputable def c55 : SC := (.seq (.reg s55_0) (.seq (.draw d55_1) (.seq (.reg s55_2) (.seq (.draw d55_3) (.seq (.reg s55_4) (.seq (.reg s55_5) (.seq (.reg s55_6) (.seq (.draw d55_7) .ret))))))))
theorem c55_ok : comp (Tryz.f55.body.getD .skip) = some c55 := by kernel_rfl
noncomputable def s56_0 : List SOp := [⟨some 4, .assign (.const (.slice none 0 0)), none⟩]
noncomputable def s56_1 : List SOp := [⟨some 8, .move (.tmp 0), none⟩, ⟨some 9, .move (.tmp 1), none⟩, ⟨some 10, .call ⟨.value (.func 85), #[.tmp 8, .tmp 9], #[22, 115]⟩, none⟩, ⟨some 5, .assign (.tmp 10), none⟩]
noncomputable def s56_2 : List SOp := [⟨some 11, .move (.tmp 5), none⟩, ⟨some 12, .binOp .eql 3 (.tmp 11) (.const (.int .i64 (-1))) 3, none⟩]
noncomputable def s56_3 : List SOp := [⟨some 13, .move (.tmp 0), none⟩, ⟨some 4, .assign (.tmp 13), none⟩]
noncomputable def s56_4 : List SOp := [⟨some 14, .move (.tmp 5), none⟩, ⟨some 15, .binOp .add 3 (.tmp 14) (.const (.int .i64 1)) 3, none⟩, ⟨some 6, .assign (.tmp 15), none⟩]
noncomputable def s56_5 : List SOp := [⟨some 16, .move (.tmp 6), none⟩, ⟨some 17, .move (.tmp 0), none⟩, ⟨some 18, .call ⟨.builtin .len, #[.tmp 17], #[22]⟩, none⟩, ⟨some 19, .binOp .lss 3 (.tmp 16) (.tmp 18) 3, none⟩]
noncomputable def s56_7 : List SOp := [⟨some 22, .move (.tmp 0), none⟩, ⟨some 23, .move (.tmp 6), none⟩, ⟨some 24, .indexAddr 22 (.tmp 22) (.tmp 23), none⟩, ⟨some 25, .load 38 (.tmp 24), none⟩, ⟨some 7, .alloc 38, none⟩, ⟨none, .store 38 (.tmp 7) (.tmp 25), none⟩]
noncomputable def s56_8 : List SOp := [⟨some 26, .move (.tmp 1), none⟩, ⟨some 27, .load 38 (.tmp 7), none⟩, ⟨some 28, .call ⟨.value (.tmp 26), #[.tmp 27], #[38]⟩, none⟩, ⟨some 29, .unOp .not 4 (.tmp 28), none⟩]
noncomputable def s56_9 : List SOp := [⟨some 30, .move (.tmp 0), none⟩, ⟨some 31, .move (.tmp 5), none⟩, ⟨some 32, .load 38 (.tmp 7), none⟩, ⟨some 33, .indexAddr 22 (.tmp 30) (.tmp 31), none⟩, ⟨none, .store 38 (.tmp 33) (.tmp 32), none⟩]
noncomputable def s56_10 : List SOp := [⟨some 34, .move (.tmp 5), none⟩, ⟨some 35, .binOp .add 3 (.tmp 34) (.const (.int .i64 1)) 3, none⟩, ⟨some 5, .assign (.tmp 35), none⟩]
noncomputable def s56_6 : List SOp := [⟨some 20, .move (.tmp 6), none⟩, ⟨some 21, .binOp .add 3 (.tmp 20) (.const (.int .i64 1)) 3, none⟩, ⟨some 6, .assign (.tmp 21), none⟩]
noncomputable def s56_11 : List SOp := [⟨some 36, .move (.tmp 0), none⟩, ⟨some 37, .move (.tmp 5), none⟩, ⟨some 38, .slice 22 (.tmp 36) (some (.tmp 37)) none none, none⟩, ⟨none, .call ⟨.builtin .clear, #[.tmp 38], #[22]⟩, none⟩]
noncomputable def s56_12 : List SOp := [⟨some 39, .move (.tmp 0), none⟩, ⟨some 40, .move (.tmp 5), none⟩, ⟨some 41, .slice 22 (.tmp 39) none (some (.tmp 40)) none, none⟩, ⟨some 4, .assign (.tmp 41), none⟩]
noncomputable def c56 : SC := (.seq (.reg s56_0) (.seq (.reg s56_1) (.seq (.seq (.reg s56_2) (.cond (.tmp 12) (.seq (.reg s56_3) .ret) .skip)) (.seq (.seq (.reg s56_4) (.block 0 (.loop (.seq (.seq (.reg s56_5) (.cond (.tmp 19) .skip (.exit 0))) (.seq (.block 1 (.seq (.reg s56_7) (.seq (.reg s56_8) (.cond (.tmp 29) (.seq (.reg s56_9) (.reg s56_10)) .skip)))) (.reg s56_6)))))) (.seq (.reg s56_11) (.seq (.reg s56_12) .ret))))))
theorem c56_ok : comp (Tryz.f56.body.getD .skip) = some c56 := by kernel_rfl
noncomputable def s57_0 : List SOp := [⟨some 1, .box 38 (.tmp 0), none⟩, ⟨some 2, .assign (.const (.bool false)), none⟩]
noncomputable def s57_1 : List SOp := [⟨some 3, .fieldAddr 38 (.tmp 1) 1, none⟩, ⟨some 4, .load 3 (.tmp 3), none⟩, ⟨some 5, .binOp .eql 3 (.tmp 4) (.const (.int .i64 0)) 3, none⟩, ⟨some 2, .assign (.tmp 5), none⟩]
noncomputable def c57 : SC := (.seq (.reg s57_0) (.seq (.reg s57_1) .ret))
theorem c57_ok : comp (Tryz.f57.body.getD .skip) = some c57 := by kernel_rfl
noncomputable def s58_0 : List SOp := [⟨some 2, .assign (.const (.bool false)), none⟩]
noncomputable def s58_1_0 : List SOp := [⟨some 3, .load 23 (.tmp 0), none⟩, ⟨some 4, .binOp .rem 23 (.tmp 3) (.const (.int .u64 4096)) 23, none⟩, ⟨some 5, .binOp .eql 23 (.tmp 4) (.const (.int .u64 0)) 23, none⟩, ⟨some 6, .move (.tmp 5), none⟩, ⟨some 7, .load 23 (.tmp 1), some (6, true)⟩, ⟨some 8, .binOp .rem 23 (.tmp 7) (.const (.int .u64 4096)) 23, some (6, true)⟩]
noncomputable def s58_1_1 : List SOp := [⟨some 9, .binOp .eql 23 (.tmp 8) (.const (.int .u64 0)) 23, some (6, true)⟩, ⟨some 10, .pick (.tmp 6) (.tmp 9) (.const (.bool false)), none⟩, ⟨some 11, .move (.tmp 10), none⟩, ⟨some 12, .load 23 (.tmp 1), some (11, true)⟩, ⟨some 13, .binOp .gtr 23 (.tmp 12) (.const (.int .u64 0)) 23, some (11, true)⟩, ⟨some 14, .pick (.tmp 11) (.tmp 13) (.const (.bool false)), none⟩]
noncomputable def s58_1_2 : List SOp := [⟨some 15, .move (.tmp 14), none⟩, ⟨some 16, .load 23 (.tmp 1), some (15, true)⟩, ⟨some 17, .binOp .leq 23 (.tmp 16) (.const (.int .u64 140737488355328)) 23, some (15, true)⟩, ⟨some 18, .pick (.tmp 15) (.tmp 17) (.const (.bool false)), none⟩, ⟨some 19, .move (.tmp 18), none⟩, ⟨some 20, .load 23 (.tmp 0), some (19, true)⟩]
noncomputable def s58_1_3 : List SOp := [⟨some 21, .load 23 (.tmp 1), some (19, true)⟩, ⟨some 22, .binOp .sub 23 (.const (.int .u64 140737488355328)) (.tmp 21) 23, some (19, true)⟩, ⟨some 23, .binOp .leq 23 (.tmp 20) (.tmp 22) 23, some (19, true)⟩, ⟨some 24, .pick (.tmp 19) (.tmp 23) (.const (.bool false)), none⟩, ⟨some 2, .assign (.tmp 24), none⟩]
noncomputable def s58_1 : List SOp := s58_1_0 ++ (s58_1_1 ++ (s58_1_2 ++ s58_1_3))
theorem s58_1_eq : s58_1 = s58_1_0 ++ (s58_1_1 ++ (s58_1_2 ++ s58_1_3)) := rfl
noncomputable def c58 : SC := (.seq (.reg s58_0) (.seq (.reg s58_1) .ret))
theorem c58_ok : comp (Tryz.f58.body.getD .skip) = some c58 := by kernel_rfl
noncomputable def s59_0 : List SOp := [⟨some 1, .assign (.const (.bool false)), none⟩]
noncomputable def s59_1_0 : List SOp := [⟨some 2, .indexAddr 24 (.tmp 0) (.const (.int .i64 2)), none⟩, ⟨some 3, .load 23 (.tmp 2), none⟩, ⟨some 4, .binOp .eql 23 (.tmp 3) (.const (.int .u64 1)) 23, none⟩, ⟨some 5, .move (.tmp 4), none⟩, ⟨some 6, .indexAddr 24 (.tmp 0) (.const (.int .i64 2)), some (5, false)⟩, ⟨some 7, .load 23 (.tmp 6), some (5, false)⟩]
noncomputable def s59_1_1 : List SOp := [⟨some 8, .binOp .eql 23 (.tmp 7) (.const (.int .u64 3)) 23, some (5, false)⟩, ⟨some 9, .pick (.tmp 5) (.const (.bool true)) (.tmp 8), none⟩, ⟨some 1, .assign (.tmp 9), none⟩]
noncomputable def s59_1 : List SOp := s59_1_0 ++ s59_1_1
theorem s59_1_eq : s59_1 = s59_1_0 ++ s59_1_1 := rfl
noncomputable def c59 : SC := (.seq (.reg s59_0) (.seq (.reg s59_1) .ret))
theorem c59_ok : comp (Tryz.f59.body.getD .skip) = some c59 := by kernel_rfl
noncomputable def s60_0 : List SOp := [⟨some 2, .box 24 (.tmp 0), none⟩, ⟨some 3, .alloc 29, none⟩, ⟨some 4, .assign (.const (.bool false)), none⟩]
noncomputable def s60_1 : List SOp := [⟨some 5, .load 27 (.tmp 1), none⟩, ⟨some 6, .build 29 #[(0, .tmp 5)], none⟩, ⟨none, .store 29 (.tmp 3) (.tmp 6), none⟩, ⟨some 4, .assign (.const (.bool true)), none⟩]
noncomputable def c60 : SC := (.seq (.reg s60_0) (.seq (.reg s60_1) .ret))
theorem c60_ok : comp (Tryz.f60.body.getD .skip) = some c60 := by kernel_rfl
noncomputable def s85_0 : List SOp := [⟨some 4, .assign (.const (.int .i64 0)), none⟩]
noncomputable def s85_1 : List SOp := [⟨some 6, .move (.tmp 0), none⟩, ⟨some 7, .call ⟨.builtin .len, #[.tmp 6], #[22]⟩, none⟩, ⟨some 8, .move (.const (.int .i64 0)), none⟩]
noncomputable def s85_2 : List SOp := [⟨some 9, .binOp .lss 3 (.tmp 8) (.tmp 7) 3, none⟩]
noncomputable def s85_3 : List SOp := [⟨some 10, .move (.tmp 8), none⟩, ⟨some 5, .assign (.tmp 10), none⟩]
noncomputable def s85_4 : List SOp := [⟨some 11, .move (.tmp 1), none⟩, ⟨some 12, .move (.tmp 0), none⟩, ⟨some 13, .move (.tmp 5), none⟩, ⟨some 14, .indexAddr 22 (.tmp 12) (.tmp 13), none⟩, ⟨some 15, .load 38 (.tmp 14), none⟩, ⟨some 16, .call ⟨.value (.tmp 11), #[.tmp 15], #[38]⟩, none⟩]
noncomputable def s85_5 : List SOp := [⟨some 17, .move (.tmp 5), none⟩, ⟨some 4, .assign (.tmp 17), none⟩]
noncomputable def s85_6 : List SOp := [⟨some 18, .binOp .add 3 (.tmp 8) (.const (.int .i64 1)) 3, none⟩, ⟨some 8, .move (.tmp 18), none⟩]
noncomputable def s85_7 : List SOp := [⟨some 4, .assign (.const (.int .i64 (-1))), none⟩]
noncomputable def c85 : SC := (.seq (.reg s85_0) (.seq (.seq (.reg s85_1) (.block 0 (.loop (.seq (.reg s85_2) (.seq (.cond (.tmp 9) .skip (.exit 0)) (.seq (.block 1 (.seq (.reg s85_3) (.seq (.reg s85_4) (.cond (.tmp 16) (.seq (.reg s85_5) .ret) .skip)))) (.reg s85_6))))))) (.seq (.reg s85_7) .ret)))
theorem c85_ok : comp (Tryz.f85.body.getD .skip) = some c85 := by kernel_rfl

end Go.Proofs.YthdoelcgdgcncaaGreatDoor
/- The regions whose order is drawn. No condition. -/
namespace Go.Proofs.YthdoelcgdgcncaaGreatDoor
open Go Go.Can
noncomputable def dl7_10 : List DOp := [⟨⟨some 42, .move (.tmp 0), none⟩, [0]⟩, ⟨⟨some 43, .call ⟨.value (.func 14), #[.tmp 42], #[22]⟩, none⟩, [42]⟩, ⟨⟨some 44, .fieldAddr 38 (.tmp 3) 1, none⟩, [3]⟩, ⟨⟨some 45, .load 3 (.tmp 44), none⟩, [44]⟩, ⟨⟨some 46, .binOp .add 3 (.tmp 43) (.tmp 45) 3, none⟩, [43, 45]⟩, ⟨⟨some 47, .binOp .gtr 3 (.tmp 46) (.const (.int .i64 16)) 3, none⟩, [46]⟩, ⟨⟨some 48, .move (.tmp 47), none⟩, [47]⟩, ⟨⟨some 49, .move (.tmp 0), some (48, false)⟩, [0, 48]⟩, ⟨⟨some 50, .call ⟨.builtin .len, #[.tmp 49], #[22]⟩, some (48, false)⟩, [49, 48]⟩, ⟨⟨some 51, .binOp .add 3 (.tmp 50) (.const (.int .i64 1)) 3, some (48, false)⟩, [50, 48]⟩, ⟨⟨some 52, .binOp .gtr 3 (.tmp 51) (.const (.int .i64 8)) 3, some (48, false)⟩, [51, 48]⟩, ⟨⟨some 53, .pick (.tmp 48) (.const (.bool true)) (.tmp 52), none⟩, [48, 52]⟩]
noncomputable def ol7_10 : List Op := [.move (.tmp 0), .call ⟨.value (.func 14), #[.tmp 42], #[22]⟩, .fieldAddr 38 (.tmp 3) 1, .load 3 (.tmp 44), .binOp .add 3 (.tmp 43) (.tmp 45) 3, .binOp .gtr 3 (.tmp 46) (.const (.int .i64 16)) 3, .move (.tmp 47), .move (.tmp 0), .call ⟨.builtin .len, #[.tmp 49], #[22]⟩, .binOp .add 3 (.tmp 50) (.const (.int .i64 1)) 3, .binOp .gtr 3 (.tmp 51) (.const (.int .i64 8)) 3, .pick (.tmp 48) (.const (.bool true)) (.tmp 52)]
noncomputable def pp7_10 : List (Nat × Nat × Bool) := [(3, (1, true))]
theorem dr7_10 : okAll (infs d7_10) = true ∧ compD d7_10 (infs d7_10) = some dl7_10 ∧ pairsOf (infs d7_10) = pp7_10 ∧ dl7_10.map (fun x => x.s.o) = ol7_10 := ⟨by kernel_rfl, by kernel_rfl, by kernel_rfl, by kernel_rfl⟩
noncomputable def dl7_12 : List DOp := [⟨⟨some 54, .move (.tmp 0), none⟩, [0]⟩, ⟨⟨some 55, .call ⟨.value (.func 21), #[.tmp 54], #[22]⟩, none⟩, [54]⟩, ⟨⟨some 56, .move (.tmp 9), none⟩, [9]⟩, ⟨⟨some 57, .load 38 (.tmp 3), none⟩, [3]⟩, ⟨⟨some 58, .buildSlice 22 1 #[(0, .tmp 57)], none⟩, [57]⟩, ⟨⟨some 59, .call ⟨.value (.func 20), #[.tmp 55, .tmp 56, .tmp 58], #[22, 3, 22]⟩, none⟩, [55, 56, 58]⟩, ⟨⟨some 4, .assign (.tmp 59), none⟩, [59]⟩, ⟨⟨some 5, .assign (.const (.int .i64 0)), none⟩, []⟩]
noncomputable def ol7_12 : List Op := [.move (.tmp 0), .call ⟨.value (.func 21), #[.tmp 54], #[22]⟩, .move (.tmp 9), .load 38 (.tmp 3), .buildSlice 22 1 #[(0, .tmp 57)], .call ⟨.value (.func 20), #[.tmp 55, .tmp 56, .tmp 58], #[22, 3, 22]⟩, .assign (.tmp 59), .assign (.const (.int .i64 0))]
noncomputable def pp7_12 : List (Nat × Nat × Bool) := [(3, (1, true))]
theorem dr7_12 : okAll (infs d7_12) = true ∧ compD d7_12 (infs d7_12) = some dl7_12 ∧ pairsOf (infs d7_12) = pp7_12 ∧ dl7_12.map (fun x => x.s.o) = ol7_12 := ⟨by kernel_rfl, by kernel_rfl, by kernel_rfl, by kernel_rfl⟩
noncomputable def dl9_6 : List DOp := [⟨⟨some 17, .move (.tmp 0), none⟩, [0]⟩, ⟨⟨some 18, .move (.tmp 5), none⟩, [5]⟩, ⟨⟨some 19, .indexAddr 22 (.tmp 17) (.tmp 18), none⟩, [17, 18]⟩, ⟨⟨some 20, .load 38 (.tmp 19), none⟩, [19]⟩, ⟨⟨some 21, .move (.tmp 1), none⟩, [1]⟩, ⟨⟨some 22, .move (.tmp 5), none⟩, [5]⟩, ⟨⟨some 23, .indexAddr 22 (.tmp 21) (.tmp 22), none⟩, [21, 22]⟩, ⟨⟨some 24, .load 38 (.tmp 23), none⟩, [23]⟩, ⟨⟨some 25, .binOp .neq 38 (.tmp 20) (.tmp 24) 38, none⟩, [20, 24]⟩]
noncomputable def ol9_6 : List Op := [.move (.tmp 0), .move (.tmp 5), .indexAddr 22 (.tmp 17) (.tmp 18), .load 38 (.tmp 19), .move (.tmp 1), .move (.tmp 5), .indexAddr 22 (.tmp 21) (.tmp 22), .load 38 (.tmp 23), .binOp .neq 38 (.tmp 20) (.tmp 24) 38]
noncomputable def pp9_6 : List (Nat × Nat × Bool) := []
theorem dr9_6 : okAll (infs d9_6) = true ∧ compD d9_6 (infs d9_6) = some dl9_6 ∧ pairsOf (infs d9_6) = pp9_6 ∧ dl9_6.map (fun x => x.s.o) = ol9_6 := ⟨by kernel_rfl, by kernel_rfl, by kernel_rfl, by kernel_rfl⟩
noncomputable def dl26_1 : List DOp := [⟨⟨some 4, .load 24 (.tmp 1), none⟩, [1]⟩, ⟨⟨some 5, .load 24 (.tmp 1), none⟩, [1]⟩, ⟨⟨some 6, .call ⟨.value (.func 28), #[.tmp 5], #[24]⟩, none⟩, [5]⟩, ⟨⟨some 7, .load 24 (.tmp 1), none⟩, [1]⟩, ⟨⟨some 8, .call ⟨.value (.func 29), #[.tmp 7], #[24]⟩, none⟩, [7]⟩, ⟨⟨some 9, .buildSlice 116 2 #[(0, .tmp 6), (1, .tmp 8)], none⟩, [6, 8]⟩, ⟨⟨some 10, .call ⟨.value (.func 27), #[.const (.int .i8 1), .tmp 4, .tmp 9], #[27, 24, 116]⟩, none⟩, [4, 9]⟩, ⟨⟨some 11, .extract (.tmp 10) 0, none⟩, [10]⟩, ⟨⟨some 12, .extract (.tmp 10) 1, none⟩, [10]⟩, ⟨⟨none, .store 29 (.tmp 2) (.tmp 11), none⟩, [2, 11]⟩, ⟨⟨some 3, .assign (.tmp 12), none⟩, [12]⟩]
noncomputable def ol26_1 : List Op := [.load 24 (.tmp 1), .load 24 (.tmp 1), .call ⟨.value (.func 28), #[.tmp 5], #[24]⟩, .load 24 (.tmp 1), .call ⟨.value (.func 29), #[.tmp 7], #[24]⟩, .buildSlice 116 2 #[(0, .tmp 6), (1, .tmp 8)], .call ⟨.value (.func 27), #[.const (.int .i8 1), .tmp 4, .tmp 9], #[27, 24, 116]⟩, .extract (.tmp 10) 0, .extract (.tmp 10) 1, .store 29 (.tmp 2) (.tmp 11), .assign (.tmp 12)]
noncomputable def pp26_1 : List (Nat × Nat × Bool) := [(0, (2, false)), (3, (2, true)), (0, (4, false))]
theorem dr26_1 : okAll (infs d26_1) = true ∧ compD d26_1 (infs d26_1) = some dl26_1 ∧ pairsOf (infs d26_1) = pp26_1 ∧ dl26_1.map (fun x => x.s.o) = ol26_1 := ⟨by kernel_rfl, by kernel_rfl, by kernel_rfl, by kernel_rfl⟩
noncomputable def dl28_1 : List DOp := [⟨⟨some 5, .indexAddr 24 (.tmp 1) (.const (.int .i64 0)), none⟩, [1]⟩, ⟨⟨some 6, .load 23 (.tmp 5), none⟩, [5]⟩, ⟨⟨some 7, .indexAddr 24 (.tmp 1) (.const (.int .i64 1)), none⟩, [1]⟩, ⟨⟨some 8, .load 23 (.tmp 7), none⟩, [7]⟩, ⟨⟨some 3, .alloc 23, none⟩, []⟩, ⟨⟨some 4, .alloc 23, none⟩, []⟩, ⟨⟨none, .store 23 (.tmp 3) (.tmp 6), none⟩, [3, 6]⟩, ⟨⟨none, .store 23 (.tmp 4) (.tmp 8), none⟩, [4, 8]⟩]
noncomputable def ol28_1 : List Op := [.indexAddr 24 (.tmp 1) (.const (.int .i64 0)), .load 23 (.tmp 5), .indexAddr 24 (.tmp 1) (.const (.int .i64 1)), .load 23 (.tmp 7), .alloc 23, .alloc 23, .store 23 (.tmp 3) (.tmp 6), .store 23 (.tmp 4) (.tmp 8)]
noncomputable def pp28_1 : List (Nat × Nat × Bool) := [(3, (6, false))]
theorem dr28_1 : okAll (infs d28_1) = true ∧ compD d28_1 (infs d28_1) = some dl28_1 ∧ pairsOf (infs d28_1) = pp28_1 ∧ dl28_1.map (fun x => x.s.o) = ol28_1 := ⟨by kernel_rfl, by kernel_rfl, by kernel_rfl, by kernel_rfl⟩
noncomputable def dl30_1 : List DOp := [⟨⟨some 4, .indexAddr 24 (.tmp 1) (.const (.int .i64 0)), none⟩, [1]⟩, ⟨⟨some 5, .load 23 (.tmp 4), none⟩, [4]⟩, ⟨⟨some 6, .indexAddr 24 (.tmp 1) (.const (.int .i64 1)), none⟩, [1]⟩, ⟨⟨some 7, .load 23 (.tmp 6), none⟩, [6]⟩, ⟨⟨some 8, .build 24 #[(0, .tmp 5), (1, .tmp 7)], none⟩, [5, 7]⟩, ⟨⟨some 9, .load 24 (.tmp 1), none⟩, [1]⟩, ⟨⟨some 10, .call ⟨.value (.func 28), #[.tmp 9], #[24]⟩, none⟩, [9]⟩, ⟨⟨some 11, .buildSlice 116 1 #[(0, .tmp 10)], none⟩, [10]⟩, ⟨⟨some 12, .call ⟨.value (.func 27), #[.const (.int .i8 2), .tmp 8, .tmp 11], #[27, 24, 116]⟩, none⟩, [8, 11]⟩, ⟨⟨some 13, .extract (.tmp 12) 0, none⟩, [12]⟩, ⟨⟨some 14, .extract (.tmp 12) 1, none⟩, [12]⟩, ⟨⟨none, .store 29 (.tmp 2) (.tmp 13), none⟩, [2, 13]⟩, ⟨⟨some 3, .assign (.tmp 14), none⟩, [14]⟩]
noncomputable def ol30_1 : List Op := [.indexAddr 24 (.tmp 1) (.const (.int .i64 0)), .load 23 (.tmp 4), .indexAddr 24 (.tmp 1) (.const (.int .i64 1)), .load 23 (.tmp 6), .build 24 #[(0, .tmp 5), (1, .tmp 7)], .load 24 (.tmp 1), .call ⟨.value (.func 28), #[.tmp 9], #[24]⟩, .buildSlice 116 1 #[(0, .tmp 10)], .call ⟨.value (.func 27), #[.const (.int .i8 2), .tmp 8, .tmp 11], #[27, 24, 116]⟩, .extract (.tmp 12) 0, .extract (.tmp 12) 1, .store 29 (.tmp 2) (.tmp 13), .assign (.tmp 14)]
noncomputable def pp30_1 : List (Nat × Nat × Bool) := [(1, (6, false)), (3, (6, false))]
theorem dr30_1 : okAll (infs d30_1) = true ∧ compD d30_1 (infs d30_1) = some dl30_1 ∧ pairsOf (infs d30_1) = pp30_1 ∧ dl30_1.map (fun x => x.s.o) = ol30_1 := ⟨by kernel_rfl, by kernel_rfl, by kernel_rfl, by kernel_rfl⟩
noncomputable def dl31_1 : List DOp := [⟨⟨some 4, .load 24 (.tmp 1), none⟩, [1]⟩, ⟨⟨some 5, .load 24 (.tmp 1), none⟩, [1]⟩, ⟨⟨some 6, .call ⟨.value (.func 28), #[.tmp 5], #[24]⟩, none⟩, [5]⟩, ⟨⟨some 7, .load 24 (.tmp 1), none⟩, [1]⟩, ⟨⟨some 8, .call ⟨.value (.func 29), #[.tmp 7], #[24]⟩, none⟩, [7]⟩, ⟨⟨some 9, .buildSlice 116 2 #[(0, .tmp 6), (1, .tmp 8)], none⟩, [6, 8]⟩, ⟨⟨some 10, .call ⟨.value (.func 27), #[.const (.int .i8 3), .tmp 4, .tmp 9], #[27, 24, 116]⟩, none⟩, [4, 9]⟩, ⟨⟨some 11, .extract (.tmp 10) 0, none⟩, [10]⟩, ⟨⟨some 12, .extract (.tmp 10) 1, none⟩, [10]⟩, ⟨⟨none, .store 29 (.tmp 2) (.tmp 11), none⟩, [2, 11]⟩, ⟨⟨some 3, .assign (.tmp 12), none⟩, [12]⟩]
noncomputable def ol31_1 : List Op := [.load 24 (.tmp 1), .load 24 (.tmp 1), .call ⟨.value (.func 28), #[.tmp 5], #[24]⟩, .load 24 (.tmp 1), .call ⟨.value (.func 29), #[.tmp 7], #[24]⟩, .buildSlice 116 2 #[(0, .tmp 6), (1, .tmp 8)], .call ⟨.value (.func 27), #[.const (.int .i8 3), .tmp 4, .tmp 9], #[27, 24, 116]⟩, .extract (.tmp 10) 0, .extract (.tmp 10) 1, .store 29 (.tmp 2) (.tmp 11), .assign (.tmp 12)]
noncomputable def pp31_1 : List (Nat × Nat × Bool) := [(0, (2, false)), (3, (2, true)), (0, (4, false))]
theorem dr31_1 : okAll (infs d31_1) = true ∧ compD d31_1 (infs d31_1) = some dl31_1 ∧ pairsOf (infs d31_1) = pp31_1 ∧ dl31_1.map (fun x => x.s.o) = ol31_1 := ⟨by kernel_rfl, by kernel_rfl, by kernel_rfl, by kernel_rfl⟩
noncomputable def dl48_1 : List DOp := [⟨⟨some 5, .load 22 (.tmp 1), none⟩, [1]⟩, ⟨⟨some 6, .move (.tmp 0), none⟩, [0]⟩, ⟨⟨some 7, .indexAddr 22 (.tmp 5) (.tmp 6), none⟩, [5, 6]⟩, ⟨⟨some 8, .load 38 (.tmp 7), none⟩, [7]⟩, ⟨⟨some 9, .call ⟨.value (.func 49), #[.tmp 8], #[38]⟩, none⟩, [8]⟩, ⟨⟨some 10, .load 23 (.tmp 2), none⟩, [2]⟩, ⟨⟨some 11, .binOp .gtr 23 (.tmp 9) (.tmp 10) 23, none⟩, [9, 10]⟩, ⟨⟨some 4, .assign (.tmp 11), none⟩, [11]⟩]
noncomputable def ol48_1 : List Op := [.load 22 (.tmp 1), .move (.tmp 0), .indexAddr 22 (.tmp 5) (.tmp 6), .load 38 (.tmp 7), .call ⟨.value (.func 49), #[.tmp 8], #[38]⟩, .load 23 (.tmp 2), .binOp .gtr 23 (.tmp 9) (.tmp 10) 23, .assign (.tmp 11)]
noncomputable def pp48_1 : List (Nat × Nat × Bool) := [(5, (4, true))]
theorem dr48_1 : okAll (infs d48_1) = true ∧ compD d48_1 (infs d48_1) = some dl48_1 ∧ pairsOf (infs d48_1) = pp48_1 ∧ dl48_1.map (fun x => x.s.o) = ol48_1 := ⟨by kernel_rfl, by kernel_rfl, by kernel_rfl, by kernel_rfl⟩
noncomputable def dl54_1 : List DOp := [⟨⟨some 6, .load 80 (.tmp 1), none⟩, [1]⟩, ⟨⟨some 7, .load 38 (.tmp 4), none⟩, [4]⟩, ⟨⟨some 8, .load 23 (.tmp 2), none⟩, [2]⟩, ⟨⟨some 9, .load 23 (.tmp 3), none⟩, [3]⟩, ⟨⟨some 10, .call ⟨.value (.func 55), #[.tmp 7, .tmp 8, .tmp 9], #[38, 23, 23]⟩, none⟩, [7, 8, 9]⟩, ⟨⟨some 11, .extract (.tmp 10) 0, none⟩, [10]⟩, ⟨⟨some 12, .extract (.tmp 10) 1, none⟩, [10]⟩, ⟨⟨some 13, .extract (.tmp 10) 2, none⟩, [10]⟩, ⟨⟨some 14, .call ⟨.value (.tmp 6), #[.tmp 11, .tmp 12, .tmp 13], #[38, 38, 38]⟩, none⟩, [6, 11, 12, 13]⟩, ⟨⟨some 5, .assign (.tmp 14), none⟩, [14]⟩]
noncomputable def ol54_1 : List Op := [.load 80 (.tmp 1), .load 38 (.tmp 4), .load 23 (.tmp 2), .load 23 (.tmp 3), .call ⟨.value (.func 55), #[.tmp 7, .tmp 8, .tmp 9], #[38, 23, 23]⟩, .extract (.tmp 10) 0, .extract (.tmp 10) 1, .extract (.tmp 10) 2, .call ⟨.value (.tmp 6), #[.tmp 11, .tmp 12, .tmp 13], #[38, 38, 38]⟩, .assign (.tmp 14)]
noncomputable def pp54_1 : List (Nat × Nat × Bool) := [(0, (4, false))]
theorem dr54_1 : okAll (infs d54_1) = true ∧ compD d54_1 (infs d54_1) = some dl54_1 ∧ pairsOf (infs d54_1) = pp54_1 ∧ dl54_1.map (fun x => x.s.o) = ol54_1 := ⟨by kernel_rfl, by kernel_rfl, by kernel_rfl, by kernel_rfl⟩
noncomputable def dl55_1 : List DOp := [⟨⟨some 11, .move (.tmp 1), none⟩, [1]⟩, ⟨⟨some 12, .fieldAddr 38 (.tmp 3) 0, none⟩, [3]⟩, ⟨⟨some 13, .load 23 (.tmp 12), none⟩, [12]⟩, ⟨⟨some 14, .call ⟨.builtin .max, #[.tmp 11, .tmp 13], #[23, 23]⟩, none⟩, [11, 13]⟩, ⟨⟨some 15, .load 38 (.tmp 3), none⟩, [3]⟩, ⟨⟨some 16, .call ⟨.value (.func 49), #[.tmp 15], #[38]⟩, none⟩, [15]⟩, ⟨⟨some 17, .call ⟨.builtin .min, #[.tmp 14, .tmp 16], #[23, 23]⟩, none⟩, [14, 16]⟩, ⟨⟨some 9, .assign (.tmp 17), none⟩, [17]⟩]
noncomputable def ol55_1 : List Op := [.move (.tmp 1), .fieldAddr 38 (.tmp 3) 0, .load 23 (.tmp 12), .call ⟨.builtin .max, #[.tmp 11, .tmp 13], #[23, 23]⟩, .load 38 (.tmp 3), .call ⟨.value (.func 49), #[.tmp 15], #[38]⟩, .call ⟨.builtin .min, #[.tmp 14, .tmp 16], #[23, 23]⟩, .assign (.tmp 17)]
noncomputable def pp55_1 : List (Nat × Nat × Bool) := [(2, (5, false))]
theorem dr55_1 : okAll (infs d55_1) = true ∧ compD d55_1 (infs d55_1) = some dl55_1 ∧ pairsOf (infs d55_1) = pp55_1 ∧ dl55_1.map (fun x => x.s.o) = ol55_1 := ⟨by kernel_rfl, by kernel_rfl, by kernel_rfl, by kernel_rfl⟩
noncomputable def dl55_3 : List DOp := [⟨⟨some 24, .load 38 (.tmp 3), none⟩, [3]⟩, ⟨⟨some 25, .load 38 (.tmp 3), none⟩, [3]⟩, ⟨⟨some 26, .load 38 (.tmp 3), none⟩, [3]⟩, ⟨⟨none, .store 38 (.tmp 6) (.tmp 24), none⟩, [6, 24]⟩, ⟨⟨none, .store 38 (.tmp 7) (.tmp 25), none⟩, [7, 25]⟩, ⟨⟨none, .store 38 (.tmp 8) (.tmp 26), none⟩, [8, 26]⟩]
noncomputable def ol55_3 : List Op := [.load 38 (.tmp 3), .load 38 (.tmp 3), .load 38 (.tmp 3), .store 38 (.tmp 6) (.tmp 24), .store 38 (.tmp 7) (.tmp 25), .store 38 (.tmp 8) (.tmp 26)]
noncomputable def pp55_3 : List (Nat × Nat × Bool) := [(1, (3, false)), (2, (3, false)), (2, (4, false))]
theorem dr55_3 : okAll (infs d55_3) = true ∧ compD d55_3 (infs d55_3) = some dl55_3 ∧ pairsOf (infs d55_3) = pp55_3 ∧ dl55_3.map (fun x => x.s.o) = ol55_3 := ⟨by kernel_rfl, by kernel_rfl, by kernel_rfl, by kernel_rfl⟩
noncomputable def dl55_7 : List DOp := [⟨⟨some 48, .load 38 (.tmp 6), none⟩, [6]⟩, ⟨⟨some 49, .load 38 (.tmp 7), none⟩, [7]⟩, ⟨⟨some 50, .load 38 (.tmp 8), none⟩, [8]⟩, ⟨⟨none, .store 38 (.tmp 6) (.tmp 48), none⟩, [6, 48]⟩, ⟨⟨none, .store 38 (.tmp 7) (.tmp 49), none⟩, [7, 49]⟩, ⟨⟨none, .store 38 (.tmp 8) (.tmp 50), none⟩, [8, 50]⟩]
noncomputable def ol55_7 : List Op := [.load 38 (.tmp 6), .load 38 (.tmp 7), .load 38 (.tmp 8), .store 38 (.tmp 6) (.tmp 48), .store 38 (.tmp 7) (.tmp 49), .store 38 (.tmp 8) (.tmp 50)]
noncomputable def pp55_7 : List (Nat × Nat × Bool) := [(1, (3, false)), (2, (3, false)), (2, (4, false))]
theorem dr55_7 : okAll (infs d55_7) = true ∧ compD d55_7 (infs d55_7) = some dl55_7 ∧ pairsOf (infs d55_7) = pp55_7 ∧ dl55_7.map (fun x => x.s.o) = ol55_7 := ⟨by kernel_rfl, by kernel_rfl, by kernel_rfl, by kernel_rfl⟩
noncomputable def dl20_11 : List DOp := [⟨⟨some 46, .move (.tmp 9), none⟩, [9]⟩, ⟨⟨some 47, .move (.tmp 1), none⟩, [1]⟩, ⟨⟨some 48, .move (.tmp 7), none⟩, [7]⟩, ⟨⟨some 49, .binOp .add 3 (.tmp 47) (.tmp 48) 3, none⟩, [47, 48]⟩, ⟨⟨some 50, .slice 22 (.tmp 46) (some (.tmp 49)) none none, none⟩, [46, 49]⟩, ⟨⟨some 51, .move (.tmp 0), none⟩, [0]⟩, ⟨⟨some 52, .move (.tmp 1), none⟩, [1]⟩, ⟨⟨some 53, .slice 22 (.tmp 51) (some (.tmp 52)) none none, none⟩, [51, 52]⟩, ⟨⟨some 54, .call ⟨.builtin .copy, #[.tmp 50, .tmp 53], #[22, 22]⟩, none⟩, [50, 53]⟩]
noncomputable def ol20_11 : List Op := [.move (.tmp 9), .move (.tmp 1), .move (.tmp 7), .binOp .add 3 (.tmp 47) (.tmp 48) 3, .slice 22 (.tmp 46) (some (.tmp 49)) none none, .move (.tmp 0), .move (.tmp 1), .slice 22 (.tmp 51) (some (.tmp 52)) none none, .call ⟨.builtin .copy, #[.tmp 50, .tmp 53], #[22, 22]⟩]
noncomputable def pp20_11 : List (Nat × Nat × Bool) := []
theorem dr20_11 : okAll (infs d20_11) = true ∧ compD d20_11 (infs d20_11) = some dl20_11 ∧ pairsOf (infs d20_11) = pp20_11 ∧ dl20_11.map (fun x => x.s.o) = ol20_11 := ⟨by kernel_rfl, by kernel_rfl, by kernel_rfl, by kernel_rfl⟩
noncomputable def dl20_15 : List DOp := [⟨⟨some 69, .move (.tmp 0), none⟩, [0]⟩, ⟨⟨some 70, .move (.tmp 1), none⟩, [1]⟩, ⟨⟨some 71, .move (.tmp 7), none⟩, [7]⟩, ⟨⟨some 72, .binOp .add 3 (.tmp 70) (.tmp 71) 3, none⟩, [70, 71]⟩, ⟨⟨some 73, .slice 22 (.tmp 69) (some (.tmp 72)) none none, none⟩, [69, 72]⟩, ⟨⟨some 74, .move (.tmp 0), none⟩, [0]⟩, ⟨⟨some 75, .move (.tmp 1), none⟩, [1]⟩, ⟨⟨some 76, .slice 22 (.tmp 74) (some (.tmp 75)) none none, none⟩, [74, 75]⟩, ⟨⟨some 77, .call ⟨.builtin .copy, #[.tmp 73, .tmp 76], #[22, 22]⟩, none⟩, [73, 76]⟩]
noncomputable def ol20_15 : List Op := [.move (.tmp 0), .move (.tmp 1), .move (.tmp 7), .binOp .add 3 (.tmp 70) (.tmp 71) 3, .slice 22 (.tmp 69) (some (.tmp 72)) none none, .move (.tmp 0), .move (.tmp 1), .slice 22 (.tmp 74) (some (.tmp 75)) none none, .call ⟨.builtin .copy, #[.tmp 73, .tmp 76], #[22, 22]⟩]
noncomputable def pp20_15 : List (Nat × Nat × Bool) := []
theorem dr20_15 : okAll (infs d20_15) = true ∧ compD d20_15 (infs d20_15) = some dl20_15 ∧ pairsOf (infs d20_15) = pp20_15 ∧ dl20_15.map (fun x => x.s.o) = ol20_15 := ⟨by kernel_rfl, by kernel_rfl, by kernel_rfl, by kernel_rfl⟩

end Go.Proofs.YthdoelcgdgcncaaGreatDoor
