/- Parts of an abstract machine and its proofs: Codes. -/
import Derived.Test.YtjkolhdcgidmnaaAmOps

set_option linter.unusedSimpArgs false
set_option linter.unusedVariables false
/- Codes of functions, printed by chars.py. -/
namespace Go.Am
def l_arbourlaw4_CharsSplits_0 : ACode := .seq (.ghost (.keep [0, 3, 4, 5, 45]))
  (.seq (.seq (.region [(0, ⟨some 46, .next (.s 45), none⟩),
    (1, ⟨some 47, .extract (.s 46) 0, none⟩)] [])
  (.seq (.cond (.s 47)
  .skip
  (.seq (.ghost (.keep [0, 3, 4, 5])) (.exit 2)))
  (.block 3 (.seq (.region [(0, ⟨some 48, .extract (.s 46) 2, none⟩),
    (1, ⟨some 7, .mov (.s 48), none⟩)] [])
  (.seq (.region [(0, ⟨some 49, .mov (.s 7), none⟩),
    (1, ⟨some 50, .call .pure 10 [(.s 49)] [], none⟩),
    (2, ⟨some 51, .mov (.s 3), none⟩),
    (3, ⟨some 52, .mov (.s 5), none⟩),
    (4, ⟨some 53, .iaddr (.s 51) (.s 52) 1 none, none⟩),
    (5, ⟨some 54, .load false 1 (.s 53), none⟩),
    (6, ⟨some 55, .call .pure 9 [(.s 54)] [], none⟩),
    (7, ⟨some 56, .eqk .bool true (.s 50) (.s 55), none⟩)] [])
  (.cond (.s 56)
  (.seq (.region [(0, ⟨some 2, .mov (.c (.bool false)), none⟩)] [])
  (.seq (.ghost (.keep [2])) .ret))
  .skip))))))
  (.ghost (.keep [0, 3, 4, 5, 45])))
def l_arbourlaw4_CharsSplits_1 : ACode := .seq (.ghost (.keep [0, 3, 4, 5]))
  (.seq (.seq (.seq (.region [(0, ⟨some 12, .mov (.s 5), none⟩),
    (1, ⟨some 13, .mov (.s 3), none⟩),
    (2, ⟨some 14, .len false (.s 13), none⟩),
    (3, ⟨some 15, .bin .lss (.s 12) (.s 14), none⟩)] [])
  (.cond (.s 15)
  .skip
  (.seq (.ghost (.keep [0, 4])) (.exit 0))))
  (.seq (.block 1 (.seq (.seq (.region [(0, ⟨some 18, .mov (.s 3), none⟩),
    (1, ⟨some 19, .mov (.s 5), none⟩),
    (2, ⟨some 20, .iaddr (.s 18) (.s 19) 1 none, none⟩),
    (3, ⟨some 21, .load false 1 (.s 20), none⟩),
    (4, ⟨some 22, .bin .eql (.s 21) (.c (.str [])), none⟩),
    (5, ⟨some 23, .mov (.s 22), none⟩),
    (6, ⟨some 24, .mov (.s 5), (some (23, false))⟩),
    (7, ⟨some 25, .bin .gtr (.s 24) (.c (.int .i64 0)), (some (23, false))⟩),
    (8, ⟨some 26, .mov (.s 25), (some (23, false))⟩),
    (9, ⟨some 27, .mov (.s 3), (some (26, true))⟩),
    (10, ⟨some 28, .mov (.s 5), (some (26, true))⟩),
    (11, ⟨some 29, .iaddr (.s 27) (.s 28) 1 none, (some (26, true))⟩),
    (14, ⟨some 32, .mov (.s 3), (some (26, true))⟩),
    (15, ⟨some 33, .mov (.s 5), (some (26, true))⟩),
    (16, ⟨some 34, .bin .sub (.s 33) (.c (.int .i64 1)), (some (26, true))⟩),
    (17, ⟨some 35, .iaddr (.s 32) (.s 34) 1 none, (some (26, true))⟩),
    (12, ⟨some 30, .load false 1 (.s 29), (some (26, true))⟩),
    (13, ⟨some 31, .call .pure 9 [(.s 30)] [], (some (26, true))⟩),
    (18, ⟨some 36, .load false 1 (.s 35), (some (26, true))⟩),
    (19, ⟨some 37, .call .pure 9 [(.s 36)] [], (some (26, true))⟩),
    (20, ⟨some 38, .eqk .bool false (.s 31) (.s 37), (some (26, true))⟩),
    (21, ⟨some 39, .pick (.s 26) (.s 38) (.c (.bool false)), (some (23, false))⟩),
    (22, ⟨some 40, .pick (.s 23) (.c (.bool true)) (.s 39), none⟩)] [])
  (.cond (.s 40)
  (.seq (.region [(0, ⟨some 2, .mov (.c (.bool false)), none⟩)] [])
  (.seq (.ghost (.keep [2])) .ret))
  .skip))
  (.seq (.seq (.region [(0, ⟨some 41, .mov (.s 3), none⟩),
    (1, ⟨some 42, .mov (.s 5), none⟩),
    (2, ⟨some 43, .iaddr (.s 41) (.s 42) 1 none, none⟩),
    (3, ⟨some 44, .load false 1 (.s 43), none⟩),
    (4, ⟨some 45, .range (.s 44), none⟩)] [])
  (.seq (.ghost (.keep [0, 3, 4, 5, 45])) (.block 2 (.loop l_arbourlaw4_CharsSplits_0))))
  (.region [(0, ⟨some 57, .mov (.s 4), none⟩),
    (1, ⟨some 58, .mov (.s 3), none⟩),
    (2, ⟨some 59, .mov (.s 5), none⟩),
    (3, ⟨some 60, .iaddr (.s 58) (.s 59) 1 none, none⟩),
    (4, ⟨some 61, .load false 1 (.s 60), none⟩),
    (5, ⟨some 62, .bin .add (.s 57) (.s 61), none⟩),
    (6, ⟨some 4, .mov (.s 62), none⟩)] []))))
  (.region [(0, ⟨some 16, .mov (.s 5), none⟩),
    (1, ⟨some 17, .bin .add (.s 16) (.c (.int .i64 1)), none⟩),
    (2, ⟨some 5, .mov (.s 17), none⟩)] [])))
  (.ghost (.keep [0, 3, 4, 5])))
def c_arbourlaw4_CharsSplits : AFun := ⟨85, [.slot 2],
  .seq (.region [(0, ⟨some 2, .mov (.c (.bool false)), none⟩)] [])
  (.seq (.region [(0, ⟨some 8, .mov (.s 0), none⟩),
    (1, ⟨some 9, .call .pure 7 [(.s 8), (.c (.int .i64 200))] [], none⟩),
    (2, ⟨some 0, .mov (.s 9), none⟩)] [])
  (.seq (.region [(0, ⟨some 10, .mov (.s 0), none⟩),
    (1, ⟨some 11, .call .pure 8 [(.s 10)] [], none⟩),
    (2, ⟨some 3, .mov (.s 11), none⟩)] [])
  (.seq (.region [(0, ⟨some 4, .mov (.c (.str [])), none⟩)] [])
  (.seq (.seq (.region [(0, ⟨some 5, .mov (.c (.int .i64 0)), none⟩)] [])
  (.seq (.ghost (.keep [0, 3, 4, 5])) (.block 0 (.loop l_arbourlaw4_CharsSplits_1))))
  (.seq (.region [(0, ⟨some 63, .mov (.s 4), none⟩),
    (1, ⟨some 64, .mov (.s 0), none⟩),
    (2, ⟨some 65, .bin .eql (.s 63) (.s 64), none⟩),
    (3, ⟨some 66, .mov (.s 65), none⟩),
    (4, ⟨some 67, .mov (.s 0), (some (66, true))⟩),
    (5, ⟨some 68, .call .pure 11 [(.s 67)] [], (some (66, true))⟩),
    (6, ⟨some 69, .call .pure 11 [(.s 68)] [], (some (66, true))⟩),
    (7, ⟨some 70, .mov (.s 0), (some (66, true))⟩),
    (8, ⟨some 71, .call .pure 11 [(.s 70)] [], (some (66, true))⟩),
    (9, ⟨some 72, .bin .eql (.s 69) (.s 71), (some (66, true))⟩),
    (10, ⟨some 73, .pick (.s 66) (.s 72) (.c (.bool false)), none⟩),
    (11, ⟨some 74, .mov (.s 73), none⟩),
    (12, ⟨some 75, .mov (.s 0), (some (74, true))⟩),
    (13, ⟨some 76, .call .pure 11 [(.s 75)] [], (some (74, true))⟩),
    (14, ⟨some 77, .len true (.s 76), (some (74, true))⟩),
    (15, ⟨some 78, .mov (.s 0), (some (74, true))⟩),
    (16, ⟨some 79, .len true (.s 78), (some (74, true))⟩),
    (17, ⟨some 80, .bin .eql (.s 77) (.s 79), (some (74, true))⟩),
    (18, ⟨some 81, .pick (.s 74) (.s 80) (.c (.bool false)), none⟩),
    (19, ⟨some 82, .mov (.s 81), none⟩),
    (20, ⟨some 83, .call .pure 12 [] [], (some (82, true))⟩),
    (21, ⟨some 84, .pick (.s 82) (.s 83) (.c (.bool false)), none⟩),
    (22, ⟨some 2, .mov (.s 84), none⟩)] [])
  (.seq (.ghost (.keep [2])) .ret))))))⟩
def l_arbourlaw4_CharsNumbers_0 : ACode := .seq (.ghost (.keep [1]))
  (.seq (.seq (.seq (.region [(0, ⟨some 2, .mov (.s 1), none⟩),
    (1, ⟨some 3, .bin .lss (.s 2) (.c (.int .i32 300)), none⟩)] [])
  (.cond (.s 3)
  .skip
  (.seq (.ghost (.keep [])) (.exit 0))))
  (.seq (.block 1 (.seq (.region [(0, ⟨some 6, .mov (.s 1), none⟩),
    (1, ⟨some 7, .call .pure 13 [(.s 6)] [], none⟩),
    (2, ⟨some 8, .un .not (.s 7), none⟩),
    (3, ⟨some 9, .mov (.s 8), none⟩),
    (4, ⟨some 10, .mov (.s 1), (some (9, false))⟩),
    (5, ⟨some 11, .conv (.i2s) (.s 10), (some (9, false))⟩),
    (6, ⟨some 12, .call .pure 14 [(.s 11)] [], (some (9, false))⟩),
    (7, ⟨some 13, .un .not (.s 12), (some (9, false))⟩),
    (8, ⟨some 14, .pick (.s 9) (.c (.bool true)) (.s 13), none⟩)] [])
  (.cond (.s 14)
  (.seq (.region [(0, ⟨some 0, .mov (.c (.bool false)), none⟩)] [])
  (.seq (.ghost (.keep [0])) .ret))
  .skip)))
  (.region [(0, ⟨some 4, .mov (.s 1), none⟩),
    (1, ⟨some 5, .bin .add (.s 4) (.c (.int .i32 1)), none⟩),
    (2, ⟨some 1, .mov (.s 5), none⟩)] [])))
  (.ghost (.keep [1])))
def c_arbourlaw4_CharsNumbers : AFun := ⟨25, [.slot 0],
  .seq (.region [(0, ⟨some 0, .mov (.c (.bool false)), none⟩)] [])
  (.seq (.seq (.region [(0, ⟨some 1, .mov (.c (.int .i32 (-2))), none⟩)] [])
  (.seq (.ghost (.keep [1])) (.block 0 (.loop l_arbourlaw4_CharsNumbers_0))))
  (.seq (.region [(0, ⟨some 15, .call .pure 13 [(.c (.int .i32 8232))] [], none⟩),
    (1, ⟨some 16, .mov (.s 15), none⟩),
    (2, ⟨some 17, .call .pure 13 [(.c (.int .i32 65313))] [], (some (16, true))⟩),
    (3, ⟨some 18, .pick (.s 16) (.s 17) (.c (.bool false)), none⟩),
    (4, ⟨some 19, .mov (.s 18), none⟩),
    (5, ⟨some 20, .call .pure 13 [(.c (.int .i32 1114111))] [], (some (19, true))⟩),
    (6, ⟨some 21, .pick (.s 19) (.s 20) (.c (.bool false)), none⟩),
    (7, ⟨some 22, .mov (.s 21), none⟩),
    (8, ⟨some 23, .call .pure 12 [] [], (some (22, true))⟩),
    (9, ⟨some 24, .pick (.s 22) (.s 23) (.c (.bool false)), none⟩),
    (10, ⟨some 0, .mov (.s 24), none⟩)] [])
  (.seq (.ghost (.keep [0])) .ret)))⟩
def c_arbourlaw4_CharsTells : AFun := ⟨37, [.slot 6],
  .seq (.region [(0, ⟨some 6, .mov (.c (.bool false)), none⟩)] [])
  (.seq (.region [(0, ⟨some 7, .mov (.s 1), none⟩),
    (1, ⟨some 8, .call .pure 7 [(.s 7), (.c (.int .i64 200))] [], none⟩),
    (2, ⟨some 9, .mov (.s 2), none⟩),
    (3, ⟨some 10, .call .pure 7 [(.s 9), (.c (.int .i64 200))] [], none⟩),
    (4, ⟨some 1, .mov (.s 8), none⟩),
    (5, ⟨some 2, .mov (.s 10), none⟩)] [])
  (.seq (.region [(0, ⟨some 11, .mov (.s 0), none⟩),
    (1, ⟨some 12, .call .pure 13 [(.s 11)] [], none⟩),
    (2, ⟨some 13, .mov (.s 12), none⟩),
    (3, ⟨some 14, .mov (.s 1), (some (13, true))⟩),
    (4, ⟨some 15, .call .pure 14 [(.s 14)] [], (some (13, true))⟩),
    (5, ⟨some 16, .pick (.s 13) (.s 15) (.c (.bool false)), none⟩),
    (6, ⟨some 17, .mov (.s 16), none⟩),
    (7, ⟨some 18, .mov (.s 1), (some (17, true))⟩),
    (8, ⟨some 19, .mov (.s 2), (some (17, true))⟩),
    (9, ⟨some 20, .call .pure 15 [(.s 18), (.s 19)] [], (some (17, true))⟩),
    (10, ⟨some 21, .mov (.s 1), (some (17, true))⟩),
    (11, ⟨some 22, .call .pure 16 [(.s 21)] [], (some (17, true))⟩),
    (12, ⟨some 23, .mov (.s 2), (some (17, true))⟩),
    (13, ⟨some 24, .call .pure 16 [(.s 23)] [], (some (17, true))⟩),
    (14, ⟨some 25, .bin .eql (.s 22) (.s 24), (some (17, true))⟩),
    (15, ⟨some 26, .eqk .bool false (.s 20) (.s 25), (some (17, true))⟩),
    (16, ⟨some 27, .pick (.s 17) (.s 26) (.c (.bool false)), none⟩),
    (17, ⟨some 28, .mov (.s 27), none⟩),
    (18, ⟨some 29, .mov (.s 1), (some (28, true))⟩),
    (19, ⟨some 30, .mov (.s 1), (some (28, true))⟩),
    (20, ⟨some 31, .call .pure 16 [(.s 30)] [], (some (28, true))⟩),
    (21, ⟨some 32, .call .pure 15 [(.s 29), (.s 31)] [], (some (28, true))⟩),
    (22, ⟨some 33, .pick (.s 28) (.s 32) (.c (.bool false)), none⟩),
    (23, ⟨some 34, .mov (.s 33), none⟩),
    (24, ⟨some 35, .call .pure 12 [] [], (some (34, true))⟩),
    (25, ⟨some 36, .pick (.s 34) (.s 35) (.c (.bool false)), none⟩),
    (26, ⟨some 6, .mov (.s 36), none⟩)] [])
  (.seq (.ghost (.keep [6])) .ret)))⟩
def l_arbourlaw4_CharsKinds_0 : ACode := .seq (.ghost (.keep [1, 15]))
  (.seq (.seq (.region [(0, ⟨some 16, .next (.s 15), none⟩),
    (1, ⟨some 17, .extract (.s 16) 0, none⟩)] [])
  (.seq (.cond (.s 17)
  .skip
  (.seq (.ghost (.keep [1])) (.exit 0)))
  (.block 1 (.seq (.region [(0, ⟨some 18, .extract (.s 16) 2, none⟩),
    (1, ⟨some 6, .mov (.s 18), none⟩)] [])
  (.seq (.region [(0, ⟨some 20, .mov (.s 6), none⟩),
    (1, ⟨some 21, .call .pure 17 [(.s 20)] [], none⟩),
    (2, ⟨some 19, .mov (.s 21), none⟩),
    (3, ⟨some 22, .extract (.s 19) 0, none⟩),
    (4, ⟨some 23, .extract (.s 19) 1, none⟩),
    (5, ⟨some 7, .mov (.s 22), none⟩),
    (6, ⟨some 8, .mov (.s 23), none⟩)] [])
  (.seq (.seq (.region [(0, ⟨some 24, .mov (.s 6), none⟩),
    (1, ⟨some 25, .call .pure 10 [(.s 24)] [], none⟩),
    (2, ⟨some 26, .mov (.s 25), none⟩),
    (3, ⟨some 27, .mov (.s 6), (some (26, true))⟩),
    (4, ⟨some 28, .call .pure 18 [(.s 27)] [], (some (26, true))⟩),
    (5, ⟨some 29, .mov (.s 28), (some (26, true))⟩),
    (6, ⟨some 30, .mov (.s 6), (some (29, false))⟩),
    (7, ⟨some 31, .call .pure 19 [(.s 30)] [], (some (29, false))⟩),
    (8, ⟨some 32, .pick (.s 29) (.c (.bool true)) (.s 31), (some (26, true))⟩),
    (9, ⟨some 33, .mov (.s 32), (some (26, true))⟩),
    (10, ⟨some 34, .mov (.s 8), (some (33, false))⟩),
    (11, ⟨some 35, .pick (.s 33) (.c (.bool true)) (.s 34), (some (26, true))⟩),
    (12, ⟨some 36, .pick (.s 26) (.s 35) (.c (.bool false)), none⟩),
    (13, ⟨some 37, .mov (.s 36), none⟩),
    (14, ⟨some 38, .mov (.s 6), (some (37, false))⟩),
    (15, ⟨some 39, .call .pure 18 [(.s 38)] [], (some (37, false))⟩),
    (16, ⟨some 40, .mov (.s 39), (some (37, false))⟩),
    (17, ⟨some 41, .mov (.s 6), (some (40, true))⟩),
    (18, ⟨some 42, .call .pure 19 [(.s 41)] [], (some (40, true))⟩),
    (19, ⟨some 43, .pick (.s 40) (.s 42) (.c (.bool false)), (some (37, false))⟩),
    (20, ⟨some 44, .pick (.s 37) (.c (.bool true)) (.s 43), none⟩),
    (21, ⟨some 45, .mov (.s 44), none⟩),
    (22, ⟨some 46, .mov (.s 6), (some (45, false))⟩),
    (23, ⟨some 47, .call .pure 19 [(.s 46)] [], (some (45, false))⟩),
    (24, ⟨some 48, .mov (.s 47), (some (45, false))⟩),
    (25, ⟨some 49, .mov (.s 8), (some (48, true))⟩),
    (26, ⟨some 50, .un .not (.s 49), (some (48, true))⟩),
    (27, ⟨some 51, .pick (.s 48) (.s 50) (.c (.bool false)), (some (45, false))⟩),
    (28, ⟨some 52, .pick (.s 45) (.c (.bool true)) (.s 51), none⟩),
    (29, ⟨some 53, .mov (.s 52), none⟩),
    (30, ⟨some 54, .mov (.s 8), (some (53, false))⟩),
    (31, ⟨some 55, .mov (.s 54), (some (53, false))⟩),
    (32, ⟨some 56, .mov (.s 6), (some (55, true))⟩),
    (33, ⟨some 57, .call .pure 18 [(.s 56)] [], (some (55, true))⟩),
    (34, ⟨some 58, .un .not (.s 57), (some (55, true))⟩),
    (35, ⟨some 59, .pick (.s 55) (.s 58) (.c (.bool false)), (some (53, false))⟩),
    (36, ⟨some 60, .mov (.s 59), (some (53, false))⟩),
    (37, ⟨some 61, .mov (.s 6), (some (60, true))⟩),
    (38, ⟨some 62, .call .pure 19 [(.s 61)] [], (some (60, true))⟩),
    (39, ⟨some 63, .un .not (.s 62), (some (60, true))⟩),
    (40, ⟨some 64, .pick (.s 60) (.s 63) (.c (.bool false)), (some (53, false))⟩),
    (41, ⟨some 65, .pick (.s 53) (.c (.bool true)) (.s 64), none⟩),
    (42, ⟨some 66, .mov (.s 65), none⟩),
    (43, ⟨some 67, .mov (.s 7), (some (66, false))⟩),
    (44, ⟨some 68, .bin .lss (.s 67) (.c (.int .i64 0)), (some (66, false))⟩),
    (45, ⟨some 69, .pick (.s 66) (.c (.bool true)) (.s 68), none⟩),
    (46, ⟨some 70, .mov (.s 69), none⟩),
    (47, ⟨some 71, .mov (.s 7), (some (70, false))⟩),
    (48, ⟨some 72, .bin .gtr (.s 71) (.c (.int .i64 15)), (some (70, false))⟩),
    (49, ⟨some 73, .pick (.s 70) (.c (.bool true)) (.s 72), none⟩)] [])
  (.seq (.ghost (.keep [1, 6, 15, 73])) (.cond (.s 73)
  (.seq (.region [(0, ⟨some 4, .mov (.c (.bool false)), none⟩)] [])
  (.seq (.ghost (.keep [4])) .ret))
  .skip)))
  (.seq (.ghost (.keep [1, 6, 15])) (.seq (.region [(0, ⟨some 74, .mov (.s 6), none⟩),
    (1, ⟨some 75, .call .pure 18 [(.s 74)] [], none⟩),
    (2, ⟨some 76, .mov (.s 6), none⟩),
    (3, ⟨some 77, .conv (.i2s) (.s 76), none⟩),
    (4, ⟨some 78, .call .pure 11 [(.s 77)] [], none⟩),
    (5, ⟨some 79, .bin .geq (.s 78) (.c (.str [97])), none⟩),
    (6, ⟨some 80, .mov (.s 79), none⟩),
    (7, ⟨some 81, .mov (.s 6), (some (80, true))⟩),
    (8, ⟨some 82, .conv (.i2s) (.s 81), (some (80, true))⟩),
    (9, ⟨some 83, .call .pure 11 [(.s 82)] [], (some (80, true))⟩),
    (10, ⟨some 84, .bin .leq (.s 83) (.c (.str [122])), (some (80, true))⟩),
    (11, ⟨some 85, .pick (.s 80) (.s 84) (.c (.bool false)), none⟩),
    (12, ⟨some 86, .mov (.s 85), none⟩),
    (13, ⟨some 87, .mov (.s 6), (some (86, true))⟩),
    (14, ⟨some 88, .conv (.i2s) (.s 87), (some (86, true))⟩),
    (15, ⟨some 89, .len true (.s 88), (some (86, true))⟩),
    (16, ⟨some 90, .bin .eql (.s 89) (.c (.int .i64 1)), (some (86, true))⟩),
    (17, ⟨some 91, .pick (.s 86) (.s 90) (.c (.bool false)), none⟩),
    (18, ⟨some 92, .eqk .bool true (.s 75) (.s 91), none⟩)] [])
  (.cond (.s 92)
  (.seq (.region [(0, ⟨some 4, .mov (.c (.bool false)), none⟩)] [])
  (.seq (.ghost (.keep [4])) .ret))
  .skip)))))))))
  (.ghost (.keep [1, 15])))
def c_arbourlaw4_CharsKinds : AFun := ⟨100, [.slot 4],
  .seq (.region [(0, ⟨some 4, .mov (.c (.bool false)), none⟩)] [])
  (.seq (.region [(0, ⟨some 9, .mov (.s 1), none⟩),
    (1, ⟨some 10, .call .pure 7 [(.s 9), (.c (.int .i64 60))] [], none⟩),
    (2, ⟨some 11, .mov (.s 0), none⟩),
    (3, ⟨some 12, .conv (.i2s) (.s 11), none⟩),
    (4, ⟨some 13, .bin .add (.s 10) (.s 12), none⟩),
    (5, ⟨some 1, .mov (.s 13), none⟩)] [])
  (.seq (.seq (.region [(0, ⟨some 14, .mov (.s 1), none⟩),
    (1, ⟨some 15, .range (.s 14), none⟩)] [])
  (.seq (.ghost (.keep [1, 15])) (.block 0 (.loop l_arbourlaw4_CharsKinds_0))))
  (.seq (.region [(0, ⟨some 93, .mov (.s 1), none⟩),
    (1, ⟨some 94, .mov (.s 1), none⟩),
    (2, ⟨some 95, .call .pure 11 [(.s 94)] [], none⟩),
    (3, ⟨some 96, .call .pure 15 [(.s 93), (.s 95)] [], none⟩),
    (4, ⟨some 97, .mov (.s 96), none⟩),
    (5, ⟨some 98, .call .pure 12 [] [], (some (97, true))⟩),
    (6, ⟨some 99, .pick (.s 97) (.s 98) (.c (.bool false)), none⟩),
    (7, ⟨some 4, .mov (.s 99), none⟩)] [])
  (.seq (.ghost (.keep [4])) .ret))))⟩
def c_arbourkeep_Head : AFun := ⟨13, [.slot 4],
  .seq (.region [(0, ⟨some 4, .mov (.c (.str [])), none⟩)] [])
  (.seq (.seq (.region [(0, ⟨some 5, .mov (.s 0), none⟩),
    (1, ⟨some 6, .len true (.s 5), none⟩),
    (2, ⟨some 7, .mov (.s 1), none⟩),
    (3, ⟨some 8, .bin .gtr (.s 6) (.s 7), none⟩)] [])
  (.cond (.s 8)
  (.seq (.region [(0, ⟨some 9, .mov (.s 0), none⟩),
    (1, ⟨some 10, .mov (.s 1), none⟩),
    (2, ⟨some 11, .slice (.s 9) 0 none (some (.s 10)) none, none⟩),
    (3, ⟨some 4, .mov (.s 11), none⟩)] [])
  (.seq (.ghost (.keep [4])) .ret))
  .skip))
  (.seq (.region [(0, ⟨some 12, .mov (.s 0), none⟩),
    (1, ⟨some 4, .mov (.s 12), none⟩)] [])
  (.seq (.ghost (.keep [4])) .ret)))⟩
def l_chars_Split_0 : ACode := .seq (.ghost (.keep [0, 3, 4, 5, 10]))
  (.seq (.seq (.region [(0, ⟨some 11, .next (.s 10), none⟩),
    (1, ⟨some 12, .extract (.s 11) 0, none⟩)] [])
  (.seq (.cond (.s 12)
  .skip
  (.seq (.ghost (.keep [0, 3, 4])) (.exit 0)))
  (.block 1 (.seq (.region [(0, ⟨some 13, .extract (.s 11) 1, none⟩),
    (1, ⟨some 14, .extract (.s 11) 2, none⟩),
    (2, ⟨some 6, .mov (.s 13), none⟩),
    (3, ⟨some 7, .mov (.s 14), none⟩)] [])
  (.seq (.region [(0, ⟨some 15, .mov (.s 7), none⟩),
    (1, ⟨some 16, .call .pure 10 [(.s 15)] [], none⟩),
    (2, ⟨some 8, .mov (.s 16), none⟩)] [])
  (.seq (.seq (.region [(0, ⟨some 17, .mov (.s 6), none⟩),
    (1, ⟨some 18, .bin .gtr (.s 17) (.c (.int .i64 0)), none⟩),
    (2, ⟨some 19, .mov (.s 18), none⟩),
    (3, ⟨some 20, .mov (.s 8), (some (19, true))⟩),
    (4, ⟨some 21, .mov (.s 5), (some (19, true))⟩),
    (5, ⟨some 22, .eqk .bool true (.s 20) (.s 21), (some (19, true))⟩),
    (6, ⟨some 23, .pick (.s 19) (.s 22) (.c (.bool false)), none⟩)] [])
  (.cond (.s 23)
  (.seq (.region [(0, ⟨some 24, .mov (.s 3), none⟩),
    (1, ⟨some 25, .mov (.s 0), none⟩),
    (2, ⟨some 26, .mov (.s 4), none⟩),
    (3, ⟨some 27, .mov (.s 6), none⟩),
    (4, ⟨some 28, .slice (.s 25) 0 (some (.s 26)) (some (.s 27)) none, none⟩),
    (5, ⟨some 29, .call .pure 20 [(.s 28)] [], none⟩),
    (6, ⟨some 30, .lit false 1 [.str []] 1 [(0, (.s 29))], none⟩),
    (7, ⟨some 31, .append true 1 1000000 (.s 24) (.s 30), none⟩),
    (8, ⟨some 3, .mov (.s 31), none⟩)] [])
  (.region [(0, ⟨some 32, .mov (.s 6), none⟩),
    (1, ⟨some 4, .mov (.s 32), none⟩)] []))
  .skip))
  (.region [(0, ⟨some 33, .mov (.s 8), none⟩),
    (1, ⟨some 5, .mov (.s 33), none⟩)] [])))))))
  (.ghost (.keep [0, 3, 4, 5, 10])))
def c_chars_Split : AFun := ⟨44, [.slot 2],
  .seq (.region [(0, ⟨some 2, .mov (.c (.vs true [])), none⟩)] [])
  (.seq (.seq (.region [(0, ⟨some 3, .mov (.c (.vs true [])), none⟩)] []) (.ghost (.note 1 3 2 [])))
  (.seq (.region [(0, ⟨some 4, .mov (.c (.int .i64 0)), none⟩),
    (1, ⟨some 5, .mov (.c (.bool false)), none⟩)] [])
  (.seq (.seq (.region [(0, ⟨some 9, .mov (.s 0), none⟩),
    (1, ⟨some 10, .range (.s 9), none⟩)] [])
  (.seq (.ghost (.keep [0, 3, 4, 5, 10])) (.block 0 (.loop l_chars_Split_0))))
  (.seq (.seq (.region [(0, ⟨some 34, .mov (.s 0), none⟩),
    (1, ⟨some 35, .bin .neq (.s 34) (.c (.str [])), none⟩)] [])
  (.cond (.s 35)
  (.region [(0, ⟨some 36, .mov (.s 3), none⟩),
    (1, ⟨some 37, .mov (.s 0), none⟩),
    (2, ⟨some 38, .mov (.s 4), none⟩),
    (3, ⟨some 39, .slice (.s 37) 0 (some (.s 38)) none none, none⟩),
    (4, ⟨some 40, .call .pure 20 [(.s 39)] [], none⟩),
    (5, ⟨some 41, .lit false 1 [.str []] 1 [(0, (.s 40))], none⟩),
    (6, ⟨some 42, .append true 1 1000000 (.s 36) (.s 41), none⟩),
    (7, ⟨some 3, .mov (.s 42), none⟩)] [])
  .skip))
  (.seq (.region [(0, ⟨some 43, .mov (.s 3), none⟩),
    (1, ⟨some 2, .mov (.s 43), none⟩)] [])
  (.seq (.ghost (.frz 2)) (.seq (.ghost (.keep [2])) .ret)))))))⟩
def l_chars_Spaces_0 : ACode := .seq (.ghost (.keep [6]))
  (.seq (.seq (.region [(0, ⟨some 7, .next (.s 6), none⟩),
    (1, ⟨some 8, .extract (.s 7) 0, none⟩)] [])
  (.seq (.cond (.s 8)
  .skip
  (.seq (.ghost (.keep [])) (.exit 0)))
  (.block 1 (.seq (.region [(0, ⟨some 9, .extract (.s 7) 2, none⟩),
    (1, ⟨some 4, .mov (.s 9), none⟩)] [])
  (.seq (.region [(0, ⟨some 10, .mov (.s 4), none⟩),
    (1, ⟨some 11, .call .pure 10 [(.s 10)] [], none⟩),
    (2, ⟨some 12, .un .not (.s 11), none⟩)] [])
  (.cond (.s 12)
  (.seq (.region [(0, ⟨some 2, .mov (.c (.bool false)), none⟩)] [])
  (.seq (.ghost (.keep [2])) .ret))
  .skip))))))
  (.ghost (.keep [6])))
def c_chars_Spaces : AFun := ⟨13, [.slot 2],
  .seq (.region [(0, ⟨some 2, .mov (.c (.bool false)), none⟩)] [])
  (.seq (.seq (.region [(0, ⟨some 5, .mov (.s 0), none⟩),
    (1, ⟨some 6, .range (.s 5), none⟩)] [])
  (.seq (.ghost (.keep [6])) (.block 0 (.loop l_chars_Spaces_0))))
  (.seq (.region [(0, ⟨some 2, .mov (.c (.bool true)), none⟩)] [])
  (.seq (.ghost (.keep [2])) .ret)))⟩
def c_chars_Space : AFun := ⟨10, [.slot 2],
  .seq (.region [(0, ⟨some 2, .mov (.c (.bool false)), none⟩)] [])
  (.seq (.seq (.region [(0, ⟨some 3, .mov (.s 0), none⟩)] [])
  (.block 0 (.seq (.seq (.region [(0, ⟨some 5, .bin .eql (.s 3) (.c (.int .i32 9)), none⟩),
    (1, ⟨some 4, .mov (.s 5), none⟩)] [])
  (.cond (.s 4)
  .skip
  (.seq (.region [(0, ⟨some 6, .bin .eql (.s 3) (.c (.int .i32 10)), none⟩),
    (1, ⟨some 4, .mov (.s 6), none⟩)] [])
  (.cond (.s 4)
  .skip
  (.seq (.region [(0, ⟨some 7, .bin .eql (.s 3) (.c (.int .i32 12)), none⟩),
    (1, ⟨some 4, .mov (.s 7), none⟩)] [])
  (.cond (.s 4)
  .skip
  (.seq (.region [(0, ⟨some 8, .bin .eql (.s 3) (.c (.int .i32 13)), none⟩),
    (1, ⟨some 4, .mov (.s 8), none⟩)] [])
  (.cond (.s 4)
  .skip
  (.region [(0, ⟨some 9, .bin .eql (.s 3) (.c (.int .i32 32)), none⟩),
    (1, ⟨some 4, .mov (.s 9), none⟩)] [])))))))))
  (.cond (.s 4)
  (.seq (.region [(0, ⟨some 2, .mov (.c (.bool true)), none⟩)] [])
  (.seq (.ghost (.keep [2])) .ret))
  .skip))))
  (.seq (.region [(0, ⟨some 2, .mov (.c (.bool false)), none⟩)] [])
  (.seq (.ghost (.keep [2])) .ret)))⟩
def l_chars_Lower_0 : ACode := .seq (.ghost (.keep [3, 8, 9, 10]))
  (.seq (.seq (.region [(0, ⟨some 11, .bin .lss (.s 10) (.s 9), none⟩)] [])
  (.seq (.cond (.s 11)
  .skip
  (.seq (.ghost (.keep [3])) (.exit 0)))
  (.seq (.block 1 (.seq (.region [(0, ⟨some 12, .mov (.s 10), none⟩),
    (1, ⟨some 13, .iaddr (.s 8) (.s 10) 1 none, none⟩),
    (2, ⟨some 14, .load false 1 (.s 13), none⟩),
    (3, ⟨some 4, .mov (.s 12), none⟩),
    (4, ⟨some 5, .mov (.s 14), none⟩)] [])
  (.seq (.region [(0, ⟨some 15, .mov (.s 5), none⟩),
    (1, ⟨some 16, .bin .geq (.s 15) (.c (.int .u8 65)), none⟩),
    (2, ⟨some 17, .mov (.s 16), none⟩),
    (3, ⟨some 18, .mov (.s 5), (some (17, true))⟩),
    (4, ⟨some 19, .bin .leq (.s 18) (.c (.int .u8 90)), (some (17, true))⟩),
    (5, ⟨some 20, .pick (.s 17) (.s 19) (.c (.bool false)), none⟩)] [])
  (.cond (.s 20)
  (.region [(0, ⟨some 21, .mov (.s 3), none⟩),
    (1, ⟨some 22, .mov (.s 4), none⟩),
    (2, ⟨some 23, .mov (.s 5), none⟩),
    (3, ⟨some 24, .bin .add (.s 23) (.c (.int .u8 97)), none⟩),
    (4, ⟨some 25, .bin .sub (.s 24) (.c (.int .u8 65)), none⟩),
    (5, ⟨some 26, .iaddr (.s 21) (.s 22) 1 none, none⟩),
    (6, ⟨none, .store 1 (.s 26) (.s 25), none⟩)] [])
  .skip))))
  (.region [(0, ⟨some 27, .bin .add (.s 10) (.c (.int .i64 1)), none⟩),
    (1, ⟨some 10, .mov (.s 27), none⟩)] []))))
  (.ghost (.keep [3, 8, 9, 10])))
def c_chars_Lower : AFun := ⟨30, [.slot 2],
  .seq (.region [(0, ⟨some 2, .mov (.c (.str [])), none⟩)] [])
  (.seq (.region [(0, ⟨some 6, .mov (.s 0), none⟩),
    (1, ⟨some 7, .conv (.s2b true) (.s 6), none⟩),
    (2, ⟨some 3, .mov (.s 7), none⟩)] [])
  (.seq (.seq (.region [(0, ⟨some 8, .mov (.s 3), none⟩),
    (1, ⟨some 9, .len false (.s 8), none⟩),
    (2, ⟨some 10, .mov (.c (.int .i64 0)), none⟩)] [])
  (.seq (.ghost (.keep [3, 8, 9, 10])) (.block 0 (.loop l_chars_Lower_0))))
  (.seq (.region [(0, ⟨some 28, .mov (.s 3), none⟩),
    (1, ⟨some 29, .conv (.b2s) (.s 28), none⟩),
    (2, ⟨some 2, .mov (.s 29), none⟩)] [])
  (.seq (.ghost (.keep [2])) .ret))))⟩
def c_arbourlaw4_known : AFun := ⟨14, [.slot 0],
  .seq (.region [(0, ⟨some 0, .mov (.c (.bool false)), none⟩)] [])
  (.seq (.region [(0, ⟨some 1, .call .pure 8 [(.c (.str [97,32,98,32]))] [], none⟩),
    (1, ⟨some 2, .lit false 1 [.str []] 4 [(0, (.c (.str [97]))), (1, (.c (.str [32]))), (2, (.c (.str [98]))), (3, (.c (.str [32])))], none⟩),
    (2, ⟨some 3, .call .pure 21 [(.s 1), (.s 2)] [], none⟩),
    (3, ⟨some 4, .mov (.s 3), none⟩),
    (4, ⟨some 5, .call .pure 18 [(.c (.int .i32 122))] [], (some (4, true))⟩),
    (5, ⟨some 6, .pick (.s 4) (.s 5) (.c (.bool false)), none⟩),
    (6, ⟨some 7, .mov (.s 6), none⟩),
    (7, ⟨some 8, .call .pure 18 [(.c (.int .i32 228))] [], (some (7, true))⟩),
    (8, ⟨some 9, .un .not (.s 8), (some (7, true))⟩),
    (9, ⟨some 10, .pick (.s 7) (.s 9) (.c (.bool false)), none⟩),
    (10, ⟨some 11, .mov (.s 10), none⟩),
    (11, ⟨some 12, .call .pure 9 [(.c (.str []))] [], (some (11, true))⟩),
    (12, ⟨some 13, .pick (.s 11) (.s 12) (.c (.bool false)), none⟩),
    (13, ⟨some 0, .mov (.s 13), none⟩)] [])
  (.seq (.ghost (.keep [0])) .ret))⟩
def c_arbourlaw4_one : AFun := ⟨46, [.slot 2],
  .seq (.region [(0, ⟨some 2, .mov (.c (.bool false)), none⟩)] [])
  (.seq (.region [(0, ⟨some 8, .mov (.s 0), none⟩),
    (1, ⟨some 9, .call .pure 17 [(.s 8)] [], none⟩),
    (2, ⟨some 7, .mov (.s 9), none⟩),
    (3, ⟨some 10, .extract (.s 7) 0, none⟩),
    (4, ⟨some 11, .extract (.s 7) 1, none⟩),
    (5, ⟨some 3, .mov (.s 10), none⟩),
    (6, ⟨some 4, .mov (.s 11), none⟩)] [])
  (.seq (.region [(0, ⟨some 13, .mov (.s 0), none⟩),
    (1, ⟨some 14, .call .pure 22 [(.s 13)] [], none⟩),
    (2, ⟨some 12, .mov (.s 14), none⟩),
    (3, ⟨some 15, .extract (.s 12) 0, none⟩),
    (4, ⟨some 16, .extract (.s 12) 1, none⟩),
    (5, ⟨some 5, .mov (.s 15), none⟩),
    (6, ⟨some 6, .mov (.s 16), none⟩)] [])
  (.seq (.region [(0, ⟨some 17, .mov (.s 0), none⟩),
    (1, ⟨some 18, .call .pure 10 [(.s 17)] [], none⟩),
    (2, ⟨some 19, .mov (.s 0), none⟩),
    (3, ⟨some 20, .call .pure 23 [(.s 19)] [], none⟩),
    (4, ⟨some 21, .eqk .bool false (.s 18) (.s 20), none⟩),
    (5, ⟨some 22, .mov (.s 21), none⟩),
    (6, ⟨some 23, .mov (.s 0), (some (22, true))⟩),
    (7, ⟨some 24, .call .pure 18 [(.s 23)] [], (some (22, true))⟩),
    (8, ⟨some 25, .mov (.s 0), (some (22, true))⟩),
    (9, ⟨some 26, .call .pure 24 [(.s 25)] [], (some (22, true))⟩),
    (10, ⟨some 27, .eqk .bool false (.s 24) (.s 26), (some (22, true))⟩),
    (11, ⟨some 28, .pick (.s 22) (.s 27) (.c (.bool false)), none⟩),
    (12, ⟨some 29, .mov (.s 28), none⟩),
    (13, ⟨some 30, .mov (.s 0), (some (29, true))⟩),
    (14, ⟨some 31, .call .pure 19 [(.s 30)] [], (some (29, true))⟩),
    (15, ⟨some 32, .mov (.s 0), (some (29, true))⟩),
    (16, ⟨some 33, .call .pure 25 [(.s 32)] [], (some (29, true))⟩),
    (17, ⟨some 34, .eqk .bool false (.s 31) (.s 33), (some (29, true))⟩),
    (18, ⟨some 35, .pick (.s 29) (.s 34) (.c (.bool false)), none⟩),
    (19, ⟨some 36, .mov (.s 35), none⟩),
    (20, ⟨some 37, .mov (.s 3), (some (36, true))⟩),
    (21, ⟨some 38, .mov (.s 5), (some (36, true))⟩),
    (22, ⟨some 39, .bin .eql (.s 37) (.s 38), (some (36, true))⟩),
    (23, ⟨some 40, .pick (.s 36) (.s 39) (.c (.bool false)), none⟩),
    (24, ⟨some 41, .mov (.s 40), none⟩),
    (25, ⟨some 42, .mov (.s 4), (some (41, true))⟩),
    (26, ⟨some 43, .mov (.s 6), (some (41, true))⟩),
    (27, ⟨some 44, .eqk .bool false (.s 42) (.s 43), (some (41, true))⟩),
    (28, ⟨some 45, .pick (.s 41) (.s 44) (.c (.bool false)), none⟩),
    (29, ⟨some 2, .mov (.s 45), none⟩)] [])
  (.seq (.ghost (.keep [2])) .ret))))⟩
def c_arbourlaw4_same : AFun := ⟨22, [.slot 2],
  .seq (.region [(0, ⟨some 2, .mov (.c (.bool false)), none⟩)] [])
  (.seq (.region [(0, ⟨some 3, .mov (.s 0), none⟩),
    (1, ⟨some 4, .call .pure 11 [(.s 3)] [], none⟩),
    (2, ⟨some 5, .mov (.s 0), none⟩),
    (3, ⟨some 6, .call .pure 16 [(.s 5)] [], none⟩),
    (4, ⟨some 7, .bin .eql (.s 4) (.s 6), none⟩),
    (5, ⟨some 8, .mov (.s 7), none⟩),
    (6, ⟨some 9, .mov (.s 0), (some (8, true))⟩),
    (7, ⟨some 10, .call .pure 9 [(.s 9)] [], (some (8, true))⟩),
    (8, ⟨some 11, .mov (.s 0), (some (8, true))⟩),
    (9, ⟨some 12, .call .pure 26 [(.s 11)] [], (some (8, true))⟩),
    (10, ⟨some 13, .eqk .bool false (.s 10) (.s 12), (some (8, true))⟩),
    (11, ⟨some 14, .pick (.s 8) (.s 13) (.c (.bool false)), none⟩),
    (12, ⟨some 15, .mov (.s 14), none⟩),
    (13, ⟨some 16, .mov (.s 0), (some (15, true))⟩),
    (14, ⟨some 17, .call .pure 8 [(.s 16)] [], (some (15, true))⟩),
    (15, ⟨some 18, .mov (.s 0), (some (15, true))⟩),
    (16, ⟨some 19, .call .pure 27 [(.s 18)] [], (some (15, true))⟩),
    (17, ⟨some 20, .call .pure 21 [(.s 17), (.s 19)] [], (some (15, true))⟩),
    (18, ⟨some 21, .pick (.s 15) (.s 20) (.c (.bool false)), none⟩),
    (19, ⟨some 2, .mov (.s 21), none⟩)] [])
  (.seq (.ghost (.keep [2])) .ret))⟩
def c_chars_Same : AFun := ⟨10, [.slot 4],
  .seq (.region [(0, ⟨some 4, .mov (.c (.bool false)), none⟩)] [])
  (.seq (.region [(0, ⟨some 5, .mov (.s 0), none⟩),
    (1, ⟨some 6, .call .pure 11 [(.s 5)] [], none⟩),
    (2, ⟨some 7, .mov (.s 1), none⟩),
    (3, ⟨some 8, .call .pure 11 [(.s 7)] [], none⟩),
    (4, ⟨some 9, .bin .eql (.s 6) (.s 8), none⟩),
    (5, ⟨some 4, .mov (.s 9), none⟩)] [])
  (.seq (.ghost (.keep [4])) .ret))⟩
def l_arbourref4_Lower_0 : ACode := .seq (.ghost (.keep [3, 4]))
  (.seq (.seq (.seq (.region [(0, ⟨some 7, .mov (.s 4), none⟩),
    (1, ⟨some 8, .mov (.s 3), none⟩),
    (2, ⟨some 9, .len false (.s 8), none⟩),
    (3, ⟨some 10, .bin .lss (.s 7) (.s 9), none⟩)] [])
  (.cond (.s 10)
  .skip
  (.seq (.ghost (.keep [3])) (.exit 0))))
  (.seq (.block 1 (.seq (.region [(0, ⟨some 13, .mov (.s 3), none⟩),
    (1, ⟨some 14, .mov (.s 4), none⟩),
    (2, ⟨some 15, .iaddr (.s 13) (.s 14) 1 none, none⟩),
    (3, ⟨some 16, .load false 1 (.s 15), none⟩),
    (4, ⟨some 17, .bin .geq (.s 16) (.c (.int .u8 65)), none⟩),
    (5, ⟨some 18, .mov (.s 17), none⟩),
    (6, ⟨some 19, .mov (.s 3), (some (18, true))⟩),
    (7, ⟨some 20, .mov (.s 4), (some (18, true))⟩),
    (8, ⟨some 21, .iaddr (.s 19) (.s 20) 1 none, (some (18, true))⟩),
    (9, ⟨some 22, .load false 1 (.s 21), (some (18, true))⟩),
    (10, ⟨some 23, .bin .leq (.s 22) (.c (.int .u8 90)), (some (18, true))⟩),
    (11, ⟨some 24, .pick (.s 18) (.s 23) (.c (.bool false)), none⟩)] [])
  (.cond (.s 24)
  (.region [(0, ⟨some 25, .mov (.s 3), none⟩),
    (1, ⟨some 26, .mov (.s 4), none⟩),
    (2, ⟨some 27, .mov (.s 3), none⟩),
    (3, ⟨some 28, .mov (.s 4), none⟩),
    (4, ⟨some 29, .iaddr (.s 27) (.s 28) 1 none, none⟩),
    (5, ⟨some 30, .load false 1 (.s 29), none⟩),
    (6, ⟨some 31, .bin .add (.s 30) (.c (.int .u8 32)), none⟩),
    (7, ⟨some 32, .iaddr (.s 25) (.s 26) 1 none, none⟩),
    (8, ⟨none, .store 1 (.s 32) (.s 31), none⟩)] [])
  .skip)))
  (.region [(0, ⟨some 11, .mov (.s 4), none⟩),
    (1, ⟨some 12, .bin .add (.s 11) (.c (.int .i64 1)), none⟩),
    (2, ⟨some 4, .mov (.s 12), none⟩)] [])))
  (.ghost (.keep [3, 4])))
def c_arbourref4_Lower : AFun := ⟨35, [.slot 2],
  .seq (.region [(0, ⟨some 2, .mov (.c (.str [])), none⟩)] [])
  (.seq (.region [(0, ⟨some 5, .mov (.s 0), none⟩),
    (1, ⟨some 6, .conv (.s2b true) (.s 5), none⟩),
    (2, ⟨some 3, .mov (.s 6), none⟩)] [])
  (.seq (.seq (.region [(0, ⟨some 4, .mov (.c (.int .i64 0)), none⟩)] [])
  (.seq (.ghost (.keep [3, 4])) (.block 0 (.loop l_arbourref4_Lower_0))))
  (.seq (.region [(0, ⟨some 33, .mov (.s 3), none⟩),
    (1, ⟨some 34, .conv (.b2s) (.s 33), none⟩),
    (2, ⟨some 2, .mov (.s 34), none⟩)] [])
  (.seq (.ghost (.keep [2])) .ret))))⟩
def c_chars_Hex : AFun := ⟨32, [.slot 2, .slot 3],
  .seq (.region [(0, ⟨some 2, .mov (.c (.int .i64 0)), none⟩),
    (1, ⟨some 3, .mov (.c (.bool false)), none⟩)] [])
  (.seq (.block 0 (.seq (.region [(0, ⟨some 5, .mov (.s 0), none⟩),
    (1, ⟨some 6, .call .pure 19 [(.s 5)] [], none⟩),
    (2, ⟨some 4, .mov (.s 6), none⟩)] [])
  (.cond (.s 4)
  (.seq (.region [(0, ⟨some 7, .mov (.s 0), none⟩),
    (1, ⟨some 8, .bin .sub (.s 7) (.c (.int .i32 48)), none⟩),
    (2, ⟨some 9, .conv (.i2i .i64) (.s 8), none⟩),
    (3, ⟨some 2, .mov (.s 9), none⟩),
    (4, ⟨some 3, .mov (.c (.bool true)), none⟩)] [])
  (.seq (.ghost (.keep [2, 3])) .ret))
  (.seq (.region [(0, ⟨some 11, .mov (.s 0), none⟩),
    (1, ⟨some 12, .bin .geq (.s 11) (.c (.int .i32 97)), none⟩),
    (2, ⟨some 13, .mov (.s 12), none⟩),
    (3, ⟨some 14, .mov (.s 0), (some (13, true))⟩),
    (4, ⟨some 15, .bin .leq (.s 14) (.c (.int .i32 102)), (some (13, true))⟩),
    (5, ⟨some 16, .pick (.s 13) (.s 15) (.c (.bool false)), none⟩),
    (6, ⟨some 10, .mov (.s 16), none⟩)] [])
  (.cond (.s 10)
  (.seq (.region [(0, ⟨some 17, .mov (.s 0), none⟩),
    (1, ⟨some 18, .bin .sub (.s 17) (.c (.int .i32 97)), none⟩),
    (2, ⟨some 19, .conv (.i2i .i64) (.s 18), none⟩),
    (3, ⟨some 20, .bin .add (.s 19) (.c (.int .i64 10)), none⟩),
    (4, ⟨some 2, .mov (.s 20), none⟩),
    (5, ⟨some 3, .mov (.c (.bool true)), none⟩)] [])
  (.seq (.ghost (.keep [2, 3])) .ret))
  (.seq (.region [(0, ⟨some 22, .mov (.s 0), none⟩),
    (1, ⟨some 23, .bin .geq (.s 22) (.c (.int .i32 65)), none⟩),
    (2, ⟨some 24, .mov (.s 23), none⟩),
    (3, ⟨some 25, .mov (.s 0), (some (24, true))⟩),
    (4, ⟨some 26, .bin .leq (.s 25) (.c (.int .i32 70)), (some (24, true))⟩),
    (5, ⟨some 27, .pick (.s 24) (.s 26) (.c (.bool false)), none⟩),
    (6, ⟨some 21, .mov (.s 27), none⟩)] [])
  (.cond (.s 21)
  (.seq (.region [(0, ⟨some 28, .mov (.s 0), none⟩),
    (1, ⟨some 29, .bin .sub (.s 28) (.c (.int .i32 65)), none⟩),
    (2, ⟨some 30, .conv (.i2i .i64) (.s 29), none⟩),
    (3, ⟨some 31, .bin .add (.s 30) (.c (.int .i64 10)), none⟩),
    (4, ⟨some 2, .mov (.s 31), none⟩),
    (5, ⟨some 3, .mov (.c (.bool true)), none⟩)] [])
  (.seq (.ghost (.keep [2, 3])) .ret))
  .skip)))))))
  (.seq (.region [(0, ⟨some 2, .mov (.c (.int .i64 0)), none⟩),
    (1, ⟨some 3, .mov (.c (.bool false)), none⟩)] [])
  (.seq (.ghost (.keep [2, 3])) .ret)))⟩
def c_chars_Letter : AFun := ⟨17, [.slot 2],
  .seq (.region [(0, ⟨some 2, .mov (.c (.bool false)), none⟩)] [])
  (.seq (.region [(0, ⟨some 3, .mov (.s 0), none⟩),
    (1, ⟨some 4, .bin .geq (.s 3) (.c (.int .i32 97)), none⟩),
    (2, ⟨some 5, .mov (.s 4), none⟩),
    (3, ⟨some 6, .mov (.s 0), (some (5, true))⟩),
    (4, ⟨some 7, .bin .leq (.s 6) (.c (.int .i32 122)), (some (5, true))⟩),
    (5, ⟨some 8, .pick (.s 5) (.s 7) (.c (.bool false)), none⟩),
    (6, ⟨some 9, .mov (.s 8), none⟩),
    (7, ⟨some 10, .mov (.s 0), (some (9, false))⟩),
    (8, ⟨some 11, .bin .geq (.s 10) (.c (.int .i32 65)), (some (9, false))⟩),
    (9, ⟨some 12, .mov (.s 11), (some (9, false))⟩),
    (10, ⟨some 13, .mov (.s 0), (some (12, true))⟩),
    (11, ⟨some 14, .bin .leq (.s 13) (.c (.int .i32 90)), (some (12, true))⟩),
    (12, ⟨some 15, .pick (.s 12) (.s 14) (.c (.bool false)), (some (9, false))⟩),
    (13, ⟨some 16, .pick (.s 9) (.c (.bool true)) (.s 15), none⟩),
    (14, ⟨some 2, .mov (.s 16), none⟩)] [])
  (.seq (.ghost (.keep [2])) .ret))⟩
def c_chars_Digit : AFun := ⟨9, [.slot 2],
  .seq (.region [(0, ⟨some 2, .mov (.c (.bool false)), none⟩)] [])
  (.seq (.region [(0, ⟨some 3, .mov (.s 0), none⟩),
    (1, ⟨some 4, .bin .geq (.s 3) (.c (.int .i32 48)), none⟩),
    (2, ⟨some 5, .mov (.s 4), none⟩),
    (3, ⟨some 6, .mov (.s 0), (some (5, true))⟩),
    (4, ⟨some 7, .bin .leq (.s 6) (.c (.int .i32 57)), (some (5, true))⟩),
    (5, ⟨some 8, .pick (.s 5) (.s 7) (.c (.bool false)), none⟩),
    (6, ⟨some 2, .mov (.s 8), none⟩)] [])
  (.seq (.ghost (.keep [2])) .ret))⟩
def l_arbourbook_Same_string_0 : ACode := .seq (.ghost (.keep [0, 1, 5]))
  (.seq (.seq (.seq (.region [(0, ⟨some 11, .mov (.s 5), none⟩),
    (1, ⟨some 12, .mov (.s 0), none⟩),
    (2, ⟨some 13, .len false (.s 12), none⟩),
    (3, ⟨some 14, .bin .lss (.s 11) (.s 13), none⟩)] [])
  (.cond (.s 14)
  .skip
  (.seq (.ghost (.keep [])) (.exit 0))))
  (.seq (.block 1 (.seq (.region [(0, ⟨some 17, .mov (.s 0), none⟩),
    (1, ⟨some 18, .mov (.s 5), none⟩),
    (2, ⟨some 19, .iaddr (.s 17) (.s 18) 1 none, none⟩),
    (4, ⟨some 21, .mov (.s 1), none⟩),
    (5, ⟨some 22, .mov (.s 5), none⟩),
    (6, ⟨some 23, .iaddr (.s 21) (.s 22) 1 none, none⟩),
    (3, ⟨some 20, .load false 1 (.s 19), none⟩),
    (7, ⟨some 24, .load false 1 (.s 23), none⟩),
    (8, ⟨some 25, .bin .neq (.s 20) (.s 24), none⟩)] [])
  (.cond (.s 25)
  (.seq (.region [(0, ⟨some 4, .mov (.c (.bool false)), none⟩)] [])
  (.seq (.ghost (.keep [4])) .ret))
  .skip)))
  (.region [(0, ⟨some 15, .mov (.s 5), none⟩),
    (1, ⟨some 16, .bin .add (.s 15) (.c (.int .i64 1)), none⟩),
    (2, ⟨some 5, .mov (.s 16), none⟩)] [])))
  (.ghost (.keep [0, 1, 5])))
def c_arbourbook_Same_string : AFun := ⟨26, [.slot 4],
  .seq (.ghost (.note 0 0 2 []))
  (.seq (.ghost (.note 0 1 2 []))
  (.seq (.region [(0, ⟨some 4, .mov (.c (.bool false)), none⟩)] [])
  (.seq (.seq (.region [(0, ⟨some 6, .mov (.s 0), none⟩),
    (1, ⟨some 7, .len false (.s 6), none⟩),
    (2, ⟨some 8, .mov (.s 1), none⟩),
    (3, ⟨some 9, .len false (.s 8), none⟩),
    (4, ⟨some 10, .bin .neq (.s 7) (.s 9), none⟩)] [])
  (.cond (.s 10)
  (.seq (.region [(0, ⟨some 4, .mov (.c (.bool false)), none⟩)] [])
  (.seq (.ghost (.keep [4])) .ret))
  .skip))
  (.seq (.seq (.region [(0, ⟨some 5, .mov (.c (.int .i64 0)), none⟩)] [])
  (.seq (.ghost (.keep [0, 1, 5])) (.block 0 (.loop l_arbourbook_Same_string_0))))
  (.seq (.region [(0, ⟨some 4, .mov (.c (.bool true)), none⟩)] [])
  (.seq (.ghost (.keep [4])) .ret))))))⟩
def c_arbourref4_Hex : AFun := ⟨32, [.slot 2, .slot 3],
  .seq (.region [(0, ⟨some 2, .mov (.c (.int .i64 0)), none⟩),
    (1, ⟨some 3, .mov (.c (.bool false)), none⟩)] [])
  (.seq (.block 0 (.seq (.region [(0, ⟨some 5, .mov (.s 0), none⟩),
    (1, ⟨some 6, .call .pure 25 [(.s 5)] [], none⟩),
    (2, ⟨some 4, .mov (.s 6), none⟩)] [])
  (.cond (.s 4)
  (.seq (.region [(0, ⟨some 7, .mov (.s 0), none⟩),
    (1, ⟨some 8, .bin .sub (.s 7) (.c (.int .i32 48)), none⟩),
    (2, ⟨some 9, .conv (.i2i .i64) (.s 8), none⟩),
    (3, ⟨some 2, .mov (.s 9), none⟩),
    (4, ⟨some 3, .mov (.c (.bool true)), none⟩)] [])
  (.seq (.ghost (.keep [2, 3])) .ret))
  (.seq (.region [(0, ⟨some 11, .mov (.s 0), none⟩),
    (1, ⟨some 12, .bin .geq (.s 11) (.c (.int .i32 97)), none⟩),
    (2, ⟨some 13, .mov (.s 12), none⟩),
    (3, ⟨some 14, .mov (.s 0), (some (13, true))⟩),
    (4, ⟨some 15, .bin .leq (.s 14) (.c (.int .i32 102)), (some (13, true))⟩),
    (5, ⟨some 16, .pick (.s 13) (.s 15) (.c (.bool false)), none⟩),
    (6, ⟨some 10, .mov (.s 16), none⟩)] [])
  (.cond (.s 10)
  (.seq (.region [(0, ⟨some 17, .mov (.s 0), none⟩),
    (1, ⟨some 18, .bin .sub (.s 17) (.c (.int .i32 97)), none⟩),
    (2, ⟨some 19, .conv (.i2i .i64) (.s 18), none⟩),
    (3, ⟨some 20, .bin .add (.s 19) (.c (.int .i64 10)), none⟩),
    (4, ⟨some 2, .mov (.s 20), none⟩),
    (5, ⟨some 3, .mov (.c (.bool true)), none⟩)] [])
  (.seq (.ghost (.keep [2, 3])) .ret))
  (.seq (.region [(0, ⟨some 22, .mov (.s 0), none⟩),
    (1, ⟨some 23, .bin .geq (.s 22) (.c (.int .i32 65)), none⟩),
    (2, ⟨some 24, .mov (.s 23), none⟩),
    (3, ⟨some 25, .mov (.s 0), (some (24, true))⟩),
    (4, ⟨some 26, .bin .leq (.s 25) (.c (.int .i32 70)), (some (24, true))⟩),
    (5, ⟨some 27, .pick (.s 24) (.s 26) (.c (.bool false)), none⟩),
    (6, ⟨some 21, .mov (.s 27), none⟩)] [])
  (.cond (.s 21)
  (.seq (.region [(0, ⟨some 28, .mov (.s 0), none⟩),
    (1, ⟨some 29, .bin .sub (.s 28) (.c (.int .i32 65)), none⟩),
    (2, ⟨some 30, .conv (.i2i .i64) (.s 29), none⟩),
    (3, ⟨some 31, .bin .add (.s 30) (.c (.int .i64 10)), none⟩),
    (4, ⟨some 2, .mov (.s 31), none⟩),
    (5, ⟨some 3, .mov (.c (.bool true)), none⟩)] [])
  (.seq (.ghost (.keep [2, 3])) .ret))
  .skip)))))))
  (.seq (.region [(0, ⟨some 2, .mov (.c (.int .i64 0)), none⟩),
    (1, ⟨some 3, .mov (.c (.bool false)), none⟩)] [])
  (.seq (.ghost (.keep [2, 3])) .ret)))⟩
def c_arbourref4_Space : AFun := ⟨21, [.slot 2],
  .seq (.region [(0, ⟨some 2, .mov (.c (.bool false)), none⟩)] [])
  (.seq (.region [(0, ⟨some 3, .mov (.s 0), none⟩),
    (1, ⟨some 4, .bin .eql (.s 3) (.c (.int .i32 9)), none⟩),
    (2, ⟨some 5, .mov (.s 4), none⟩),
    (3, ⟨some 6, .mov (.s 0), (some (5, false))⟩),
    (4, ⟨some 7, .bin .eql (.s 6) (.c (.int .i32 10)), (some (5, false))⟩),
    (5, ⟨some 8, .pick (.s 5) (.c (.bool true)) (.s 7), none⟩),
    (6, ⟨some 9, .mov (.s 8), none⟩),
    (7, ⟨some 10, .mov (.s 0), (some (9, false))⟩),
    (8, ⟨some 11, .bin .eql (.s 10) (.c (.int .i32 12)), (some (9, false))⟩),
    (9, ⟨some 12, .pick (.s 9) (.c (.bool true)) (.s 11), none⟩),
    (10, ⟨some 13, .mov (.s 12), none⟩),
    (11, ⟨some 14, .mov (.s 0), (some (13, false))⟩),
    (12, ⟨some 15, .bin .eql (.s 14) (.c (.int .i32 13)), (some (13, false))⟩),
    (13, ⟨some 16, .pick (.s 13) (.c (.bool true)) (.s 15), none⟩),
    (14, ⟨some 17, .mov (.s 16), none⟩),
    (15, ⟨some 18, .mov (.s 0), (some (17, false))⟩),
    (16, ⟨some 19, .bin .eql (.s 18) (.c (.int .i32 32)), (some (17, false))⟩),
    (17, ⟨some 20, .pick (.s 17) (.c (.bool true)) (.s 19), none⟩),
    (18, ⟨some 2, .mov (.s 20), none⟩)] [])
  (.seq (.ghost (.keep [2])) .ret))⟩
def c_arbourref4_Letter : AFun := ⟨17, [.slot 2],
  .seq (.region [(0, ⟨some 2, .mov (.c (.bool false)), none⟩)] [])
  (.seq (.region [(0, ⟨some 3, .mov (.s 0), none⟩),
    (1, ⟨some 4, .bin .geq (.s 3) (.c (.int .i32 97)), none⟩),
    (2, ⟨some 5, .mov (.s 4), none⟩),
    (3, ⟨some 6, .mov (.s 0), (some (5, true))⟩),
    (4, ⟨some 7, .bin .leq (.s 6) (.c (.int .i32 122)), (some (5, true))⟩),
    (5, ⟨some 8, .pick (.s 5) (.s 7) (.c (.bool false)), none⟩),
    (6, ⟨some 9, .mov (.s 8), none⟩),
    (7, ⟨some 10, .mov (.s 0), (some (9, false))⟩),
    (8, ⟨some 11, .bin .geq (.s 10) (.c (.int .i32 65)), (some (9, false))⟩),
    (9, ⟨some 12, .mov (.s 11), (some (9, false))⟩),
    (10, ⟨some 13, .mov (.s 0), (some (12, true))⟩),
    (11, ⟨some 14, .bin .leq (.s 13) (.c (.int .i32 90)), (some (12, true))⟩),
    (12, ⟨some 15, .pick (.s 12) (.s 14) (.c (.bool false)), (some (9, false))⟩),
    (13, ⟨some 16, .pick (.s 9) (.c (.bool true)) (.s 15), none⟩),
    (14, ⟨some 2, .mov (.s 16), none⟩)] [])
  (.seq (.ghost (.keep [2])) .ret))⟩
def c_arbourref4_Digit : AFun := ⟨9, [.slot 2],
  .seq (.region [(0, ⟨some 2, .mov (.c (.bool false)), none⟩)] [])
  (.seq (.region [(0, ⟨some 3, .mov (.s 0), none⟩),
    (1, ⟨some 4, .bin .geq (.s 3) (.c (.int .i32 48)), none⟩),
    (2, ⟨some 5, .mov (.s 4), none⟩),
    (3, ⟨some 6, .mov (.s 0), (some (5, true))⟩),
    (4, ⟨some 7, .bin .leq (.s 6) (.c (.int .i32 57)), (some (5, true))⟩),
    (5, ⟨some 8, .pick (.s 5) (.s 7) (.c (.bool false)), none⟩),
    (6, ⟨some 2, .mov (.s 8), none⟩)] [])
  (.seq (.ghost (.keep [2])) .ret))⟩
def l_arbourref4_Spaces_0 : ACode := .seq (.ghost (.keep [0, 3]))
  (.seq (.seq (.seq (.region [(0, ⟨some 4, .mov (.s 3), none⟩),
    (1, ⟨some 5, .mov (.s 0), none⟩),
    (2, ⟨some 6, .len true (.s 5), none⟩),
    (3, ⟨some 7, .bin .lss (.s 4) (.s 6), none⟩)] [])
  (.cond (.s 7)
  .skip
  (.seq (.ghost (.keep [])) (.exit 0))))
  (.seq (.block 1 (.seq (.region [(0, ⟨some 10, .mov (.s 0), none⟩),
    (1, ⟨some 11, .mov (.s 3), none⟩),
    (2, ⟨some 12, .index (.s 10) (.s 11) none, none⟩),
    (3, ⟨some 13, .conv (.i2i .i32) (.s 12), none⟩),
    (4, ⟨some 14, .call .pure 23 [(.s 13)] [], none⟩),
    (5, ⟨some 15, .un .not (.s 14), none⟩)] [])
  (.cond (.s 15)
  (.seq (.region [(0, ⟨some 2, .mov (.c (.bool false)), none⟩)] [])
  (.seq (.ghost (.keep [2])) .ret))
  .skip)))
  (.region [(0, ⟨some 8, .mov (.s 3), none⟩),
    (1, ⟨some 9, .bin .add (.s 8) (.c (.int .i64 1)), none⟩),
    (2, ⟨some 3, .mov (.s 9), none⟩)] [])))
  (.ghost (.keep [0, 3])))
def c_arbourref4_Spaces : AFun := ⟨16, [.slot 2],
  .seq (.region [(0, ⟨some 2, .mov (.c (.bool false)), none⟩)] [])
  (.seq (.seq (.region [(0, ⟨some 3, .mov (.c (.int .i64 0)), none⟩)] [])
  (.seq (.ghost (.keep [0, 3])) (.block 0 (.loop l_arbourref4_Spaces_0))))
  (.seq (.region [(0, ⟨some 2, .mov (.c (.bool true)), none⟩)] [])
  (.seq (.ghost (.keep [2])) .ret)))⟩
def l_arbourref4_Split_0 : ACode := .seq (.ghost (.keep [0, 3, 4, 5]))
  (.seq (.seq (.seq (.region [(0, ⟨some 6, .mov (.s 5), none⟩),
    (1, ⟨some 7, .mov (.s 0), none⟩),
    (2, ⟨some 8, .len true (.s 7), none⟩),
    (3, ⟨some 9, .bin .leq (.s 6) (.s 8), none⟩)] [])
  (.cond (.s 9)
  .skip
  (.seq (.ghost (.keep [3])) (.exit 0))))
  (.seq (.block 1 (.seq (.region [(0, ⟨some 12, .mov (.s 5), none⟩),
    (1, ⟨some 13, .mov (.s 0), none⟩),
    (2, ⟨some 14, .len true (.s 13), none⟩),
    (3, ⟨some 15, .bin .eql (.s 12) (.s 14), none⟩),
    (4, ⟨some 16, .mov (.s 15), none⟩),
    (5, ⟨some 17, .mov (.s 0), (some (16, false))⟩),
    (6, ⟨some 18, .mov (.s 5), (some (16, false))⟩),
    (7, ⟨some 19, .index (.s 17) (.s 18) none, (some (16, false))⟩),
    (8, ⟨some 20, .conv (.i2i .i32) (.s 19), (some (16, false))⟩),
    (9, ⟨some 21, .call .pure 23 [(.s 20)] [], (some (16, false))⟩),
    (10, ⟨some 22, .mov (.s 0), (some (16, false))⟩),
    (11, ⟨some 23, .mov (.s 5), (some (16, false))⟩),
    (12, ⟨some 24, .bin .sub (.s 23) (.c (.int .i64 1)), (some (16, false))⟩),
    (13, ⟨some 25, .index (.s 22) (.s 24) none, (some (16, false))⟩),
    (14, ⟨some 26, .conv (.i2i .i32) (.s 25), (some (16, false))⟩),
    (15, ⟨some 27, .call .pure 23 [(.s 26)] [], (some (16, false))⟩),
    (16, ⟨some 28, .eqk .bool true (.s 21) (.s 27), (some (16, false))⟩),
    (17, ⟨some 29, .pick (.s 16) (.c (.bool true)) (.s 28), none⟩)] [])
  (.cond (.s 29)
  (.seq (.region [(0, ⟨some 30, .mov (.s 3), none⟩),
    (1, ⟨some 31, .mov (.s 0), none⟩),
    (2, ⟨some 32, .mov (.s 4), none⟩),
    (3, ⟨some 33, .mov (.s 5), none⟩),
    (4, ⟨some 34, .slice (.s 31) 0 (some (.s 32)) (some (.s 33)) none, none⟩),
    (5, ⟨some 35, .lit false 1 [.str []] 1 [(0, (.s 34))], none⟩),
    (6, ⟨some 36, .append true 1 1000000 (.s 30) (.s 35), none⟩),
    (7, ⟨some 3, .mov (.s 36), none⟩)] [])
  (.region [(0, ⟨some 37, .mov (.s 5), none⟩),
    (1, ⟨some 4, .mov (.s 37), none⟩)] []))
  .skip)))
  (.region [(0, ⟨some 10, .mov (.s 5), none⟩),
    (1, ⟨some 11, .bin .add (.s 10) (.c (.int .i64 1)), none⟩),
    (2, ⟨some 5, .mov (.s 11), none⟩)] [])))
  (.ghost (.keep [0, 3, 4, 5])))
def c_arbourref4_Split : AFun := ⟨39, [.slot 2],
  .seq (.region [(0, ⟨some 2, .mov (.c (.vs true [])), none⟩)] [])
  (.seq (.seq (.region [(0, ⟨some 3, .mov (.c (.vs true [])), none⟩)] []) (.ghost (.note 1 3 2 [])))
  (.seq (.region [(0, ⟨some 4, .mov (.c (.int .i64 0)), none⟩)] [])
  (.seq (.seq (.region [(0, ⟨some 5, .mov (.c (.int .i64 1)), none⟩)] [])
  (.seq (.ghost (.keep [0, 3, 4, 5])) (.block 0 (.loop l_arbourref4_Split_0))))
  (.seq (.region [(0, ⟨some 38, .mov (.s 3), none⟩),
    (1, ⟨some 2, .mov (.s 38), none⟩)] [])
  (.seq (.ghost (.frz 2)) (.seq (.ghost (.keep [2])) .ret))))))⟩
end Go.Am
