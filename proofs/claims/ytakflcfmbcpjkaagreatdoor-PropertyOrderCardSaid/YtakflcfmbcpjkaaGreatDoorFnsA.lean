/- A part of the proof: SxTw. No condition. -/
import Derived.Test.YtakflcfmbcpjkaaGreatDoorMLogic
set_option linter.unusedSimpArgs false
set_option linter.unusedVariables false
set_option linter.unusedSectionVars false
namespace Tw
open Go.Sx
/- refuter/refuterlaw22.PropertyOrder -/
def f3r0 : List POper := [⟨(some k12), (.mov (.v (.bool false))), none⟩]
def f3r1 : List POper := [⟨(some k13), (.mov (.v .nils)), none⟩]
def f3r2 : List POper := [⟨(some k22), (.mov (.t k0)), none⟩,
  ⟨(some k23), (.mov (.t k1)), none⟩,
  ⟨(some k24), (.mov (.t k2)), none⟩,
  ⟨(some k25), (.bslice 1 6 [(.int .i64 (.lit 0))] [(0, 1, (.t k22)), (1, 1, (.t k23)), (2, 1, (.t k24)), (3, 1, (.v (.int .i64 (.lit 1)))), (4, 1, (.v (.int .i64 (.lit 2)))), (5, 1, (.v (.int .i64 (.lit 0))))]), none⟩,
  ⟨(some k14), (.mov (.t k25)), none⟩]
def f3r3 : List POper := [⟨(some k15), (.mov (.v (.int .i64 (.lit 0)))), none⟩]
def f3r4 : List POper := [⟨(some k26), (.mov (.t k15)), none⟩,
  ⟨(some k27), (.bin .lss (.t k26) (.v (.int .i64 (.lit 6)))), none⟩]
def f3r5 : List SItem := [.L 0 ⟨(some k30), (.mov (.t k13)), none⟩,
  .L 1 ⟨(some k31), (.mov (.t k14)), none⟩,
  .L 2 ⟨(some k32), (.mov (.t k15)), none⟩,
  .L 3 ⟨(some k33), (.indexL 1 (.t k31) (.t k32)), none⟩,
  .L 4 ⟨(some k34), (.load false 1 (.t k33)), none⟩,
  .L 5 ⟨(some k35), (.mov (.t k3)), none⟩,
  .L 6 ⟨(some k36), (.mov (.t k4)), none⟩,
  .L 7 ⟨(some k37), (.mov (.t k3)), none⟩,
  .A 8 ⟨(some k38), (.bslice 1 3 [(.int .i64 (.lit 0))] [(0, 1, (.t k35)), (1, 1, (.t k36)), (2, 1, (.t k37))]), none⟩,
  .L 9 ⟨(some k39), (.mov (.t k15)), none⟩,
  .L 10 ⟨(some k40), (.bin .rem (.t k39) (.v (.int .i64 (.lit 3)))), none⟩,
  .L 11 ⟨(some k41), (.indexL 1 (.t k38) (.t k40)), none⟩,
  .L 12 ⟨(some k42), (.load false 1 (.t k41)), none⟩,
  .L 13 ⟨(some k43), (.mov (.t k5)), none⟩,
  .L 14 ⟨(some k44), (.mov (.t k5)), none⟩,
  .L 15 ⟨(some k45), (.mov (.t k3)), none⟩,
  .A 16 ⟨(some k46), (.bslice 1 3 [(.int .i64 (.lit 0))] [(0, 1, (.t k43)), (1, 1, (.t k44)), (2, 1, (.t k45))]), none⟩,
  .L 17 ⟨(some k47), (.mov (.t k15)), none⟩,
  .L 18 ⟨(some k48), (.bin .rem (.t k47) (.v (.int .i64 (.lit 3)))), none⟩,
  .L 19 ⟨(some k49), (.indexL 1 (.t k46) (.t k48)), none⟩,
  .L 20 ⟨(some k50), (.load false 1 (.t k49)), none⟩,
  .L 21 ⟨(some k51), (.build [(.int .i64 (.lit 0)), (.int .i64 (.lit 0)), (.int .i64 (.lit 0))] [(0, 1, (.t k34)), (1, 1, (.t k42)), (2, 1, (.t k50))]), none⟩,
  .A 22 ⟨(some k52), (.bslice 3 1 [(.int .i64 (.lit 0)), (.int .i64 (.lit 0)), (.int .i64 (.lit 0))] [(0, 3, (.t k51))]), none⟩,
  .H 23 ⟨(some k53), (.append 3 (.t k30) (.t k52)), none⟩ [8, 16, 22],
  .R [],
  .L 24 ⟨(some k13), (.mov (.t k53)), none⟩]
def f3r6 : List POper := [⟨(some k28), (.mov (.t k15)), none⟩,
  ⟨(some k29), (.bin .add (.t k28) (.v (.int .i64 (.lit 1)))), none⟩,
  ⟨(some k15), (.mov (.t k29)), none⟩]
def f3l0 : PCode := (.seq (.seq (.ops f3r4)
 (.cond (.t k27)
 .skip
 (.exit 0)))
 (.seq (.block 1 (.staged f3r5 ⟨[k30, k31, k32, k33, k34, k35, k36, k37, k38, k39, k40, k41, k42, k43, k44, k45, k46, k47, k48, k49, k50, k51, k52, k53, k13], [(12, [8]), (20, [16])]⟩))
 (.ops f3r6)))
def f3r7 : List POper := [⟨(some k16), (.mov (.v (.int .i64 (.lit 0)))), none⟩]
def f3r8 : List POper := [⟨(some k54), (.mov (.t k16)), none⟩,
  ⟨(some k55), (.bin .lss (.t k54) (.v (.int .i64 (.lit 6)))), none⟩]
def f3r9 : List POper := [⟨(some k58), (.mov (.t k13)), none⟩,
  ⟨(some k59), (.mov (.t k16)), none⟩,
  ⟨(some k60), (.indexL 3 (.t k58) (.t k59)), none⟩,
  ⟨(some k61), (.fieldA 0 (.t k60)), none⟩,
  ⟨(some k62), (.load false 1 (.t k61)), none⟩,
  ⟨(some k63), (.bin .eql (.t k62) (.v (.int .i64 (.lit 1)))), none⟩,
  ⟨(some k64), (.mov (.t k63)), none⟩,
  ⟨(some k65), (.mov (.t k13)), (some (k64, false))⟩,
  ⟨(some k66), (.mov (.t k16)), (some (k64, false))⟩,
  ⟨(some k67), (.indexL 3 (.t k65) (.t k66)), (some (k64, false))⟩,
  ⟨(some k68), (.fieldA 0 (.t k67)), (some (k64, false))⟩,
  ⟨(some k69), (.load false 1 (.t k68)), (some (k64, false))⟩,
  ⟨(some k70), (.bin .eql (.t k69) (.v (.int .i64 (.lit 2)))), (some (k64, false))⟩,
  ⟨(some k71), (.pick (.t k64) (.v (.bool true)) (.t k70)), none⟩,
  ⟨(some k17), (.mov (.t k71)), none⟩]
def f3r10 : List SItem := [.L 0 ⟨(some k72), (.mov (.t k13)), none⟩,
  .L 1 ⟨(some k73), (.mov (.t k16)), none⟩,
  .L 2 ⟨(some k74), (.indexL 3 (.t k72) (.t k73)), none⟩,
  .L 3 ⟨(some k75), (.load true 3 (.t k74)), none⟩,
  .L 5 ⟨(some k77), (.mov (.t k17)), none⟩,
  .H 4 ⟨(some k76), (.callF 4 [(.t k75)]), none⟩ [],
  .R [],
  .L 6 ⟨(some k78), (.eq true .bool (.t k76) (.t k77)), none⟩,
  .L 7 ⟨(some k79), (.mov (.t k78)), none⟩,
  .L 8 ⟨(some k80), (.mov (.t k13)), (some (k79, false))⟩,
  .L 9 ⟨(some k81), (.mov (.t k16)), (some (k79, false))⟩,
  .L 10 ⟨(some k82), (.indexL 3 (.t k80) (.t k81)), (some (k79, false))⟩,
  .L 11 ⟨(some k83), (.load true 3 (.t k82)), (some (k79, false))⟩,
  .L 12 ⟨(some k84), (.mov (.t k13)), (some (k79, false))⟩,
  .L 13 ⟨(some k85), (.mov (.t k16)), (some (k79, false))⟩,
  .L 14 ⟨(some k86), (.indexL 3 (.t k84) (.t k85)), (some (k79, false))⟩,
  .L 15 ⟨(some k87), (.load true 3 (.t k86)), (some (k79, false))⟩,
  .H 16 ⟨(some k88), (.callF 5 [(.t k83), (.t k87)]), (some (k79, false))⟩ [],
  .R [],
  .L 17 ⟨(some k89), (.pick (.t k79) (.v (.bool true)) (.t k88)), none⟩]
def f3r11 : List POper := [⟨(some k12), (.mov (.v (.bool false))), none⟩]
def f3r12 : List POper := [⟨(some k18), (.mov (.v (.int .i64 (.lit 0)))), none⟩]
def f3r13 : List POper := [⟨(some k90), (.mov (.t k18)), none⟩,
  ⟨(some k91), (.bin .lss (.t k90) (.v (.int .i64 (.lit 6)))), none⟩]
def f3r14 : List SItem := [.L 0 ⟨(some k94), (.mov (.t k13)), none⟩,
  .L 1 ⟨(some k95), (.mov (.t k16)), none⟩,
  .L 2 ⟨(some k96), (.indexL 3 (.t k94) (.t k95)), none⟩,
  .L 3 ⟨(some k97), (.load true 3 (.t k96)), none⟩,
  .L 4 ⟨(some k98), (.mov (.t k13)), none⟩,
  .L 5 ⟨(some k99), (.mov (.t k18)), none⟩,
  .L 6 ⟨(some k100), (.indexL 3 (.t k98) (.t k99)), none⟩,
  .L 7 ⟨(some k101), (.load true 3 (.t k100)), none⟩,
  .H 8 ⟨(some k102), (.callF 5 [(.t k97), (.t k101)]), none⟩ [],
  .R [],
  .L 9 ⟨(some k19), (.mov (.t k102)), none⟩]
def f3r15 : List SItem := [.L 0 ⟨(some k103), (.mov (.t k19)), none⟩,
  .L 1 ⟨(some k104), (.mov (.t k13)), none⟩,
  .L 2 ⟨(some k105), (.mov (.t k16)), none⟩,
  .L 3 ⟨(some k106), (.indexL 3 (.t k104) (.t k105)), none⟩,
  .L 4 ⟨(some k107), (.load true 3 (.t k106)), none⟩,
  .L 5 ⟨(some k108), (.mov (.t k13)), none⟩,
  .L 6 ⟨(some k109), (.mov (.t k18)), none⟩,
  .L 7 ⟨(some k110), (.indexL 3 (.t k108) (.t k109)), none⟩,
  .L 8 ⟨(some k111), (.load true 3 (.t k110)), none⟩,
  .H 9 ⟨(some k112), (.callF 6 [(.t k107), (.t k111)]), none⟩ [],
  .R [],
  .L 10 ⟨(some k113), (.eq true .bool (.t k103) (.t k112)), none⟩,
  .L 11 ⟨(some k114), (.mov (.t k113)), none⟩,
  .L 12 ⟨(some k115), (.mov (.t k13)), (some (k114, false))⟩,
  .L 13 ⟨(some k116), (.mov (.t k16)), (some (k114, false))⟩,
  .L 14 ⟨(some k117), (.indexL 3 (.t k115) (.t k116)), (some (k114, false))⟩,
  .L 15 ⟨(some k118), (.load true 3 (.t k117)), (some (k114, false))⟩,
  .L 16 ⟨(some k119), (.mov (.t k13)), (some (k114, false))⟩,
  .L 17 ⟨(some k120), (.mov (.t k18)), (some (k114, false))⟩,
  .L 18 ⟨(some k121), (.indexL 3 (.t k119) (.t k120)), (some (k114, false))⟩,
  .L 19 ⟨(some k122), (.load true 3 (.t k121)), (some (k114, false))⟩,
  .L 21 ⟨(some k124), (.mov (.t k17)), (some (k114, false))⟩,
  .H 20 ⟨(some k123), (.callF 7 [(.t k118), (.t k122)]), (some (k114, false))⟩ [],
  .R [],
  .L 22 ⟨(some k125), (.mov (.t k124)), (some (k114, false))⟩,
  .L 23 ⟨(some k126), (.mov (.t k13)), (some (k125, true))⟩,
  .L 24 ⟨(some k127), (.mov (.t k16)), (some (k125, true))⟩,
  .L 25 ⟨(some k128), (.indexL 3 (.t k126) (.t k127)), (some (k125, true))⟩,
  .L 26 ⟨(some k129), (.load true 3 (.t k128)), (some (k125, true))⟩,
  .L 27 ⟨(some k130), (.mov (.t k13)), (some (k125, true))⟩,
  .L 28 ⟨(some k131), (.mov (.t k18)), (some (k125, true))⟩,
  .L 29 ⟨(some k132), (.indexL 3 (.t k130) (.t k131)), (some (k125, true))⟩,
  .L 30 ⟨(some k133), (.load true 3 (.t k132)), (some (k125, true))⟩,
  .L 31 ⟨(some k134), (.eq false (.parts [(0, .int), (1, .int), (2, .int)]) (.t k129) (.t k133)), (some (k125, true))⟩,
  .L 32 ⟨(some k135), (.pick (.t k125) (.t k134) (.v (.bool false))), (some (k114, false))⟩,
  .L 33 ⟨(some k136), (.eq true .bool (.t k123) (.t k135)), (some (k114, false))⟩,
  .L 34 ⟨(some k137), (.pick (.t k114) (.v (.bool true)) (.t k136)), none⟩]
def f3r16 : List POper := [⟨(some k12), (.mov (.v (.bool false))), none⟩]
def f3r17 : List POper := [⟨(some k138), (.mov (.t k13)), none⟩,
  ⟨(some k139), (.mov (.t k16)), none⟩,
  ⟨(some k140), (.indexL 3 (.t k138) (.t k139)), none⟩,
  ⟨(some k141), (.fieldA 0 (.t k140)), none⟩,
  ⟨(some k142), (.load false 1 (.t k141)), none⟩,
  ⟨(some k143), (.bin .geq (.t k142) (.v (.int .i64 (.lit 0)))), none⟩,
  ⟨(some k144), (.mov (.t k143)), none⟩,
  ⟨(some k145), (.mov (.t k13)), (some (k144, true))⟩,
  ⟨(some k146), (.mov (.t k16)), (some (k144, true))⟩,
  ⟨(some k147), (.indexL 3 (.t k145) (.t k146)), (some (k144, true))⟩,
  ⟨(some k148), (.fieldA 0 (.t k147)), (some (k144, true))⟩,
  ⟨(some k149), (.load false 1 (.t k148)), (some (k144, true))⟩,
  ⟨(some k150), (.bin .lss (.t k149) (.v (.int .i64 (.lit 3)))), (some (k144, true))⟩,
  ⟨(some k151), (.pick (.t k144) (.t k150) (.v (.bool false))), none⟩,
  ⟨(some k152), (.mov (.t k151)), none⟩,
  ⟨(some k153), (.mov (.t k13)), (some (k152, true))⟩,
  ⟨(some k154), (.mov (.t k18)), (some (k152, true))⟩,
  ⟨(some k155), (.indexL 3 (.t k153) (.t k154)), (some (k152, true))⟩,
  ⟨(some k156), (.fieldA 0 (.t k155)), (some (k152, true))⟩,
  ⟨(some k157), (.load false 1 (.t k156)), (some (k152, true))⟩,
  ⟨(some k158), (.bin .geq (.t k157) (.v (.int .i64 (.lit 0)))), (some (k152, true))⟩,
  ⟨(some k159), (.pick (.t k152) (.t k158) (.v (.bool false))), none⟩,
  ⟨(some k160), (.mov (.t k159)), none⟩,
  ⟨(some k161), (.mov (.t k13)), (some (k160, true))⟩,
  ⟨(some k162), (.mov (.t k18)), (some (k160, true))⟩,
  ⟨(some k163), (.indexL 3 (.t k161) (.t k162)), (some (k160, true))⟩,
  ⟨(some k164), (.fieldA 0 (.t k163)), (some (k160, true))⟩,
  ⟨(some k165), (.load false 1 (.t k164)), (some (k160, true))⟩,
  ⟨(some k166), (.bin .lss (.t k165) (.v (.int .i64 (.lit 3)))), (some (k160, true))⟩,
  ⟨(some k167), (.pick (.t k160) (.t k166) (.v (.bool false))), none⟩,
  ⟨(some k20), (.mov (.t k167)), none⟩]
def f3r18 : List SItem := [.L 0 ⟨(some k168), (.mov (.t k20)), none⟩,
  .L 1 ⟨(some k169), (.mov (.t k168)), none⟩,
  .L 2 ⟨(some k170), (.mov (.t k13)), (some (k169, true))⟩,
  .L 3 ⟨(some k171), (.mov (.t k16)), (some (k169, true))⟩,
  .L 4 ⟨(some k172), (.indexL 3 (.t k170) (.t k171)), (some (k169, true))⟩,
  .L 5 ⟨(some k173), (.load true 3 (.t k172)), (some (k169, true))⟩,
  .L 6 ⟨(some k174), (.mov (.t k13)), (some (k169, true))⟩,
  .L 7 ⟨(some k175), (.mov (.t k18)), (some (k169, true))⟩,
  .L 8 ⟨(some k176), (.indexL 3 (.t k174) (.t k175)), (some (k169, true))⟩,
  .L 9 ⟨(some k177), (.load true 3 (.t k176)), (some (k169, true))⟩,
  .L 10 ⟨(some k178), (.eq true (.parts [(0, .int), (1, .int), (2, .int)]) (.t k173) (.t k177)), (some (k169, true))⟩,
  .L 11 ⟨(some k179), (.pick (.t k169) (.t k178) (.v (.bool false))), none⟩,
  .L 12 ⟨(some k180), (.mov (.t k179)), none⟩,
  .L 13 ⟨(some k181), (.mov (.t k19)), (some (k180, true))⟩,
  .L 14 ⟨(some k182), (.mov (.t k13)), (some (k180, true))⟩,
  .L 15 ⟨(some k183), (.mov (.t k18)), (some (k180, true))⟩,
  .L 16 ⟨(some k184), (.indexL 3 (.t k182) (.t k183)), (some (k180, true))⟩,
  .L 17 ⟨(some k185), (.load true 3 (.t k184)), (some (k180, true))⟩,
  .L 18 ⟨(some k186), (.mov (.t k13)), (some (k180, true))⟩,
  .L 19 ⟨(some k187), (.mov (.t k16)), (some (k180, true))⟩,
  .L 20 ⟨(some k188), (.indexL 3 (.t k186) (.t k187)), (some (k180, true))⟩,
  .L 21 ⟨(some k189), (.load true 3 (.t k188)), (some (k180, true))⟩,
  .H 22 ⟨(some k190), (.callF 5 [(.t k185), (.t k189)]), (some (k180, true))⟩ [],
  .R [],
  .L 23 ⟨(some k191), (.eq false .bool (.t k181) (.t k190)), (some (k180, true))⟩,
  .L 24 ⟨(some k192), (.pick (.t k180) (.t k191) (.v (.bool false))), none⟩]
def f3r19 : List POper := [⟨(some k12), (.mov (.v (.bool false))), none⟩]
def f3r20 : List POper := [⟨(some k21), (.mov (.v (.int .i64 (.lit 0)))), none⟩]
def f3r21 : List POper := [⟨(some k193), (.mov (.t k21)), none⟩,
  ⟨(some k194), (.bin .lss (.t k193) (.v (.int .i64 (.lit 6)))), none⟩]
def f3r22 : List SItem := [.L 0 ⟨(some k197), (.mov (.t k19)), none⟩,
  .L 1 ⟨(some k198), (.mov (.t k197)), none⟩,
  .L 2 ⟨(some k199), (.mov (.t k13)), (some (k198, true))⟩,
  .L 3 ⟨(some k200), (.mov (.t k18)), (some (k198, true))⟩,
  .L 4 ⟨(some k201), (.indexL 3 (.t k199) (.t k200)), (some (k198, true))⟩,
  .L 5 ⟨(some k202), (.load true 3 (.t k201)), (some (k198, true))⟩,
  .L 6 ⟨(some k203), (.mov (.t k13)), (some (k198, true))⟩,
  .L 7 ⟨(some k204), (.mov (.t k21)), (some (k198, true))⟩,
  .L 8 ⟨(some k205), (.indexL 3 (.t k203) (.t k204)), (some (k198, true))⟩,
  .L 9 ⟨(some k206), (.load true 3 (.t k205)), (some (k198, true))⟩,
  .H 10 ⟨(some k207), (.callF 5 [(.t k202), (.t k206)]), (some (k198, true))⟩ [],
  .R [],
  .L 11 ⟨(some k208), (.pick (.t k198) (.t k207) (.v (.bool false))), none⟩,
  .L 12 ⟨(some k209), (.mov (.t k208)), none⟩,
  .L 13 ⟨(some k210), (.mov (.t k13)), (some (k209, true))⟩,
  .L 14 ⟨(some k211), (.mov (.t k16)), (some (k209, true))⟩,
  .L 15 ⟨(some k212), (.indexL 3 (.t k210) (.t k211)), (some (k209, true))⟩,
  .L 16 ⟨(some k213), (.load true 3 (.t k212)), (some (k209, true))⟩,
  .L 17 ⟨(some k214), (.mov (.t k13)), (some (k209, true))⟩,
  .L 18 ⟨(some k215), (.mov (.t k21)), (some (k209, true))⟩,
  .L 19 ⟨(some k216), (.indexL 3 (.t k214) (.t k215)), (some (k209, true))⟩,
  .L 20 ⟨(some k217), (.load true 3 (.t k216)), (some (k209, true))⟩,
  .H 21 ⟨(some k218), (.callF 5 [(.t k213), (.t k217)]), (some (k209, true))⟩ [],
  .R [],
  .L 22 ⟨(some k219), (.un .not (.t k218)), (some (k209, true))⟩,
  .L 23 ⟨(some k220), (.pick (.t k209) (.t k219) (.v (.bool false))), none⟩]
def f3r23 : List POper := [⟨(some k12), (.mov (.v (.bool false))), none⟩]
def f3r24 : List POper := [⟨(some k195), (.mov (.t k21)), none⟩,
  ⟨(some k196), (.bin .add (.t k195) (.v (.int .i64 (.lit 1)))), none⟩,
  ⟨(some k21), (.mov (.t k196)), none⟩]
def f3l3 : PCode := (.seq (.seq (.ops f3r21)
 (.cond (.t k194)
 .skip
 (.exit 6)))
 (.seq (.block 7 (.seq (.staged f3r22 ⟨[k197, k198, k199, k200, k201, k202, k203, k204, k205, k206, k207, k208, k209, k210, k211, k212, k213, k214, k215, k216, k217, k218, k219, k220], []⟩)
 (.cond (.t k220)
 (.seq (.ops f3r23)
 .ret)
 .skip)))
 (.ops f3r24)))
def f3r25 : List POper := [⟨(some k92), (.mov (.t k18)), none⟩,
  ⟨(some k93), (.bin .add (.t k92) (.v (.int .i64 (.lit 1)))), none⟩,
  ⟨(some k18), (.mov (.t k93)), none⟩]
def f3l2 : PCode := (.seq (.seq (.ops f3r13)
 (.cond (.t k91)
 .skip
 (.exit 4)))
 (.seq (.block 5 (.seq (.staged f3r14 ⟨[k94, k95, k96, k97, k98, k99, k100, k101, k102, k19], []⟩)
 (.seq (.seq (.staged f3r15 ⟨[k103, k104, k105, k106, k107, k108, k109, k110, k111, k112, k113, k114, k115, k116, k117, k118, k119, k120, k121, k122, k123, k124, k125, k126, k127, k128, k129, k130, k131, k132, k133, k134, k135, k136, k137], []⟩)
 (.cond (.t k137)
 (.seq (.ops f3r16)
 .ret)
 .skip))
 (.seq (.ops f3r17)
 (.seq (.seq (.staged f3r18 ⟨[k168, k169, k170, k171, k172, k173, k174, k175, k176, k177, k178, k179, k180, k181, k182, k183, k184, k185, k186, k187, k188, k189, k190, k191, k192], []⟩)
 (.cond (.t k192)
 (.seq (.ops f3r19)
 .ret)
 .skip))
 (.seq (.ops f3r20)
 (.block 6 (.loop f3l3))))))))
 (.ops f3r25)))
def f3r26 : List POper := [⟨(some k56), (.mov (.t k16)), none⟩,
  ⟨(some k57), (.bin .add (.t k56) (.v (.int .i64 (.lit 1)))), none⟩,
  ⟨(some k16), (.mov (.t k57)), none⟩]
def f3l1 : PCode := (.seq (.seq (.ops f3r8)
 (.cond (.t k55)
 .skip
 (.exit 2)))
 (.seq (.block 3 (.seq (.ops f3r9)
 (.seq (.seq (.staged f3r10 ⟨[k72, k73, k74, k75, k76, k77, k78, k79, k80, k81, k82, k83, k84, k85, k86, k87, k88, k89], []⟩)
 (.cond (.t k89)
 (.seq (.ops f3r11)
 .ret)
 .skip))
 (.seq (.ops f3r12)
 (.block 4 (.loop f3l2))))))
 (.ops f3r26)))
def f3r27 : List POper := [⟨(some k221), (.callF 8 []), none⟩,
  ⟨(some k12), (.mov (.t k221)), none⟩]
def f3 : PFn := ⟨(.seq (.ops f3r0)
 (.seq (.ops f3r1)
 (.seq (.ops f3r2)
 (.seq (.seq (.ops f3r3)
 (.block 0 (.loop f3l0)))
 (.seq (.seq (.ops f3r7)
 (.block 2 (.loop f3l1)))
 (.seq (.ops f3r27)
 .ret)))))),
 [.tmp k12]⟩
/- refuter/property.Fails -/
def f4r0 : List POper := [⟨(some k1), (.box (.t k0)), none⟩,
  ⟨(some k2), (.mov (.v (.bool false))), none⟩]
def f4r1 : List POper := [⟨(some k3), (.fieldA 0 (.t k1)), none⟩,
  ⟨(some k4), (.load false 1 (.t k3)), none⟩,
  ⟨(some k5), (.bin .eql (.t k4) (.v (.int .i64 (.lit 1)))), none⟩,
  ⟨(some k6), (.mov (.t k5)), none⟩,
  ⟨(some k7), (.fieldA 0 (.t k1)), (some (k6, false))⟩,
  ⟨(some k8), (.load false 1 (.t k7)), (some (k6, false))⟩,
  ⟨(some k9), (.bin .eql (.t k8) (.v (.int .i64 (.lit 2)))), (some (k6, false))⟩,
  ⟨(some k10), (.pick (.t k6) (.v (.bool true)) (.t k9)), none⟩,
  ⟨(some k2), (.mov (.t k10)), none⟩]
def f4 : PFn := ⟨(.seq (.ops f4r0)
 (.seq (.ops f4r1)
 .ret)),
 [.tmp k2]⟩
/- refuter/property.Worse -/
def f5r0 : List POper := [⟨(some k2), (.box (.t k0)), none⟩,
  ⟨(some k3), (.box (.t k1)), none⟩,
  ⟨(some k4), (.mov (.v (.bool false))), none⟩]
def f5r1 : List SItem := [.L 0 ⟨(some k7), (.fieldA 0 (.t k2)), none⟩,
  .L 1 ⟨(some k8), (.load false 1 (.t k7)), none⟩,
  .L 3 ⟨(some k10), (.fieldA 0 (.t k3)), none⟩,
  .L 4 ⟨(some k11), (.load false 1 (.t k10)), none⟩,
  .H 2 ⟨(some k9), (.callF 9 [(.t k8)]), none⟩ [],
  .R [(4, ⟨(some k11), (.load false 1 (.t k10)), none⟩)],
  .H 5 ⟨(some k12), (.callF 9 [(.t k11)]), none⟩ [],
  .R [],
  .L 6 ⟨(some k5), (.mov (.t k9)), none⟩,
  .L 7 ⟨(some k6), (.mov (.t k12)), none⟩]
def f5r2 : List POper := [⟨(some k13), (.mov (.t k5)), none⟩,
  ⟨(some k14), (.mov (.t k6)), none⟩,
  ⟨(some k15), (.bin .neq (.t k13) (.t k14)), none⟩]
def f5r3 : List POper := [⟨(some k16), (.mov (.t k5)), none⟩,
  ⟨(some k17), (.mov (.t k6)), none⟩,
  ⟨(some k18), (.bin .lss (.t k16) (.t k17)), none⟩,
  ⟨(some k4), (.mov (.t k18)), none⟩]
def f5r4 : List POper := [⟨(some k19), (.fieldA 1 (.t k2)), none⟩,
  ⟨(some k20), (.load false 1 (.t k19)), none⟩,
  ⟨(some k21), (.fieldA 1 (.t k3)), none⟩,
  ⟨(some k22), (.load false 1 (.t k21)), none⟩,
  ⟨(some k23), (.bin .neq (.t k20) (.t k22)), none⟩]
def f5r5 : List POper := [⟨(some k24), (.fieldA 1 (.t k2)), none⟩,
  ⟨(some k25), (.load false 1 (.t k24)), none⟩,
  ⟨(some k26), (.fieldA 1 (.t k3)), none⟩,
  ⟨(some k27), (.load false 1 (.t k26)), none⟩,
  ⟨(some k28), (.bin .lss (.t k25) (.t k27)), none⟩,
  ⟨(some k4), (.mov (.t k28)), none⟩]
def f5r6 : List POper := [⟨(some k29), (.fieldA 2 (.t k2)), none⟩,
  ⟨(some k30), (.load false 1 (.t k29)), none⟩,
  ⟨(some k31), (.fieldA 2 (.t k3)), none⟩,
  ⟨(some k32), (.load false 1 (.t k31)), none⟩,
  ⟨(some k33), (.bin .lss (.t k30) (.t k32)), none⟩,
  ⟨(some k4), (.mov (.t k33)), none⟩]
def f5 : PFn := ⟨(.seq (.ops f5r0)
 (.seq (.seq (.staged f5r1 ⟨[k7, k8, k9, k10, k11, k12, k5, k6], []⟩)
 (.seq (.ops f5r2)
 (.cond (.t k15)
 (.seq (.ops f5r3)
 .ret)
 .skip)))
 (.seq (.seq (.ops f5r4)
 (.cond (.t k23)
 (.seq (.ops f5r5)
 .ret)
 .skip))
 (.seq (.ops f5r6)
 .ret)))),
 [.tmp k4]⟩
/- refuter/refuterref22.Worse -/
def f6r0 : List POper := [⟨(some k2), (.box (.t k0)), none⟩,
  ⟨(some k3), (.box (.t k1)), none⟩,
  ⟨(some k4), (.mov (.v (.bool false))), none⟩]
def f6r1 : List SItem := [.L 0 ⟨(some k5), (.load true 3 (.t k2)), none⟩,
  .L 2 ⟨(some k7), (.load true 3 (.t k3)), none⟩,
  .H 1 ⟨(some k6), (.callF 10 [(.t k5)]), none⟩ [],
  .R [(2, ⟨(some k7), (.load true 3 (.t k3)), none⟩)],
  .H 3 ⟨(some k8), (.callF 10 [(.t k7)]), none⟩ [],
  .R [],
  .L 4 ⟨(some k9), (.bin .neq (.t k6) (.t k8)), none⟩]
def f6r2 : List SItem := [.L 0 ⟨(some k10), (.load true 3 (.t k2)), none⟩,
  .L 2 ⟨(some k12), (.load true 3 (.t k3)), none⟩,
  .H 1 ⟨(some k11), (.callF 10 [(.t k10)]), none⟩ [],
  .R [(2, ⟨(some k12), (.load true 3 (.t k3)), none⟩)],
  .H 3 ⟨(some k13), (.callF 10 [(.t k12)]), none⟩ [],
  .R [],
  .L 4 ⟨(some k14), (.bin .lss (.t k11) (.t k13)), none⟩,
  .L 5 ⟨(some k4), (.mov (.t k14)), none⟩]
def f6r3 : List POper := [⟨(some k15), (.fieldA 1 (.t k2)), none⟩,
  ⟨(some k16), (.load false 1 (.t k15)), none⟩,
  ⟨(some k17), (.fieldA 1 (.t k3)), none⟩,
  ⟨(some k18), (.load false 1 (.t k17)), none⟩,
  ⟨(some k19), (.bin .neq (.t k16) (.t k18)), none⟩]
def f6r4 : List POper := [⟨(some k20), (.fieldA 1 (.t k2)), none⟩,
  ⟨(some k21), (.load false 1 (.t k20)), none⟩,
  ⟨(some k22), (.fieldA 1 (.t k3)), none⟩,
  ⟨(some k23), (.load false 1 (.t k22)), none⟩,
  ⟨(some k24), (.bin .lss (.t k21) (.t k23)), none⟩,
  ⟨(some k4), (.mov (.t k24)), none⟩]
def f6r5 : List POper := [⟨(some k25), (.fieldA 2 (.t k2)), none⟩,
  ⟨(some k26), (.load false 1 (.t k25)), none⟩,
  ⟨(some k27), (.fieldA 2 (.t k3)), none⟩,
  ⟨(some k28), (.load false 1 (.t k27)), none⟩,
  ⟨(some k29), (.bin .lss (.t k26) (.t k28)), none⟩,
  ⟨(some k4), (.mov (.t k29)), none⟩]
def f6 : PFn := ⟨(.seq (.ops f6r0)
 (.seq (.seq (.staged f6r1 ⟨[k5, k6, k7, k8, k9], []⟩)
 (.cond (.t k9)
 (.seq (.staged f6r2 ⟨[k10, k11, k12, k13, k14, k4], []⟩)
 .ret)
 .skip))
 (.seq (.seq (.ops f6r3)
 (.cond (.t k19)
 (.seq (.ops f6r4)
 .ret)
 .skip))
 (.seq (.ops f6r5)
 .ret)))),
 [.tmp k4]⟩
/- refuter/property.Same -/
def f7r0 : List POper := [⟨(some k2), (.box (.t k0)), none⟩,
  ⟨(some k3), (.box (.t k1)), none⟩,
  ⟨(some k4), (.mov (.v (.bool false))), none⟩]
def f7r1 : List POper := [⟨(some k5), (.load true 3 (.t k2)), none⟩,
  ⟨(some k6), (.callF 4 [(.t k5)]), none⟩,
  ⟨(some k7), (.mov (.t k6)), none⟩,
  ⟨(some k8), (.load true 3 (.t k2)), (some (k7, true))⟩,
  ⟨(some k9), (.load true 3 (.t k3)), (some (k7, true))⟩,
  ⟨(some k10), (.eq false (.parts [(0, .int), (1, .int), (2, .int)]) (.t k8) (.t k9)), (some (k7, true))⟩,
  ⟨(some k11), (.pick (.t k7) (.t k10) (.v (.bool false))), none⟩,
  ⟨(some k4), (.mov (.t k11)), none⟩]
def f7 : PFn := ⟨(.seq (.ops f7r0)
 (.seq (.ops f7r1)
 .ret)),
 [.tmp k4]⟩
/- refuter/refuterlaw22.lives -/
def f8r0 : List POper := [⟨(some k0), (.mov (.v (.bool false))), none⟩]
def f8r1 : List POper := [⟨(some k12), (.callF 11 [(.v (.str 95 2964175950599244298318657132093453354109292321803018711387000705358845558267037524217110167892182321766360118395355635363979070538322611264102148216213956071019582696324528744069822841174691114008609858250090086396687108927353456))]), none⟩,
  ⟨(some k11), (.mov (.t k12)), none⟩,
  ⟨(some k13), (.extract (.t k11) 0), none⟩,
  ⟨(some k14), (.extract (.t k11) 1), none⟩,
  ⟨(some k15), (.extract (.t k11) 2), none⟩,
  ⟨(some k1), (.new [.nils]), none⟩,
  ⟨none, (.store 1 (.t k1) (.t k13)), none⟩,
  ⟨(some k2), (.mov (.t k14)), none⟩,
  ⟨(some k3), (.mov (.t k15)), none⟩]
def f8r2 : List POper := [⟨(some k16), (.mov (.t k3)), none⟩,
  ⟨(some k17), (.bin .neq (.t k16) (.v (.int .i64 (.lit 0)))), none⟩]
def f8r3 : List POper := [⟨(some k0), (.mov (.v (.bool false))), none⟩]
def f8r4 : List POper := [⟨(some k18), (.build [(.int .i64 (.lit 0)), (.int .i64 (.lit 0))] [(0, 1, (.v (.int .i64 (.lit 100)))), (1, 1, (.v (.int .i64 (.lit 100))))]), none⟩,
  ⟨(some k4), (.new [(.int .i64 (.lit 0)), (.int .i64 (.lit 0))]), none⟩,
  ⟨none, (.store 2 (.t k4) (.t k18)), none⟩]
def f8r5 : List SItem := [.L 0 ⟨(some k20), (.load true 1 (.t k1)), none⟩,
  .L 2 ⟨(some k22), (.load true 2 (.t k4)), none⟩,
  .L 3 ⟨(some k23), (.build [(.int .i64 (.lit 0)), (.int .i64 (.lit 0))] []), none⟩,
  .A 8 ⟨(some k5), (.new [(.int .i64 (.lit 0)), (.int .i64 (.lit 0)), (.int .i64 (.lit 0)), .nils, .nils, (.int .i64 (.lit 0))]), none⟩,
  .H 1 ⟨(some k21), (.callF 13 [(.v (.int .i64 (.lit 7)))]), none⟩ [],
  .R [(0, ⟨(some k20), (.load true 1 (.t k1)), none⟩), (2, ⟨(some k22), (.load true 2 (.t k4)), none⟩)],
  .H 4 ⟨(some k24), (.callF 12 [(.t k20), (.v (.str 1 112)), (.t k21), (.t k22), (.t k23)]), none⟩ [],
  .R [],
  .L 5 ⟨(some k19), (.mov (.t k24)), none⟩,
  .L 6 ⟨(some k25), (.extract (.t k19) 0), none⟩,
  .L 7 ⟨(some k26), (.extract (.t k19) 1), none⟩,
  .H 9 ⟨none, (.store 6 (.t k5) (.t k25)), none⟩ [8],
  .R [],
  .L 10 ⟨(some k6), (.mov (.t k26)), none⟩]
def f8r6 : List SItem := [.L 0 ⟨(some k28), (.load true 1 (.t k1)), none⟩,
  .L 2 ⟨(some k30), (.load true 2 (.t k4)), none⟩,
  .L 3 ⟨(some k31), (.build [(.int .i64 (.lit 0)), (.int .i64 (.lit 0))] []), none⟩,
  .A 8 ⟨(some k7), (.new [(.int .i64 (.lit 0)), (.int .i64 (.lit 0)), (.int .i64 (.lit 0)), .nils, .nils, (.int .i64 (.lit 0))]), none⟩,
  .H 1 ⟨(some k29), (.callF 13 [(.v (.int .i64 (.lit 2)))]), none⟩ [],
  .R [(0, ⟨(some k28), (.load true 1 (.t k1)), none⟩), (2, ⟨(some k30), (.load true 2 (.t k4)), none⟩)],
  .H 4 ⟨(some k32), (.callF 12 [(.t k28), (.v (.str 1 112)), (.t k29), (.t k30), (.t k31)]), none⟩ [],
  .R [],
  .L 5 ⟨(some k27), (.mov (.t k32)), none⟩,
  .L 6 ⟨(some k33), (.extract (.t k27) 0), none⟩,
  .L 7 ⟨(some k34), (.extract (.t k27) 1), none⟩,
  .H 9 ⟨none, (.store 6 (.t k7) (.t k33)), none⟩ [8],
  .R [],
  .L 10 ⟨(some k8), (.mov (.t k34)), none⟩]
def f8r7 : List SItem := [.L 0 ⟨(some k36), (.load true 1 (.t k1)), none⟩,
  .L 2 ⟨(some k38), (.load true 2 (.t k4)), none⟩,
  .L 3 ⟨(some k39), (.build [(.int .i64 (.lit 0)), (.int .i64 (.lit 0))] []), none⟩,
  .A 8 ⟨(some k9), (.new [(.int .i64 (.lit 0)), (.int .i64 (.lit 0)), (.int .i64 (.lit 0)), .nils, .nils, (.int .i64 (.lit 0))]), none⟩,
  .H 1 ⟨(some k37), (.callF 13 [(.v (.int .i64 (.lit 0)))]), none⟩ [],
  .R [(0, ⟨(some k36), (.load true 1 (.t k1)), none⟩), (2, ⟨(some k38), (.load true 2 (.t k4)), none⟩)],
  .H 4 ⟨(some k40), (.callF 12 [(.t k36), (.v (.str 1 112)), (.t k37), (.t k38), (.t k39)]), none⟩ [],
  .R [],
  .L 5 ⟨(some k35), (.mov (.t k40)), none⟩,
  .L 6 ⟨(some k41), (.extract (.t k35) 0), none⟩,
  .L 7 ⟨(some k42), (.extract (.t k35) 1), none⟩,
  .H 9 ⟨none, (.store 6 (.t k9) (.t k41)), none⟩ [8],
  .R [],
  .L 10 ⟨(some k10), (.mov (.t k42)), none⟩]
def f8r8 : List POper := [⟨(some k43), (.mov (.t k6)), none⟩,
  ⟨(some k44), (.bin .eql (.t k43) (.v (.int .i64 (.lit 0)))), none⟩,
  ⟨(some k45), (.mov (.t k44)), none⟩,
  ⟨(some k46), (.mov (.t k8)), (some (k45, true))⟩,
  ⟨(some k47), (.bin .eql (.t k46) (.v (.int .i64 (.lit 0)))), (some (k45, true))⟩,
  ⟨(some k48), (.pick (.t k45) (.t k47) (.v (.bool false))), none⟩,
  ⟨(some k49), (.mov (.t k48)), none⟩,
  ⟨(some k50), (.mov (.t k10)), (some (k49, true))⟩,
  ⟨(some k51), (.bin .eql (.t k50) (.v (.int .i64 (.lit 0)))), (some (k49, true))⟩,
  ⟨(some k52), (.pick (.t k49) (.t k51) (.v (.bool false))), none⟩,
  ⟨(some k53), (.mov (.t k52)), none⟩,
  ⟨(some k54), (.fieldA 0 (.t k5)), (some (k53, true))⟩,
  ⟨(some k55), (.load true 3 (.t k54)), (some (k53, true))⟩,
  ⟨(some k56), (.build [(.int .i64 (.lit 0)), (.int .i64 (.lit 0)), (.int .i64 (.lit 0))] [(0, 1, (.v (.int .i64 (.lit 1))))]), (some (k53, true))⟩,
  ⟨(some k57), (.eq false (.parts [(0, .int), (1, .int), (2, .int)]) (.t k55) (.t k56)), (some (k53, true))⟩,
  ⟨(some k58), (.pick (.t k53) (.t k57) (.v (.bool false))), none⟩,
  ⟨(some k59), (.mov (.t k58)), none⟩,
  ⟨(some k60), (.fieldA 4 (.t k5)), (some (k59, true))⟩,
  ⟨(some k61), (.load false 1 (.t k60)), (some (k59, true))⟩,
  ⟨(some k62), (.lenL (.t k61)), (some (k59, true))⟩,
  ⟨(some k63), (.bin .eql (.t k62) (.v (.int .i64 (.lit 1)))), (some (k59, true))⟩,
  ⟨(some k64), (.pick (.t k59) (.t k63) (.v (.bool false))), none⟩,
  ⟨(some k65), (.mov (.t k64)), none⟩,
  ⟨(some k66), (.fieldA 0 (.t k7)), (some (k65, true))⟩,
  ⟨(some k67), (.load true 3 (.t k66)), (some (k65, true))⟩,
  ⟨(some k68), (.build [(.int .i64 (.lit 0)), (.int .i64 (.lit 0)), (.int .i64 (.lit 0))] [(0, 1, (.v (.int .i64 (.lit 2)))), (1, 1, (.v (.int .i64 (.lit 1)))), (2, 1, (.v (.int .i64 (.lit 13))))]), (some (k65, true))⟩,
  ⟨(some k69), (.eq false (.parts [(0, .int), (1, .int), (2, .int)]) (.t k67) (.t k68)), (some (k65, true))⟩,
  ⟨(some k70), (.pick (.t k65) (.t k69) (.v (.bool false))), none⟩,
  ⟨(some k71), (.mov (.t k70)), none⟩,
  ⟨(some k72), (.fieldA 0 (.t k9)), (some (k71, true))⟩,
  ⟨(some k73), (.load true 3 (.t k72)), (some (k71, true))⟩,
  ⟨(some k74), (.build [(.int .i64 (.lit 0)), (.int .i64 (.lit 0)), (.int .i64 (.lit 0))] []), (some (k71, true))⟩,
  ⟨(some k75), (.eq false (.parts [(0, .int), (1, .int), (2, .int)]) (.t k73) (.t k74)), (some (k71, true))⟩,
  ⟨(some k76), (.pick (.t k71) (.t k75) (.v (.bool false))), none⟩,
  ⟨(some k77), (.mov (.t k76)), none⟩,
  ⟨(some k78), (.fieldA 5 (.t k9)), (some (k77, true))⟩,
  ⟨(some k79), (.load false 1 (.t k78)), (some (k77, true))⟩,
  ⟨(some k80), (.bin .gtr (.t k79) (.v (.int .i64 (.lit 0)))), (some (k77, true))⟩,
  ⟨(some k81), (.pick (.t k77) (.t k80) (.v (.bool false))), none⟩,
  ⟨(some k0), (.mov (.t k81)), none⟩]
def f8 : PFn := ⟨(.seq (.ops f8r0)
 (.seq (.ops f8r1)
 (.seq (.seq (.ops f8r2)
 (.cond (.t k17)
 (.seq (.ops f8r3)
 .ret)
 .skip))
 (.seq (.ops f8r4)
 (.seq (.staged f8r5 ⟨[k20, k21, k22, k23, k24, k19, k25, k26, k5, k6], []⟩)
 (.seq (.staged f8r6 ⟨[k28, k29, k30, k31, k32, k27, k33, k34, k7, k8], []⟩)
 (.seq (.staged f8r7 ⟨[k36, k37, k38, k39, k40, k35, k41, k42, k9, k10], []⟩)
 (.seq (.ops f8r8)
 .ret)))))))),
 [.tmp k0]⟩
/- refuter/property.place -/
def f9r0 : List POper := [⟨(some k2), (.mov (.v (.int .i64 (.lit 0)))), none⟩]
def f9r1 : List POper := [⟨(some k6), .mkmap, none⟩,
  ⟨none, (.mapupd false (.t k6) (.v (.int .i64 (.lit 1))) (.v (.int .i64 (.lit 0)))), none⟩,
  ⟨none, (.mapupd false (.t k6) (.v (.int .i64 (.lit 2))) (.v (.int .i64 (.lit 1)))), none⟩,
  ⟨none, (.mapupd false (.t k6) (.v (.int .i64 (.lit 0))) (.v (.int .i64 (.lit 2)))), none⟩,
  ⟨(some k7), (.mov (.t k6)), none⟩,
  ⟨(some k3), (.mov (.t k7)), none⟩]
def f9r2 : List POper := [⟨(some k9), (.mov (.t k3)), none⟩,
  ⟨(some k10), (.mov (.t k0)), none⟩,
  ⟨(some k11), (.lookup false (.int .i64 (.lit 0)) true (.t k9) (.t k10)), none⟩,
  ⟨(some k8), (.mov (.t k11)), none⟩,
  ⟨(some k12), (.extract (.t k8) 0), none⟩,
  ⟨(some k13), (.extract (.t k8) 1), none⟩,
  ⟨(some k4), (.mov (.t k12)), none⟩,
  ⟨(some k5), (.mov (.t k13)), none⟩]
def f9r3 : List POper := [⟨(some k14), (.mov (.t k5)), none⟩]
def f9r4 : List POper := [⟨(some k15), (.mov (.t k4)), none⟩,
  ⟨(some k2), (.mov (.t k15)), none⟩]
def f9r5 : List POper := [⟨(some k2), (.mov (.v (.int .i64 (.lit 3)))), none⟩]
def f9 : PFn := ⟨(.seq (.ops f9r0)
 (.seq (.ops f9r1)
 (.seq (.seq (.ops f9r2)
 (.seq (.ops f9r3)
 (.cond (.t k14)
 (.seq (.ops f9r4)
 .ret)
 .skip)))
 (.seq (.ops f9r5)
 .ret)))),
 [.tmp k2]⟩
/- refuter/refuterref22.place -/
def f10r0 : List POper := [⟨(some k1), (.box (.t k0)), none⟩,
  ⟨(some k2), (.mov (.v (.int .i64 (.lit 0)))), none⟩]
def f10r1 : List POper := [⟨(some k3), (.fieldA 0 (.t k1)), none⟩,
  ⟨(some k4), (.load false 1 (.t k3)), none⟩]
def f10r2 : List POper := [⟨(some k6), (.bin .eql (.t k4) (.v (.int .i64 (.lit 1)))), none⟩,
  ⟨(some k5), (.mov (.t k6)), none⟩]
def f10r3 : List POper := [⟨(some k2), (.mov (.v (.int .i64 (.lit 0)))), none⟩]
def f10r4 : List POper := [⟨(some k8), (.bin .eql (.t k4) (.v (.int .i64 (.lit 2)))), none⟩,
  ⟨(some k7), (.mov (.t k8)), none⟩]
def f10r5 : List POper := [⟨(some k2), (.mov (.v (.int .i64 (.lit 1)))), none⟩]
def f10r6 : List POper := [⟨(some k10), (.bin .eql (.t k4) (.v (.int .i64 (.lit 0)))), none⟩,
  ⟨(some k9), (.mov (.t k10)), none⟩]
def f10r7 : List POper := [⟨(some k2), (.mov (.v (.int .i64 (.lit 2)))), none⟩]
def f10r8 : List POper := [⟨(some k2), (.mov (.v (.int .i64 (.lit 3)))), none⟩]
def f10 : PFn := ⟨(.seq (.ops f10r0)
 (.seq (.seq (.ops f10r1)
 (.block 0 (.seq (.ops f10r2)
 (.cond (.t k5)
 (.seq (.ops f10r3)
 .ret)
 (.seq (.ops f10r4)
 (.cond (.t k7)
 (.seq (.ops f10r5)
 .ret)
 (.seq (.ops f10r6)
 (.cond (.t k9)
 (.seq (.ops f10r7)
 .ret)
 .skip))))))))
 (.seq (.ops f10r8)
 .ret))),
 [.tmp k2]⟩
/- refuter/parser.Parse -/
def f11r0 : List POper := [⟨(some k2), (.new [.nils]), none⟩,
  ⟨(some k3), (.mov (.v (.int .i64 (.lit 0)))), none⟩,
  ⟨(some k4), (.mov (.v (.int .i64 (.lit 0)))), none⟩]
def f11r1 : List POper := [⟨(some k10), (.mov (.t k0)), none⟩,
  ⟨(some k11), (.callF 14 [(.t k10), (.v (.fn 15 [] []))]), none⟩,
  ⟨(some k9), (.mov (.t k11)), none⟩,
  ⟨(some k12), (.extract (.t k9) 0), none⟩,
  ⟨(some k13), (.extract (.t k9) 1), none⟩,
  ⟨(some k14), (.extract (.t k9) 2), none⟩,
  ⟨(some k5), (.new [.nils]), none⟩,
  ⟨none, (.store 1 (.t k5) (.t k12)), none⟩,
  ⟨(some k6), (.mov (.t k13)), none⟩,
  ⟨(some k7), (.mov (.t k14)), none⟩]
def f11r2 : List POper := [⟨(some k15), (.mov (.t k7)), none⟩,
  ⟨(some k16), (.bin .neq (.t k15) (.v (.int .i64 (.lit 0)))), none⟩]
def f11r3 : List POper := [⟨(some k17), (.build [.nils] []), none⟩,
  ⟨(some k18), (.mov (.t k6)), none⟩,
  ⟨(some k19), (.mov (.t k7)), none⟩,
  ⟨none, (.store 1 (.t k2) (.t k17)), none⟩,
  ⟨(some k3), (.mov (.t k18)), none⟩,
  ⟨(some k4), (.mov (.t k19)), none⟩]
def f11r4 : List POper := [⟨(some k8), (.new [(.bool false), (.bool false), (.bool false), (.bool false)]), none⟩]
def f11r5 : List POper := [⟨(some k20), (.load true 1 (.t k5)), none⟩,
  ⟨(some k21), (.callF 16 [(.t k8), (.t k20)]), none⟩]
def f11r6 : List POper := [⟨(some k22), (.fieldA 0 (.t k8)), none⟩,
  ⟨(some k23), (.load false 1 (.t k22)), none⟩]
def f11r7 : List POper := [⟨(some k24), (.build [.nils] []), none⟩,
  ⟨none, (.store 1 (.t k2) (.t k24)), none⟩,
  ⟨(some k3), (.mov (.v (.int .i64 (.lit 0)))), none⟩,
  ⟨(some k4), (.mov (.v (.int .i64 (.lit 4)))), none⟩]
def f11r8 : List POper := [⟨(some k25), (.load true 1 (.t k5)), none⟩,
  ⟨none, (.store 1 (.t k2) (.t k25)), none⟩,
  ⟨(some k3), (.mov (.v (.int .i64 (.lit 0)))), none⟩,
  ⟨(some k4), (.mov (.v (.int .i64 (.lit 0)))), none⟩]
def f11 : PFn := ⟨(.seq (.ops f11r0)
 (.seq (.ops f11r1)
 (.seq (.seq (.ops f11r2)
 (.cond (.t k16)
 (.seq (.ops f11r3)
 .ret)
 .skip))
 (.seq (.ops f11r4)
 (.seq (.ops f11r5)
 (.seq (.seq (.ops f11r6)
 (.cond (.t k23)
 (.seq (.ops f11r7)
 .ret)
 .skip))
 (.seq (.ops f11r8)
 .ret))))))),
 [.cell k2 true 1, .tmp k3, .tmp k4]⟩
/- refuter/property.Judge -/
def f12r0 : List POper := [⟨(some k5), (.box (.t k0)), none⟩,
  ⟨(some k7), (.box (.t k2)), none⟩,
  ⟨(some k8), (.box (.t k3)), none⟩,
  ⟨(some k9), (.box (.t k4)), none⟩,
  ⟨(some k10), (.new [(.int .i64 (.lit 0)), (.int .i64 (.lit 0)), (.int .i64 (.lit 0)), .nils, .nils, (.int .i64 (.lit 0))]), none⟩,
  ⟨(some k11), (.mov (.v (.int .i64 (.lit 0)))), none⟩]
def f12r1 : List POper := [⟨(some k34), (.load true 1 (.t k5)), none⟩,
  ⟨(some k35), (.mov (.t k1)), none⟩,
  ⟨(some k36), (.callF 17 [(.t k34), (.t k35)]), none⟩,
  ⟨(some k33), (.mov (.t k36)), none⟩,
  ⟨(some k37), (.extract (.t k33) 0), none⟩,
  ⟨(some k38), (.extract (.t k33) 1), none⟩,
  ⟨(some k12), (.new [(.int .i64 (.lit 0)), (.str 0 0), (.int .i64 (.lit 0)), .nils, .nils, (.int .i64 (.lit 0)), (.str 0 0), .nils, (.int .i64 (.lit 0)), (.str 0 0), (.int .i64 (.lit 0)), .nils, .nils, .nils, (.int .i64 (.lit 0)), (.int .i64 (.lit 0)), (.int .i64 (.lit 0)), (.str 0 0), .nils, .nils, .nils, (.int .i64 (.lit 0)), .nils, .nils, .nils, .nils, (.int .i64 (.lit 0)), (.str 0 0), .nils, (.int .i64 (.lit 0)), (.str 0 0), (.int .i64 (.lit 0)), .nils, .nils, .nils, (.int .i64 (.lit 0)), .nils, .nils, (.int .i64 (.lit 0)), (.str 0 0), (.int .i64 (.lit 0)), .nils, .nils, .nils, (.int .i64 (.lit 0))]), none⟩,
  ⟨none, (.store 45 (.t k12) (.t k37)), none⟩,
  ⟨(some k13), (.mov (.t k38)), none⟩]
def f12r2 : List POper := [⟨(some k39), (.mov (.t k13)), none⟩,
  ⟨(some k40), (.un .not (.t k39)), none⟩]
def f12r3 : List POper := [⟨(some k41), (.build [(.int .i64 (.lit 0)), (.int .i64 (.lit 0)), (.int .i64 (.lit 0)), .nils, .nils, (.int .i64 (.lit 0))] []), none⟩,
  ⟨none, (.store 6 (.t k10) (.t k41)), none⟩,
  ⟨(some k11), (.mov (.v (.int .i64 (.lit 6)))), none⟩]
def f12r4 : List POper := [⟨(some k42), (.fieldA 0 (.t k7)), none⟩,
  ⟨(some k43), (.load false 1 (.t k42)), none⟩,
  ⟨(some k44), (.bin .neq (.t k43) (.v (.int .i64 (.lit 2)))), none⟩,
  ⟨(some k45), (.mov (.t k44)), none⟩,
  ⟨(some k46), (.fieldA 3 (.t k7)), (some (k45, false))⟩,
  ⟨(some k47), (.load false 1 (.t k46)), (some (k45, false))⟩,
  ⟨(some k48), (.lenL (.t k47)), (some (k45, false))⟩,
  ⟨(some k49), (.fieldA 22 (.t k12)), (some (k45, false))⟩,
  ⟨(some k50), (.load false 1 (.t k49)), (some (k45, false))⟩,
  ⟨(some k51), (.lenL (.t k50)), (some (k45, false))⟩,
  ⟨(some k52), (.bin .neq (.t k48) (.t k51)), (some (k45, false))⟩,
  ⟨(some k53), (.pick (.t k45) (.v (.bool true)) (.t k52)), none⟩]
def f12r5 : List POper := [⟨(some k54), (.build [(.int .i64 (.lit 0)), (.int .i64 (.lit 0)), (.int .i64 (.lit 0)), .nils, .nils, (.int .i64 (.lit 0))] []), none⟩,
  ⟨none, (.store 6 (.t k10) (.t k54)), none⟩,
  ⟨(some k11), (.mov (.v (.int .i64 (.lit 1)))), none⟩]
def f12r6 : List POper := [⟨(some k55), (.fieldA 22 (.t k12)), none⟩,
  ⟨(some k56), (.load false 1 (.t k55)), none⟩,
  ⟨(some k57), (.lenL (.t k56)), none⟩,
  ⟨(some k58), (.mkslice 5 [(.str 0 0), (.int .i64 (.lit 0)), (.int .i64 (.lit 0)), (.str 0 0), .nils] (.t k57) (.t k57)), none⟩,
  ⟨(some k14), (.new [.nils]), none⟩,
  ⟨none, (.store 1 (.t k14) (.t k58)), none⟩]
def f12r7 : List POper := [⟨(some k59), (.fieldA 22 (.t k12)), none⟩,
  ⟨(some k60), (.load false 1 (.t k59)), none⟩,
  ⟨(some k61), (.lenL (.t k60)), none⟩,
  ⟨(some k62), (.mov (.v (.int .i64 (.lit 0)))), none⟩]
def f12r8 : List POper := [⟨(some k63), (.bin .lss (.t k62) (.t k61)), none⟩]
def f12r9 : List POper := [⟨(some k64), (.mov (.t k62)), none⟩,
  ⟨(some k65), (.indexL 11 (.t k60) (.t k62)), none⟩,
  ⟨(some k66), (.load true 11 (.t k65)), none⟩,
  ⟨(some k16), (.new [(.str 0 0), (.int .i64 (.lit 0)), (.str 0 0), .nils, (.int .i64 (.lit 0)), (.str 0 0), .nils, .nils, .nils, (.int .i64 (.lit 0)), (.bool false)]), none⟩,
  ⟨(some k15), (.mov (.t k64)), none⟩,
  ⟨none, (.store 11 (.t k16) (.t k66)), none⟩]
def f12r10 : List SItem := [.L 0 ⟨(some k67), (.load false 1 (.t k14)), none⟩,
  .L 1 ⟨(some k68), (.mov (.t k15)), none⟩,
  .L 2 ⟨(some k69), (.fieldA 0 (.t k16)), none⟩,
  .L 3 ⟨(some k70), (.load false 1 (.t k69)), none⟩,
  .L 4 ⟨(some k71), (.fieldA 3 (.t k7)), none⟩,
  .L 5 ⟨(some k72), (.load false 1 (.t k71)), none⟩,
  .L 6 ⟨(some k73), (.mov (.t k15)), none⟩,
  .L 7 ⟨(some k74), (.indexL 4 (.t k72) (.t k73)), none⟩,
  .L 8 ⟨(some k75), (.load true 4 (.t k74)), none⟩,
  .L 9 ⟨(some k76), (.build [(.str 0 0), (.int .i64 (.lit 0)), (.int .i64 (.lit 0)), (.str 0 0), .nils] [(0, 1, (.t k70)), (1, 4, (.t k75))]), none⟩,
  .L 10 ⟨(some k77), (.indexL 5 (.t k67) (.t k68)), none⟩,
  .H 11 ⟨none, (.store 5 (.t k77) (.t k76)), none⟩ [],
  .R []]
def f12r11 : List POper := [⟨(some k78), (.bin .add (.t k62) (.v (.int .i64 (.lit 1)))), none⟩,
  ⟨(some k62), (.mov (.t k78)), none⟩]
def f12l0 : PCode := (.seq (.ops f12r8)
 (.seq (.cond (.t k63)
 .skip
 (.exit 0))
 (.seq (.block 1 (.seq (.ops f12r9)
 (.staged f12r10 ⟨[k67, k68, k69, k70, k71, k72, k73, k74, k75, k76, k77], []⟩)))
 (.ops f12r11))))
def f12r12 : List POper := [⟨(some k17), (.new [(.int .i64 (.lit 0)), (.int .i64 (.lit 0)), (.int .i64 (.lit 0)), .nils, .nils, (.int .i64 (.lit 0))]), none⟩]
def f12r13 : List POper := [⟨(some k79), (.mkfn 18 [] [(.t k5), (.t k14), (.t k8), (.t k9)]), none⟩,
  ⟨(some k18), (.mov (.t k79)), none⟩]
def f12r14 : List POper := [⟨(some k80), (.fieldA 23 (.t k12)), none⟩,
  ⟨(some k81), (.load false 1 (.t k80)), none⟩,
  ⟨(some k82), (.lenL (.t k81)), none⟩,
  ⟨(some k83), (.mov (.v (.int .i64 (.lit 0)))), none⟩]
def f12r15 : List POper := [⟨(some k84), (.bin .lss (.t k83) (.t k82)), none⟩]
def f12r16 : List POper := [⟨(some k85), (.mov (.t k83)), none⟩,
  ⟨(some k86), (.indexL 8 (.t k81) (.t k83)), none⟩,
  ⟨(some k87), (.load true 8 (.t k86)), none⟩,
  ⟨(some k20), (.new [(.str 0 0), (.int .i64 (.lit 0)), (.str 0 0), (.int .i64 (.lit 0)), .nils, .nils, .nils, (.int .i64 (.lit 0))]), none⟩,
  ⟨(some k19), (.mov (.t k85)), none⟩,
  ⟨none, (.store 8 (.t k20) (.t k87)), none⟩]
def f12r17 : List POper := [⟨(some k89), (.mov (.t k18)), none⟩,
  ⟨(some k90), (.load true 8 (.t k20)), none⟩,
  ⟨(some k91), (.callV (.t k89) [(.t k90)]), none⟩,
  ⟨(some k88), (.mov (.t k91)), none⟩,
  ⟨(some k92), (.extract (.t k88) 0), none⟩,
  ⟨(some k93), (.extract (.t k88) 1), none⟩,
  ⟨(some k94), (.extract (.t k88) 2), none⟩,
  ⟨(some k95), (.extract (.t k88) 3), none⟩,
  ⟨(some k21), (.new [(.int .i64 (.lit 0)), (.int .i64 (.lit 0)), (.str 0 0), .nils]), none⟩,
  ⟨(some k22), (.new [(.int .i64 (.lit 0)), (.int .i64 (.lit 0)), (.int .i64 (.lit 0))]), none⟩,
  ⟨none, (.store 4 (.t k21) (.t k92)), none⟩,
  ⟨none, (.store 3 (.t k22) (.t k93)), none⟩,
  ⟨(some k23), (.mov (.t k94)), none⟩,
  ⟨(some k24), (.mov (.t k95)), none⟩]
def f12r18 : List POper := [⟨(some k96), (.fieldA 5 (.t k17)), none⟩,
  ⟨(some k97), (.load false 1 (.t k96)), none⟩,
  ⟨(some k98), (.fieldA 0 (.t k22)), none⟩,
  ⟨(some k99), (.load false 1 (.t k98)), none⟩,
  ⟨(some k100), (.bin .add (.t k97) (.t k99)), none⟩,
  ⟨(some k101), (.fieldA 5 (.t k17)), none⟩,
  ⟨none, (.store 1 (.t k101) (.t k100)), none⟩]
def f12r19 : List POper := [⟨(some k102), (.mov (.t k23)), none⟩,
  ⟨(some k103), (.lenL (.t k102)), none⟩,
  ⟨(some k104), (.mov (.v (.int .i64 (.lit 0)))), none⟩]
def f12r20 : List POper := [⟨(some k105), (.bin .lss (.t k104) (.t k103)), none⟩]
def f12r21 : List POper := [⟨(some k106), (.indexL 3 (.t k102) (.t k104)), none⟩,
  ⟨(some k107), (.load true 3 (.t k106)), none⟩,
  ⟨(some k26), (.new [(.str 0 0), (.int .i64 (.lit 0)), (.int .i64 (.lit 0))]), none⟩,
  ⟨none, (.store 3 (.t k26) (.t k107)), none⟩]
def f12r22 : List POper := [⟨(some k108), (.fieldA 0 (.t k26)), none⟩,
  ⟨(some k109), (.load false 1 (.t k108)), none⟩,
  ⟨(some k110), (.bin .eql (.t k109) (.v (.str 0 0))), none⟩]
def f12r23 : List POper := [⟨(some k111), (.fieldA 1 (.t k12)), none⟩,
  ⟨(some k112), (.load false 1 (.t k111)), none⟩,
  ⟨(some k113), (.fieldA 0 (.t k26)), none⟩,
  ⟨none, (.store 1 (.t k113) (.t k112)), none⟩]
def f12r24 : List POper := [⟨(some k114), (.fieldA 3 (.t k17)), none⟩,
  ⟨(some k115), (.load false 1 (.t k114)), none⟩,
  ⟨(some k116), (.load true 3 (.t k26)), none⟩,
  ⟨(some k117), (.bslice 3 1 [(.str 0 0), (.int .i64 (.lit 0)), (.int .i64 (.lit 0))] [(0, 3, (.t k116))]), none⟩,
  ⟨(some k118), (.append 3 (.t k115) (.t k117)), none⟩,
  ⟨(some k119), (.fieldA 3 (.t k17)), none⟩,
  ⟨none, (.store 1 (.t k119) (.t k118)), none⟩]
def f12r25 : List POper := [⟨(some k120), (.bin .add (.t k104) (.v (.int .i64 (.lit 1)))), none⟩,
  ⟨(some k104), (.mov (.t k120)), none⟩]
def f12l2 : PCode := (.seq (.ops f12r20)
 (.seq (.cond (.t k105)
 .skip
 (.exit 4))
 (.seq (.block 5 (.seq (.ops f12r21)
 (.seq (.seq (.ops f12r22)
 (.cond (.t k110)
 (.ops f12r23)
 .skip))
 (.ops f12r24))))
 (.ops f12r25))))
def f12r26 : List POper := [⟨(some k121), (.mov (.t k24)), none⟩,
  ⟨(some k122), (.bin .eql (.t k121) (.v (.int .i64 (.lit 0)))), none⟩,
  ⟨(some k123), (.mov (.t k122)), none⟩,
  ⟨(some k124), (.fieldA 0 (.t k21)), (some (k123, true))⟩,
  ⟨(some k125), (.load false 1 (.t k124)), (some (k123, true))⟩,
  ⟨(some k126), (.bin .neq (.t k125) (.v (.int .i64 (.lit 1)))), (some (k123, true))⟩,
  ⟨(some k127), (.pick (.t k123) (.t k126) (.v (.bool false))), none⟩]
def f12r27 : List POper := [⟨(some k24), (.mov (.v (.int .i64 (.lit 9)))), none⟩]
def f12r28 : List POper := [⟨(some k128), (.mov (.t k24)), none⟩,
  ⟨(some k129), (.bin .neq (.t k128) (.v (.int .i64 (.lit 0)))), none⟩]
def f12r29 : List POper := [⟨(some k130), (.mov (.t k19)), none⟩,
  ⟨(some k131), (.mov (.t k24)), none⟩,
  ⟨(some k132), (.build [(.int .i64 (.lit 0)), (.int .i64 (.lit 0)), (.int .i64 (.lit 0))] [(0, 1, (.v (.int .i64 (.lit 2)))), (1, 1, (.t k130)), (2, 1, (.t k131))]), none⟩,
  ⟨(some k133), (.fieldA 0 (.t k17)), none⟩,
  ⟨none, (.store 3 (.t k133) (.t k132)), none⟩]
def f12r30 : List POper := [⟨(some k134), (.fieldA 1 (.t k21)), none⟩,
  ⟨(some k135), (.load false 1 (.t k134)), none⟩,
  ⟨(some k136), (.bin .neq (.t k135) (.v (.int .i64 (.lit 1)))), none⟩]
def f12r31 : List POper := [⟨(some k137), (.mov (.t k19)), none⟩,
  ⟨(some k138), (.build [(.int .i64 (.lit 0)), (.int .i64 (.lit 0)), (.int .i64 (.lit 0))] [(0, 1, (.v (.int .i64 (.lit 1)))), (1, 1, (.t k137))]), none⟩,
  ⟨(some k139), (.fieldA 0 (.t k17)), none⟩,
  ⟨none, (.store 3 (.t k139) (.t k138)), none⟩]
def f12r32 : List POper := [⟨(some k140), (.bin .add (.t k83) (.v (.int .i64 (.lit 1)))), none⟩,
  ⟨(some k83), (.mov (.t k140)), none⟩]
def f12l1 : PCode := (.seq (.ops f12r15)
 (.seq (.cond (.t k84)
 .skip
 (.exit 2))
 (.seq (.block 3 (.seq (.ops f12r16)
 (.seq (.ops f12r17)
 (.seq (.ops f12r18)
 (.seq (.seq (.ops f12r19)
 (.block 4 (.loop f12l2)))
 (.seq (.seq (.ops f12r26)
 (.cond (.t k127)
 (.ops f12r27)
 .skip))
 (.seq (.seq (.ops f12r28)
 (.cond (.t k129)
 (.seq (.ops f12r29)
 (.exit 2))
 .skip))
 (.seq (.ops f12r30)
 (.cond (.t k136)
 (.seq (.ops f12r31)
 (.exit 2))
 .skip)))))))))
 (.ops f12r32))))
def f12r33 : List POper := [⟨(some k141), (.fieldA 24 (.t k12)), none⟩,
  ⟨(some k142), (.load false 1 (.t k141)), none⟩,
  ⟨(some k143), (.lenL (.t k142)), none⟩,
  ⟨(some k144), (.mov (.v (.int .i64 (.lit 0)))), none⟩]
def f12r34 : List POper := [⟨(some k145), (.bin .lss (.t k144) (.t k143)), none⟩]
def f12r35 : List POper := [⟨(some k146), (.mov (.t k144)), none⟩,
  ⟨(some k147), (.indexL 8 (.t k142) (.t k144)), none⟩,
  ⟨(some k148), (.load true 8 (.t k147)), none⟩,
  ⟨(some k28), (.new [(.str 0 0), (.int .i64 (.lit 0)), (.str 0 0), (.int .i64 (.lit 0)), .nils, .nils, .nils, (.int .i64 (.lit 0))]), none⟩,
  ⟨(some k27), (.mov (.t k146)), none⟩,
  ⟨none, (.store 8 (.t k28) (.t k148)), none⟩]
def f12r36 : List POper := [⟨(some k150), (.mov (.t k18)), none⟩,
  ⟨(some k151), (.load true 8 (.t k28)), none⟩,
  ⟨(some k152), (.callV (.t k150) [(.t k151)]), none⟩,
  ⟨(some k149), (.mov (.t k152)), none⟩,
  ⟨(some k153), (.extract (.t k149) 0), none⟩,
  ⟨(some k154), (.extract (.t k149) 1), none⟩,
  ⟨(some k155), (.extract (.t k149) 2), none⟩,
  ⟨(some k156), (.extract (.t k149) 3), none⟩,
  ⟨(some k29), (.new [(.int .i64 (.lit 0)), (.int .i64 (.lit 0)), (.str 0 0), .nils]), none⟩,
  ⟨(some k30), (.new [(.int .i64 (.lit 0)), (.int .i64 (.lit 0)), (.int .i64 (.lit 0))]), none⟩,
  ⟨none, (.store 4 (.t k29) (.t k153)), none⟩,
  ⟨none, (.store 3 (.t k30) (.t k154)), none⟩,
  ⟨(some k31), (.mov (.t k155)), none⟩,
  ⟨(some k32), (.mov (.t k156)), none⟩]
def f12r37 : List POper := [⟨(some k157), (.mov (.t k32)), none⟩,
  ⟨(some k158), (.bin .eql (.t k157) (.v (.int .i64 (.lit 0)))), none⟩,
  ⟨(some k159), (.mov (.t k158)), none⟩,
  ⟨(some k160), (.fieldA 0 (.t k29)), (some (k159, true))⟩,
  ⟨(some k161), (.load false 1 (.t k160)), (some (k159, true))⟩,
  ⟨(some k162), (.bin .eql (.t k161) (.v (.int .i64 (.lit 1)))), (some (k159, true))⟩,
  ⟨(some k163), (.pick (.t k159) (.t k162) (.v (.bool false))), none⟩,
  ⟨(some k164), (.mov (.t k163)), none⟩,
  ⟨(some k165), (.fieldA 1 (.t k29)), (some (k164, true))⟩,
  ⟨(some k166), (.load false 1 (.t k165)), (some (k164, true))⟩,
  ⟨(some k167), (.bin .eql (.t k166) (.v (.int .i64 (.lit 1)))), (some (k164, true))⟩,
  ⟨(some k168), (.pick (.t k164) (.t k167) (.v (.bool false))), none⟩]
def f12r38 : List POper := [⟨(some k169), (.fieldA 4 (.t k17)), none⟩,
  ⟨(some k170), (.load false 1 (.t k169)), none⟩,
  ⟨(some k171), (.mov (.t k27)), none⟩,
  ⟨(some k172), (.bslice 1 1 [(.int .i64 (.lit 0))] [(0, 1, (.t k171))]), none⟩,
  ⟨(some k173), (.append 1 (.t k170) (.t k172)), none⟩,
  ⟨(some k174), (.fieldA 4 (.t k17)), none⟩,
  ⟨none, (.store 1 (.t k174) (.t k173)), none⟩]
def f12r39 : List POper := [⟨(some k175), (.bin .add (.t k144) (.v (.int .i64 (.lit 1)))), none⟩,
  ⟨(some k144), (.mov (.t k175)), none⟩]
def f12l3 : PCode := (.seq (.ops f12r34)
 (.seq (.cond (.t k145)
 .skip
 (.exit 6))
 (.seq (.block 7 (.seq (.ops f12r35)
 (.seq (.ops f12r36)
 (.seq (.ops f12r37)
 (.cond (.t k168)
 (.ops f12r38)
 .skip)))))
 (.ops f12r39))))
def f12r40 : List POper := [⟨(some k176), (.load true 6 (.t k17)), none⟩,
  ⟨none, (.store 6 (.t k10) (.t k176)), none⟩,
  ⟨(some k11), (.mov (.v (.int .i64 (.lit 0)))), none⟩]
def f12 : PFn := ⟨(.seq (.ops f12r0)
 (.seq (.ops f12r1)
 (.seq (.seq (.ops f12r2)
 (.cond (.t k40)
 (.seq (.ops f12r3)
 .ret)
 .skip))
 (.seq (.seq (.ops f12r4)
 (.cond (.t k53)
 (.seq (.ops f12r5)
 .ret)
 .skip))
 (.seq (.ops f12r6)
 (.seq (.seq (.ops f12r7)
 (.block 0 (.loop f12l0)))
 (.seq (.ops f12r12)
 (.seq (.ops f12r13)
 (.seq (.seq (.ops f12r14)
 (.block 2 (.loop f12l1)))
 (.seq (.seq (.ops f12r33)
 (.block 6 (.loop f12l3)))
 (.seq (.ops f12r40)
 .ret))))))))))),
 [.cell k10 true 6, .tmp k11]⟩
/- refuter/refuterlaw22.list -/
def f13r0 : List POper := [⟨(some k2), (.new [(.int .i64 (.lit 0)), (.int .i64 (.lit 0)), (.str 0 0), .nils]), none⟩]
def f13r1 : List POper := [⟨(some k3), (.mov (.t k0)), none⟩,
  ⟨(some k4), (.build [(.int .i64 (.lit 0)), (.int .i64 (.lit 0)), (.str 0 0), .nils] [(1, 1, (.t k3))]), none⟩,
  ⟨(some k5), (.bslice 4 1 [(.int .i64 (.lit 0)), (.int .i64 (.lit 0)), (.str 0 0), .nils] [(0, 4, (.t k4))]), none⟩,
  ⟨(some k6), (.build [(.int .i64 (.lit 0)), (.int .i64 (.lit 0)), (.str 0 0), .nils] [(0, 1, (.v (.int .i64 (.lit 2)))), (3, 1, (.t k5))]), none⟩,
  ⟨none, (.store 4 (.t k2) (.t k6)), none⟩]
def f13 : PFn := ⟨(.seq (.ops f13r0)
 (.seq (.ops f13r1)
 .ret)),
 [.cell k2 true 4]⟩
/- refuter/parser.read[refuter/api.Module] -/
def f14r0 : List POper := [⟨(some k4), (.new [.nils]), none⟩,
  ⟨(some k5), (.new [(.int .i64 (.lit 0))]), none⟩,
  ⟨(some k6), (.new [(.int .i64 (.lit 0))]), none⟩]
def f14r1 : List POper := [⟨(some k10), (.mov (.t k0)), none⟩,
  ⟨(some k11), (.callF 20 [(.t k10)]), none⟩,
  ⟨(some k9), (.mov (.t k11)), none⟩,
  ⟨(some k12), (.extract (.t k9) 0), none⟩,
  ⟨(some k13), (.extract (.t k9) 1), none⟩,
  ⟨(some k14), (.extract (.t k9) 2), none⟩,
  ⟨(some k7), (.mov (.t k12)), none⟩,
  ⟨none, (.store 1 (.t k5) (.t k13)), none⟩,
  ⟨none, (.store 1 (.t k6) (.t k14)), none⟩]
def f14r2 : List POper := [⟨(some k15), (.load false 1 (.t k6)), none⟩,
  ⟨(some k16), (.bin .neq (.t k15) (.v (.int .i64 (.lit 0)))), none⟩]
def f14r3 : List SItem := [.L 0 ⟨(some k17), (.load true 1 (.t k4)), none⟩,
  .L 1 ⟨(some k18), (.load false 1 (.t k5)), none⟩,
  .L 2 ⟨(some k19), (.load false 1 (.t k6)), none⟩,
  .H 3 ⟨none, (.store 1 (.t k4) (.t k17)), none⟩ [],
  .R [(1, ⟨(some k18), (.load false 1 (.t k5)), none⟩), (2, ⟨(some k19), (.load false 1 (.t k6)), none⟩)],
  .H 4 ⟨none, (.store 1 (.t k5) (.t k18)), none⟩ [],
  .R [(2, ⟨(some k19), (.load false 1 (.t k6)), none⟩)],
  .H 5 ⟨none, (.store 1 (.t k6) (.t k19)), none⟩ [],
  .R []]
def f14r4 : List POper := [⟨(some k20), (.mkfn 21 [] [(.t k4), (.t k5), (.t k6)]), none⟩,
  ⟨none, (.dfr (.t k20) []), none⟩]
def f14r5 : List POper := [⟨(some k21), (.mov (.t k7)), none⟩,
  ⟨(some k22), (.mov (.t k0)), none⟩,
  ⟨(some k23), (.lenS (.t k22)), none⟩,
  ⟨(some k24), (.build [.nils, (.int .i64 (.lit 0)), (.int .i64 (.lit 0))] [(0, 1, (.t k21)), (2, 1, (.t k23))]), none⟩,
  ⟨(some k25), (.box (.t k24)), none⟩,
  ⟨(some k8), (.mov (.t k25)), none⟩]
def f14r6 : List POper := [⟨(some k26), (.mov (.t k1)), none⟩,
  ⟨(some k27), (.mov (.t k8)), none⟩,
  ⟨(some k28), (.callV (.t k26) [(.t k27)]), none⟩,
  ⟨none, (.store 1 (.t k4) (.t k28)), none⟩]
def f14r7 : List SItem := [.L 0 ⟨(some k29), (.mov (.t k8)), none⟩,
  .L 1 ⟨(some k30), (.nilc (.t k29)), none⟩,
  .L 2 ⟨(some k31), (.fieldA 1 (.t k30)), none⟩,
  .L 3 ⟨(some k32), (.load false 1 (.t k31)), none⟩,
  .L 4 ⟨(some k33), (.mov (.t k8)), none⟩,
  .L 5 ⟨(some k34), (.nilc (.t k33)), none⟩,
  .L 6 ⟨(some k35), (.fieldA 0 (.t k34)), none⟩,
  .L 7 ⟨(some k36), (.load false 1 (.t k35)), none⟩,
  .L 8 ⟨(some k37), (.lenL (.t k36)), none⟩,
  .L 9 ⟨(some k38), (.bin .lss (.t k32) (.t k37)), none⟩]
def f14r8 : List POper := [⟨(some k39), (.mov (.t k8)), none⟩,
  ⟨(some k40), (.callF 22 [(.t k39)]), none⟩]
def f14r9 : List POper := [⟨(some k41), (.load true 1 (.t k4)), none⟩,
  ⟨none, (.store 1 (.t k4) (.t k41)), none⟩,
  ⟨none, (.store 1 (.t k5) (.v (.int .i64 (.lit 0)))), none⟩,
  ⟨none, (.store 1 (.t k6) (.v (.int .i64 (.lit 0)))), none⟩]
def f14 : PFn := ⟨(.seq (.ops f14r0)
 (.seq (.ops f14r1)
 (.seq (.seq (.ops f14r2)
 (.cond (.t k16)
 (.seq (.staged f14r3 ⟨[k17, k18, k19], []⟩)
 .ret)
 .skip))
 (.seq (.ops f14r4)
 (.seq (.ops f14r5)
 (.seq (.ops f14r6)
 (.seq (.seq (.staged f14r7 ⟨[k29, k30, k31, k32, k33, k34, k35, k36, k37, k38], []⟩)
 (.cond (.t k38)
 (.ops f14r8)
 .skip))
 (.seq (.ops f14r9)
 .ret)))))))),
 [.cell k4 true 1, .cell k5 false 1, .cell k6 false 1]⟩
/- (*refuter/parser.reader).module -/
def f15r0 : List POper := [⟨(some k2), (.new [.nils]), none⟩]
def f15r1 : List POper := [⟨(some k3), (.new [.nils]), none⟩]
def f15r2 : List SItem := [.L 0 ⟨(some k4), (.mov (.t k0)), none⟩,
  .L 1 ⟨(some k5), (.nilc (.t k4)), none⟩,
  .L 2 ⟨(some k6), (.fieldA 1 (.t k5)), none⟩,
  .L 3 ⟨(some k7), (.load false 1 (.t k6)), none⟩,
  .L 4 ⟨(some k8), (.mov (.t k0)), none⟩,
  .L 5 ⟨(some k9), (.nilc (.t k8)), none⟩,
  .L 6 ⟨(some k10), (.fieldA 0 (.t k9)), none⟩,
  .L 7 ⟨(some k11), (.load false 1 (.t k10)), none⟩,
  .L 8 ⟨(some k12), (.lenL (.t k11)), none⟩,
  .L 9 ⟨(some k13), (.bin .lss (.t k7) (.t k12)), none⟩]
def f15r3 : List SItem := [.L 0 ⟨(some k14), (.fieldA 0 (.t k3)), none⟩,
  .L 1 ⟨(some k15), (.load false 1 (.t k14)), none⟩,
  .L 2 ⟨(some k16), (.mov (.t k0)), none⟩,
  .H 3 ⟨(some k17), (.callF 23 [(.t k16)]), none⟩ [],
  .R [(1, ⟨(some k15), (.load false 1 (.t k14)), none⟩)],
  .A 4 ⟨(some k18), (.bslice 45 1 [(.int .i64 (.lit 0)), (.str 0 0), (.int .i64 (.lit 0)), .nils, .nils, (.int .i64 (.lit 0)), (.str 0 0), .nils, (.int .i64 (.lit 0)), (.str 0 0), (.int .i64 (.lit 0)), .nils, .nils, .nils, (.int .i64 (.lit 0)), (.int .i64 (.lit 0)), (.int .i64 (.lit 0)), (.str 0 0), .nils, .nils, .nils, (.int .i64 (.lit 0)), .nils, .nils, .nils, .nils, (.int .i64 (.lit 0)), (.str 0 0), .nils, (.int .i64 (.lit 0)), (.str 0 0), (.int .i64 (.lit 0)), .nils, .nils, .nils, (.int .i64 (.lit 0)), .nils, .nils, (.int .i64 (.lit 0)), (.str 0 0), (.int .i64 (.lit 0)), .nils, .nils, .nils, (.int .i64 (.lit 0))] [(0, 45, (.t k17))]), none⟩,
  .H 5 ⟨(some k19), (.append 45 (.t k15) (.t k18)), none⟩ [4],
  .R [],
  .L 6 ⟨(some k20), (.fieldA 0 (.t k3)), none⟩,
  .H 7 ⟨none, (.store 1 (.t k20) (.t k19)), none⟩ [4],
  .R []]
def f15l0 : PCode := (.seq (.seq (.staged f15r2 ⟨[k4, k5, k6, k7, k8, k9, k10, k11, k12, k13], []⟩)
 (.cond (.t k13)
 .skip
 (.exit 0)))
 (.block 1 (.staged f15r3 ⟨[k14, k15, k16, k17, k18, k19, k20], []⟩)))
def f15r4 : List POper := [⟨(some k21), (.load true 1 (.t k3)), none⟩,
  ⟨none, (.store 1 (.t k2) (.t k21)), none⟩]
def f15 : PFn := ⟨(.seq (.ops f15r0)
 (.seq (.ops f15r1)
 (.seq (.block 0 (.loop f15l0))
 (.seq (.ops f15r4)
 .ret)))),
 [.cell k2 true 1]⟩
/- (*refuter/parser.checker).module -/
def f16r0 : List POper := [⟨(some k3), (.box (.t k1)), none⟩]
def f16r1 : List POper := [⟨(some k6), (.mov (.t k0)), none⟩,
  ⟨(some k7), (.fieldA 0 (.t k3)), none⟩,
  ⟨(some k8), (.load false 1 (.t k7)), none⟩,
  ⟨(some k9), (.lenL (.t k8)), none⟩,
  ⟨(some k10), (.callF 24 [(.t k6), (.t k9), (.v (.int .i64 (.lit 64)))]), none⟩]
def f16r2 : List POper := [⟨(some k11), (.fieldA 0 (.t k3)), none⟩,
  ⟨(some k12), (.load false 1 (.t k11)), none⟩,
  ⟨(some k13), (.lenL (.t k12)), none⟩,
  ⟨(some k14), (.mov (.v (.int .i64 (.lit 0)))), none⟩]
def f16r3 : List POper := [⟨(some k15), (.bin .lss (.t k14) (.t k13)), none⟩]
def f16r4 : List POper := [⟨(some k16), (.indexL 45 (.t k12) (.t k14)), none⟩,
  ⟨(some k17), (.load true 45 (.t k16)), none⟩,
  ⟨(some k5), (.new [(.int .i64 (.lit 0)), (.str 0 0), (.int .i64 (.lit 0)), .nils, .nils, (.int .i64 (.lit 0)), (.str 0 0), .nils, (.int .i64 (.lit 0)), (.str 0 0), (.int .i64 (.lit 0)), .nils, .nils, .nils, (.int .i64 (.lit 0)), (.int .i64 (.lit 0)), (.int .i64 (.lit 0)), (.str 0 0), .nils, .nils, .nils, (.int .i64 (.lit 0)), .nils, .nils, .nils, .nils, (.int .i64 (.lit 0)), (.str 0 0), .nils, (.int .i64 (.lit 0)), (.str 0 0), (.int .i64 (.lit 0)), .nils, .nils, .nils, (.int .i64 (.lit 0)), .nils, .nils, (.int .i64 (.lit 0)), (.str 0 0), (.int .i64 (.lit 0)), .nils, .nils, .nils, (.int .i64 (.lit 0))]), none⟩,
  ⟨none, (.store 45 (.t k5) (.t k17)), none⟩]
def f16r5 : List POper := [⟨(some k18), (.mov (.t k0)), none⟩,
  ⟨(some k19), (.load true 45 (.t k5)), none⟩,
  ⟨(some k20), (.callF 25 [(.t k18), (.t k19)]), none⟩]
def f16r6 : List POper := [⟨(some k21), (.bin .add (.t k14) (.v (.int .i64 (.lit 1)))), none⟩,
  ⟨(some k14), (.mov (.t k21)), none⟩]
def f16l0 : PCode := (.seq (.ops f16r3)
 (.seq (.cond (.t k15)
 .skip
 (.exit 0))
 (.seq (.block 1 (.seq (.ops f16r4)
 (.ops f16r5)))
 (.ops f16r6))))
def f16 : PFn := ⟨(.seq (.ops f16r0)
 (.seq (.ops f16r1)
 (.seq (.ops f16r2)
 (.block 0 (.loop f16l0))))),
 []⟩
/- refuter/property.declared -/
def f17r0 : List POper := [⟨(some k2), (.box (.t k0)), none⟩,
  ⟨(some k4), (.new [(.int .i64 (.lit 0)), (.str 0 0), (.int .i64 (.lit 0)), .nils, .nils, (.int .i64 (.lit 0)), (.str 0 0), .nils, (.int .i64 (.lit 0)), (.str 0 0), (.int .i64 (.lit 0)), .nils, .nils, .nils, (.int .i64 (.lit 0)), (.int .i64 (.lit 0)), (.int .i64 (.lit 0)), (.str 0 0), .nils, .nils, .nils, (.int .i64 (.lit 0)), .nils, .nils, .nils, .nils, (.int .i64 (.lit 0)), (.str 0 0), .nils, (.int .i64 (.lit 0)), (.str 0 0), (.int .i64 (.lit 0)), .nils, .nils, .nils, (.int .i64 (.lit 0)), .nils, .nils, (.int .i64 (.lit 0)), (.str 0 0), (.int .i64 (.lit 0)), .nils, .nils, .nils, (.int .i64 (.lit 0))]), none⟩,
  ⟨(some k5), (.mov (.v (.bool false))), none⟩]
def f17r1 : List POper := [⟨(some k8), (.fieldA 0 (.t k2)), none⟩,
  ⟨(some k9), (.load false 1 (.t k8)), none⟩,
  ⟨(some k10), (.lenL (.t k9)), none⟩,
  ⟨(some k11), (.mov (.v (.int .i64 (.lit 0)))), none⟩]
def f17r2 : List POper := [⟨(some k12), (.bin .lss (.t k11) (.t k10)), none⟩]
def f17r3 : List POper := [⟨(some k13), (.indexL 45 (.t k9) (.t k11)), none⟩,
  ⟨(some k14), (.load true 45 (.t k13)), none⟩,
  ⟨(some k7), (.new [(.int .i64 (.lit 0)), (.str 0 0), (.int .i64 (.lit 0)), .nils, .nils, (.int .i64 (.lit 0)), (.str 0 0), .nils, (.int .i64 (.lit 0)), (.str 0 0), (.int .i64 (.lit 0)), .nils, .nils, .nils, (.int .i64 (.lit 0)), (.int .i64 (.lit 0)), (.int .i64 (.lit 0)), (.str 0 0), .nils, .nils, .nils, (.int .i64 (.lit 0)), .nils, .nils, .nils, .nils, (.int .i64 (.lit 0)), (.str 0 0), .nils, (.int .i64 (.lit 0)), (.str 0 0), (.int .i64 (.lit 0)), .nils, .nils, .nils, (.int .i64 (.lit 0)), .nils, .nils, (.int .i64 (.lit 0)), (.str 0 0), (.int .i64 (.lit 0)), .nils, .nils, .nils, (.int .i64 (.lit 0))]), none⟩,
  ⟨none, (.store 45 (.t k7) (.t k14)), none⟩]
def f17r4 : List POper := [⟨(some k15), (.fieldA 0 (.t k7)), none⟩,
  ⟨(some k16), (.load false 1 (.t k15)), none⟩,
  ⟨(some k17), (.bin .eql (.t k16) (.v (.int .i64 (.lit 3)))), none⟩,
  ⟨(some k18), (.mov (.t k17)), none⟩,
  ⟨(some k19), (.fieldA 1 (.t k7)), (some (k18, true))⟩,
  ⟨(some k20), (.load false 1 (.t k19)), (some (k18, true))⟩,
  ⟨(some k21), (.mov (.t k1)), (some (k18, true))⟩,
  ⟨(some k22), (.bin .eql (.t k20) (.t k21)), (some (k18, true))⟩,
  ⟨(some k23), (.pick (.t k18) (.t k22) (.v (.bool false))), none⟩]
def f17r5 : List POper := [⟨(some k24), (.load true 45 (.t k7)), none⟩,
  ⟨none, (.store 45 (.t k4) (.t k24)), none⟩,
  ⟨(some k5), (.mov (.v (.bool true))), none⟩]
def f17r6 : List POper := [⟨(some k25), (.bin .add (.t k11) (.v (.int .i64 (.lit 1)))), none⟩,
  ⟨(some k11), (.mov (.t k25)), none⟩]
def f17l0 : PCode := (.seq (.ops f17r2)
 (.seq (.cond (.t k12)
 .skip
 (.exit 0))
 (.seq (.block 1 (.seq (.ops f17r3)
 (.seq (.ops f17r4)
 (.cond (.t k23)
 (.seq (.ops f17r5)
 .ret)
 .skip))))
 (.ops f17r6))))
def f17r7 : List POper := [⟨(some k26), (.build [(.int .i64 (.lit 0)), (.str 0 0), (.int .i64 (.lit 0)), .nils, .nils, (.int .i64 (.lit 0)), (.str 0 0), .nils, (.int .i64 (.lit 0)), (.str 0 0), (.int .i64 (.lit 0)), .nils, .nils, .nils, (.int .i64 (.lit 0)), (.int .i64 (.lit 0)), (.int .i64 (.lit 0)), (.str 0 0), .nils, .nils, .nils, (.int .i64 (.lit 0)), .nils, .nils, .nils, .nils, (.int .i64 (.lit 0)), (.str 0 0), .nils, (.int .i64 (.lit 0)), (.str 0 0), (.int .i64 (.lit 0)), .nils, .nils, .nils, (.int .i64 (.lit 0)), .nils, .nils, (.int .i64 (.lit 0)), (.str 0 0), (.int .i64 (.lit 0)), .nils, .nils, .nils, (.int .i64 (.lit 0))] []), none⟩,
  ⟨none, (.store 45 (.t k4) (.t k26)), none⟩,
  ⟨(some k5), (.mov (.v (.bool false))), none⟩]
def f17 : PFn := ⟨(.seq (.ops f17r0)
 (.seq (.seq (.ops f17r1)
 (.block 0 (.loop f17l0)))
 (.seq (.ops f17r7)
 .ret))),
 [.cell k4 true 45, .tmp k5]⟩
/- refuter/property.Judge$1 -/
def f18r0 : List POper := [⟨(some k5), (.box (.t k0)), none⟩,
  ⟨(some k6), (.new [(.int .i64 (.lit 0)), (.int .i64 (.lit 0)), (.str 0 0), .nils]), none⟩,
  ⟨(some k7), (.new [(.int .i64 (.lit 0)), (.int .i64 (.lit 0)), (.int .i64 (.lit 0))]), none⟩,
  ⟨(some k8), (.mov (.v .nils)), none⟩,
  ⟨(some k9), (.mov (.v (.int .i64 (.lit 0)))), none⟩]
def f18r1 : List POper := [⟨(some k10), (.load true 1 (.t k1)), none⟩,
  ⟨(some k11), (.load false 1 (.t k2)), none⟩,
  ⟨(some k12), (.fieldA 1 (.t k5)), none⟩,
  ⟨(some k13), (.load true 7 (.t k12)), none⟩,
  ⟨(some k14), (.load true 2 (.t k3)), none⟩,
  ⟨(some k15), (.load true 2 (.t k4)), none⟩,
  ⟨(some k16), (.callF 19 [(.t k10), (.t k11), (.t k13), (.t k14), (.t k15)]), none⟩,
  ⟨(some k17), (.extract (.t k16) 0), none⟩,
  ⟨(some k18), (.extract (.t k16) 1), none⟩,
  ⟨(some k19), (.extract (.t k16) 2), none⟩,
  ⟨(some k20), (.extract (.t k16) 3), none⟩,
  ⟨none, (.store 4 (.t k6) (.t k17)), none⟩,
  ⟨none, (.store 3 (.t k7) (.t k18)), none⟩,
  ⟨(some k8), (.mov (.t k19)), none⟩,
  ⟨(some k9), (.mov (.t k20)), none⟩]
def f18 : PFn := ⟨(.seq (.ops f18r0)
 (.seq (.ops f18r1)
 .ret)),
 [.cell k6 true 4, .cell k7 true 3, .tmp k8, .tmp k9]⟩
/- refuter/eval.Expr -/
def f19r0 : List POper := [⟨(some k5), (.box (.t k0)), none⟩,
  ⟨(some k7), (.box (.t k2)), none⟩,
  ⟨(some k8), (.box (.t k3)), none⟩,
  ⟨(some k9), (.box (.t k4)), none⟩,
  ⟨(some k10), (.new [(.int .i64 (.lit 0)), (.int .i64 (.lit 0)), (.str 0 0), .nils]), none⟩,
  ⟨(some k11), (.new [(.int .i64 (.lit 0)), (.int .i64 (.lit 0)), (.int .i64 (.lit 0))]), none⟩,
  ⟨(some k12), (.mov (.v .nils)), none⟩,
  ⟨(some k13), (.mov (.v (.int .i64 (.lit 0)))), none⟩]
def f19r1 : List POper := [⟨(some k18), (.load true 1 (.t k5)), none⟩,
  ⟨(some k19), (.load true 2 (.t k8)), none⟩,
  ⟨(some k20), (.load true 2 (.t k9)), none⟩,
  ⟨(some k21), (.callF 26 [(.t k18), (.t k19), (.t k20)]), none⟩,
  ⟨(some k14), (.new [.nilp]), none⟩,
  ⟨none, (.store 1 (.t k14) (.t k21)), none⟩]
def f19r2 : List POper := [⟨(some k15), (.new [.nilp]), none⟩]
def f19r3 : List POper := [⟨(some k22), (.mov (.t k1)), none⟩,
  ⟨(some k23), (.lenL (.t k22)), none⟩,
  ⟨(some k24), (.mov (.v (.int .i64 (.lit 0)))), none⟩]
def f19r4 : List POper := [⟨(some k25), (.bin .lss (.t k24) (.t k23)), none⟩]
def f19r5 : List POper := [⟨(some k26), (.indexL 5 (.t k22) (.t k24)), none⟩,
  ⟨(some k27), (.load true 5 (.t k26)), none⟩,
  ⟨(some k17), (.new [(.str 0 0), (.int .i64 (.lit 0)), (.int .i64 (.lit 0)), (.str 0 0), .nils]), none⟩,
  ⟨none, (.store 5 (.t k17) (.t k27)), none⟩]
def f19r6 : List SItem := [.L 0 ⟨(some k28), (.fieldA 0 (.t k17)), none⟩,
  .L 1 ⟨(some k29), (.load false 1 (.t k28)), none⟩,
  .L 2 ⟨(some k30), (.fieldA 1 (.t k17)), none⟩,
  .L 3 ⟨(some k31), (.load true 4 (.t k30)), none⟩,
  .L 5 ⟨(some k33), (.load false 1 (.t k15)), none⟩,
  .H 4 ⟨(some k32), (.callF 27 [(.t k31)]), none⟩ [],
  .R [(1, ⟨(some k29), (.load false 1 (.t k28)), none⟩), (5, ⟨(some k33), (.load false 1 (.t k15)), none⟩)],
  .L 6 ⟨(some k34), (.build [(.str 0 0), (.int .i64 (.lit 0)), (.int .i64 (.lit 0)), (.str 0 0), .nils, (.int .i64 (.lit 0)), .nilp] [(0, 1, (.t k29)), (1, 5, (.t k32)), (6, 1, (.t k33))]), none⟩,
  .A 7 ⟨(some k35), (.box (.t k34)), none⟩,
  .H 8 ⟨none, (.store 1 (.t k15) (.t k35)), none⟩ [7],
  .R []]
def f19r7 : List POper := [⟨(some k36), (.bin .add (.t k24) (.v (.int .i64 (.lit 1)))), none⟩,
  ⟨(some k24), (.mov (.t k36)), none⟩]
def f19l0 : PCode := (.seq (.ops f19r4)
 (.seq (.cond (.t k25)
 .skip
 (.exit 0))
 (.seq (.block 1 (.seq (.ops f19r5)
 (.staged f19r6 ⟨[k28, k29, k30, k31, k32, k33, k34, k35], []⟩)))
 (.ops f19r7))))
def f19r8 : List POper := [⟨(some k37), (.load false 1 (.t k14)), none⟩,
  ⟨(some k38), (.mkfn 29 [] [(.t k14), (.t k15), (.t k7)]), none⟩,
  ⟨(some k39), (.callF 28 [(.t k37), (.t k38)]), none⟩,
  ⟨(some k40), (.extract (.t k39) 0), none⟩,
  ⟨(some k41), (.extract (.t k39) 1), none⟩,
  ⟨(some k42), (.extract (.t k39) 2), none⟩,
  ⟨(some k43), (.extract (.t k39) 3), none⟩,
  ⟨none, (.store 4 (.t k10) (.t k40)), none⟩,
  ⟨none, (.store 3 (.t k11) (.t k41)), none⟩,
  ⟨(some k12), (.mov (.t k42)), none⟩,
  ⟨(some k13), (.mov (.t k43)), none⟩]
def f19 : PFn := ⟨(.seq (.ops f19r0)
 (.seq (.ops f19r1)
 (.seq (.ops f19r2)
 (.seq (.seq (.ops f19r3)
 (.block 0 (.loop f19l0)))
 (.seq (.ops f19r8)
 .ret))))),
 [.cell k10 true 4, .cell k11 true 3, .tmp k12, .tmp k13]⟩
/- refuter/lexer.Tokens -/
def f20r0 : List POper := [⟨(some k2), (.new [.nils]), none⟩,
  ⟨(some k3), (.new [(.int .i64 (.lit 0))]), none⟩,
  ⟨(some k4), (.new [(.int .i64 (.lit 0))]), none⟩]
def f20r1 : List POper := [⟨(some k8), (.mov (.t k0)), none⟩,
  ⟨(some k9), (.lenS (.t k8)), none⟩,
  ⟨(some k10), (.bin .gtr (.t k9) (.v (.int .i64 (.lit 8192)))), none⟩]
def f20r2 : List POper := [⟨none, (.store 1 (.t k2) (.v .nils)), none⟩,
  ⟨none, (.store 1 (.t k3) (.v (.int .i64 (.lit 0)))), none⟩,
  ⟨none, (.store 1 (.t k4) (.v (.int .i64 (.lit 4)))), none⟩]
def f20r3 : List POper := [⟨(some k5), (.new [.nils]), none⟩]
def f20r4 : List POper := [⟨(some k11), (.mov (.t k0)), none⟩,
  ⟨(some k12), (.callF 31 [(.t k11)]), none⟩]
def f20r5 : List POper := [⟨(some k6), (.new [(.int .i64 (.lit 0)), (.int .i64 (.lit 0)), (.int .i64 (.lit 0)), (.str 0 0)]), none⟩,
  ⟨none, (.store 4 (.t k6) (.t k13)), none⟩]
def f20r6 : List POper := [⟨(some k7), (.mov (.t k14)), none⟩]
def f20r7 : List POper := [⟨(some k15), (.mov (.t k7)), none⟩,
  ⟨(some k16), (.bin .neq (.t k15) (.v (.int .i64 (.lit 0)))), none⟩]
def f20r8 : List SItem := [.L 0 ⟨(some k17), (.fieldA 1 (.t k6)), none⟩,
  .L 1 ⟨(some k18), (.load false 1 (.t k17)), none⟩,
  .L 2 ⟨(some k19), (.mov (.t k7)), none⟩,
  .H 3 ⟨none, (.store 1 (.t k2) (.v .nils)), none⟩ [],
  .R [(1, ⟨(some k18), (.load false 1 (.t k17)), none⟩)],
  .H 4 ⟨none, (.store 1 (.t k3) (.t k18)), none⟩ [],
  .R [],
  .H 5 ⟨none, (.store 1 (.t k4) (.t k19)), none⟩ [],
  .R []]
def f20r9 : List POper := [⟨(some k20), (.load false 1 (.t k5)), none⟩,
  ⟨(some k21), (.load true 4 (.t k6)), none⟩,
  ⟨(some k22), (.bslice 4 1 [(.int .i64 (.lit 0)), (.int .i64 (.lit 0)), (.int .i64 (.lit 0)), (.str 0 0)] [(0, 4, (.t k21))]), none⟩,
  ⟨(some k23), (.append 4 (.t k20) (.t k22)), none⟩,
  ⟨none, (.store 1 (.t k5) (.t k23)), none⟩]
def f20r10 : List POper := [⟨(some k24), (.load false 1 (.t k5)), none⟩,
  ⟨none, (.store 1 (.t k2) (.t k24)), none⟩,
  ⟨none, (.store 1 (.t k3) (.v (.int .i64 (.lit 0)))), none⟩,
  ⟨none, (.store 1 (.t k4) (.v (.int .i64 (.lit 0)))), none⟩]
def f20 : PFn := ⟨(.seq (.ops f20r0)
 (.seq (.seq (.ops f20r1)
 (.cond (.t k10)
 (.seq (.ops f20r2)
 .ret)
 .skip))
 (.seq (.ops f20r3)
 (.seq (.seq (.ops f20r4)
 (.block 0 (.rangeF (.t k12) [k13, k14] (.seq (.ops f20r5)
 (.ops f20r6)) (.block 1 (.seq (.seq (.ops f20r7)
 (.cond (.t k16)
 (.seq (.staged f20r8 ⟨[k17, k18, k19], []⟩)
 .ret)
 .skip))
 (.ops f20r9))))))
 (.seq (.ops f20r10)
 .ret))))),
 [.cell k2 false 1, .cell k3 false 1, .cell k4 false 1]⟩
/- refuter/parser.read[refuter/api.Module]$1 -/
def f21r0 : List POper := [⟨(some k7), .recover, none⟩,
  ⟨(some k3), (.mov (.t k7)), none⟩]
def f21r1 : List POper := [⟨(some k8), (.mov (.t k3)), none⟩,
  ⟨(some k9), (.eq true .iface (.t k8) (.v .nili)), none⟩]
def f21r2 : List POper := [⟨(some k11), (.mov (.t k3)), none⟩,
  ⟨(some k12), (.assert 100 (.agg [(.int .i64 (.lit 0))]) true (.t k11)), none⟩,
  ⟨(some k10), (.mov (.t k12)), none⟩,
  ⟨(some k13), (.extract (.t k10) 0), none⟩,
  ⟨(some k14), (.extract (.t k10) 1), none⟩,
  ⟨(some k4), (.new [(.int .i64 (.lit 0))]), none⟩,
  ⟨none, (.store 1 (.t k4) (.t k13)), none⟩,
  ⟨(some k5), (.mov (.t k14)), none⟩]
def f21r3 : List POper := [⟨(some k15), (.mov (.t k5)), none⟩,
  ⟨(some k16), (.un .not (.t k15)), none⟩]
def f21r4 : List POper := [⟨(some k17), (.mov (.t k3)), none⟩,
  ⟨none, (.panic (.t k17)), none⟩]
def f21r5 : List POper := [⟨(some k6), (.new [.nils]), none⟩]
def f21r6 : List SItem := [.L 0 ⟨(some k18), (.load true 1 (.t k6)), none⟩,
  .L 1 ⟨(some k19), (.fieldA 0 (.t k4)), none⟩,
  .L 2 ⟨(some k20), (.load false 1 (.t k19)), none⟩,
  .H 3 ⟨none, (.store 1 (.t k0) (.t k18)), none⟩ [],
  .R [(2, ⟨(some k20), (.load false 1 (.t k19)), none⟩)],
  .H 4 ⟨none, (.store 1 (.t k1) (.t k20)), none⟩ [],
  .R [],
  .H 5 ⟨none, (.store 1 (.t k2) (.v (.int .i64 (.lit 2)))), none⟩ [],
  .R []]
def f21 : PFn := ⟨(.seq (.ops f21r0)
 (.seq (.ops f21r1)
 (.cond (.t k9)
 (.seq (.ops f21r2)
 (.seq (.seq (.ops f21r3)
 (.cond (.t k16)
 (.ops f21r4)
 .skip))
 (.seq (.ops f21r5)
 (.staged f21r6 ⟨[k18, k19, k20], []⟩))))
 .skip))),
 []⟩
/- (*refuter/parser.reader).fail -/
def f22r0 : List POper := [⟨(some k2), (.mov (.t k0)), none⟩,
  ⟨(some k3), (.callF 32 [(.t k2)]), none⟩,
  ⟨(some k4), (.build [(.int .i64 (.lit 0))] [(0, 1, (.t k3))]), none⟩,
  ⟨(some k5), (.mkif 100 (.t k4)), none⟩,
  ⟨none, (.panic (.t k5)), none⟩]
def f22 : PFn := ⟨(.ops f22r0),
 []⟩
/- (*refuter/parser.reader).decl -/
def f23r0 : List POper := [⟨(some k2), (.new [(.int .i64 (.lit 0)), (.str 0 0), (.int .i64 (.lit 0)), .nils, .nils, (.int .i64 (.lit 0)), (.str 0 0), .nils, (.int .i64 (.lit 0)), (.str 0 0), (.int .i64 (.lit 0)), .nils, .nils, .nils, (.int .i64 (.lit 0)), (.int .i64 (.lit 0)), (.int .i64 (.lit 0)), (.str 0 0), .nils, .nils, .nils, (.int .i64 (.lit 0)), .nils, .nils, .nils, .nils, (.int .i64 (.lit 0)), (.str 0 0), .nils, (.int .i64 (.lit 0)), (.str 0 0), (.int .i64 (.lit 0)), .nils, .nils, .nils, (.int .i64 (.lit 0)), .nils, .nils, (.int .i64 (.lit 0)), (.str 0 0), (.int .i64 (.lit 0)), .nils, .nils, .nils, (.int .i64 (.lit 0))]), none⟩]
def f23r1 : List POper := [⟨(some k6), (.bslice 1 6 [(.str 0 0)] [(0, 1, (.v (.str 4 1701869940))), (1, 1, (.v (.str 3 7239014))), (2, 1, (.v (.str 3 7234919))), (3, 1, (.v (.str 4 1886351984))), (4, 1, (.v (.str 5 465557548909))), (5, 1, (.v (.str 6 120282512849267)))]), none⟩,
  ⟨(some k3), (.mov (.t k6)), none⟩]
def f23r2 : List POper := [⟨(some k7), (.mov (.t k3)), none⟩,
  ⟨(some k8), (.mov (.t k0)), none⟩,
  ⟨(some k9), (.mkfn 34 [(.t k8)] []), none⟩,
  ⟨(some k10), (.callF 33 [(.t k7), (.t k9)]), none⟩,
  ⟨(some k4), (.mov (.t k10)), none⟩]
def f23r3 : List POper := [⟨(some k11), (.mov (.t k4)), none⟩,
  ⟨(some k12), (.bin .lss (.t k11) (.v (.int .i64 (.lit 0)))), none⟩]
def f23r4 : List POper := [⟨(some k13), (.mov (.t k0)), none⟩,
  ⟨(some k14), (.callF 22 [(.t k13)]), none⟩]
def f23r5 : List POper := [⟨(some k15), (.mov (.t k4)), none⟩,
  ⟨(some k16), (.mov (.t k0)), none⟩,
  ⟨(some k17), (.callF 32 [(.t k16)]), none⟩,
  ⟨(some k18), (.build [(.int .i64 (.lit 0)), (.str 0 0), (.int .i64 (.lit 0)), .nils, .nils, (.int .i64 (.lit 0)), (.str 0 0), .nils, (.int .i64 (.lit 0)), (.str 0 0), (.int .i64 (.lit 0)), .nils, .nils, .nils, (.int .i64 (.lit 0)), (.int .i64 (.lit 0)), (.int .i64 (.lit 0)), (.str 0 0), .nils, .nils, .nils, (.int .i64 (.lit 0)), .nils, .nils, .nils, .nils, (.int .i64 (.lit 0)), (.str 0 0), .nils, (.int .i64 (.lit 0)), (.str 0 0), (.int .i64 (.lit 0)), .nils, .nils, .nils, (.int .i64 (.lit 0)), .nils, .nils, (.int .i64 (.lit 0)), (.str 0 0), (.int .i64 (.lit 0)), .nils, .nils, .nils, (.int .i64 (.lit 0))] [(0, 1, (.t k15)), (2, 1, (.t k17))]), none⟩,
  ⟨(some k5), (.new [(.int .i64 (.lit 0)), (.str 0 0), (.int .i64 (.lit 0)), .nils, .nils, (.int .i64 (.lit 0)), (.str 0 0), .nils, (.int .i64 (.lit 0)), (.str 0 0), (.int .i64 (.lit 0)), .nils, .nils, .nils, (.int .i64 (.lit 0)), (.int .i64 (.lit 0)), (.int .i64 (.lit 0)), (.str 0 0), .nils, .nils, .nils, (.int .i64 (.lit 0)), .nils, .nils, .nils, .nils, (.int .i64 (.lit 0)), (.str 0 0), .nils, (.int .i64 (.lit 0)), (.str 0 0), (.int .i64 (.lit 0)), .nils, .nils, .nils, (.int .i64 (.lit 0)), .nils, .nils, (.int .i64 (.lit 0)), (.str 0 0), (.int .i64 (.lit 0)), .nils, .nils, .nils, (.int .i64 (.lit 0))]), none⟩,
  ⟨none, (.store 45 (.t k5) (.t k18)), none⟩]
def f23r6 : List POper := [⟨(some k19), (.mov (.t k4)), none⟩,
  ⟨(some k20), (.bin .eql (.t k19) (.v (.int .i64 (.lit 0)))), none⟩]
def f23r7 : List POper := [⟨(some k21), (.mov (.t k0)), none⟩,
  ⟨(some k22), (.callF 35 [(.t k21)]), none⟩,
  ⟨(some k23), (.fieldA 1 (.t k5)), none⟩,
  ⟨none, (.store 1 (.t k23) (.t k22)), none⟩]
def f23r8 : List POper := [⟨(some k24), (.mov (.t k0)), none⟩,
  ⟨(some k25), (.callF 36 [(.t k24), (.v (.str 1 61))]), none⟩]
def f23r9 : List POper := [⟨(some k26), (.mov (.t k0)), none⟩,
  ⟨(some k27), (.mov (.t k0)), none⟩,
  ⟨(some k28), (.mkfn 38 [(.t k27)] []), none⟩,
  ⟨(some k29), (.callF 37 [(.t k26), (.v (.str 1 124)), (.t k28)]), none⟩,
  ⟨(some k30), (.fieldA 3 (.t k5)), none⟩,
  ⟨none, (.store 1 (.t k30) (.t k29)), none⟩]
def f23r10 : List POper := [⟨(some k31), (.mov (.t k0)), none⟩,
  ⟨(some k32), (.callF 36 [(.t k31), (.v (.str 1 59))]), none⟩]
def f23r11 : List POper := [⟨(some k33), (.load true 45 (.t k5)), none⟩,
  ⟨none, (.store 45 (.t k2) (.t k33)), none⟩]
def f23r12 : List POper := [⟨(some k34), (.mov (.t k0)), none⟩,
  ⟨(some k35), (.callF 39 [(.t k34)]), none⟩,
  ⟨(some k36), (.fieldA 1 (.t k5)), none⟩,
  ⟨none, (.store 1 (.t k36) (.t k35)), none⟩]
def f23r13 : List POper := [⟨(some k37), (.mov (.t k4)), none⟩]
def f23r14 : List POper := [⟨(some k39), (.bin .eql (.t k37) (.v (.int .i64 (.lit 1)))), none⟩,
  ⟨(some k38), (.mov (.t k39)), none⟩]
def f23r15 : List POper := [⟨(some k40), (.mov (.t k0)), none⟩,
  ⟨(some k41), (.callF 40 [(.t k40), (.t k5)]), none⟩]
def f23r16 : List POper := [⟨(some k42), (.mov (.t k0)), none⟩,
  ⟨(some k43), (.callF 36 [(.t k42), (.v (.str 1 61))]), none⟩]
def f23r17 : List POper := [⟨(some k44), (.mov (.t k0)), none⟩,
  ⟨(some k45), (.callF 41 [(.t k44)]), none⟩,
  ⟨(some k46), (.fieldA 8 (.t k5)), none⟩,
  ⟨none, (.store 7 (.t k46) (.t k45)), none⟩]
def f23r18 : List POper := [⟨(some k47), (.mov (.t k0)), none⟩,
  ⟨(some k48), (.callF 36 [(.t k47), (.v (.str 1 59))]), none⟩]
def f23r19 : List POper := [⟨(some k50), (.bin .eql (.t k37) (.v (.int .i64 (.lit 2)))), none⟩,
  ⟨(some k49), (.mov (.t k50)), none⟩]
def f23r20 : List POper := [⟨(some k51), (.mov (.t k0)), none⟩,
  ⟨(some k52), (.callF 40 [(.t k51), (.t k5)]), none⟩]
def f23r21 : List POper := [⟨(some k53), (.mov (.t k0)), none⟩,
  ⟨(some k54), (.callF 34 [(.t k53), (.v (.str 5 448630121828))]), none⟩]
def f23r22 : List POper := [⟨(some k55), (.mov (.t k0)), none⟩,
  ⟨(some k56), (.callF 42 [(.t k55)]), none⟩,
  ⟨(some k57), (.fieldA 15 (.t k5)), none⟩,
  ⟨none, (.store 1 (.t k57) (.t k56)), none⟩]
def f23r23 : List POper := [⟨(some k58), (.mov (.t k0)), none⟩,
  ⟨(some k59), (.callF 36 [(.t k58), (.v (.str 1 61))]), none⟩]
def f23r24 : List POper := [⟨(some k60), (.mov (.t k0)), none⟩,
  ⟨(some k61), (.callF 43 [(.t k60)]), none⟩,
  ⟨(some k62), (.fieldA 16 (.t k5)), none⟩,
  ⟨none, (.store 6 (.t k62) (.t k61)), none⟩]
def f23r25 : List POper := [⟨(some k63), (.mov (.t k0)), none⟩,
  ⟨(some k64), (.callF 36 [(.t k63), (.v (.str 1 59))]), none⟩]
def f23r26 : List POper := [⟨(some k66), (.bin .eql (.t k37) (.v (.int .i64 (.lit 3)))), none⟩,
  ⟨(some k65), (.mov (.t k66)), none⟩]
def f23r27 : List POper := [⟨(some k67), (.mov (.t k0)), none⟩,
  ⟨(some k68), (.callF 44 [(.t k67), (.t k5)]), none⟩]
def f23r28 : List POper := [⟨(some k70), (.bin .eql (.t k37) (.v (.int .i64 (.lit 4)))), none⟩,
  ⟨(some k69), (.mov (.t k70)), none⟩]
def f23r29 : List POper := [⟨(some k71), (.mov (.t k0)), none⟩,
  ⟨(some k72), (.callF 45 [(.t k71), (.t k5)]), none⟩]
def f23r30 : List POper := [⟨(some k73), (.mov (.t k0)), none⟩,
  ⟨(some k74), (.callF 36 [(.t k73), (.v (.str 1 123))]), none⟩]
def f23r31 : List POper := [⟨(some k75), (.mov (.t k0)), none⟩,
  ⟨(some k76), (.mov (.t k0)), none⟩,
  ⟨(some k77), (.mkfn 47 [(.t k76)] []), none⟩,
  ⟨(some k78), (.callF 46 [(.t k75), (.v (.str 1 125)), (.t k77)]), none⟩,
  ⟨(some k79), (.fieldA 36 (.t k5)), none⟩,
  ⟨none, (.store 1 (.t k79) (.t k78)), none⟩]
def f23r32 : List POper := [⟨(some k81), (.bin .eql (.t k37) (.v (.int .i64 (.lit 5)))), none⟩,
  ⟨(some k80), (.mov (.t k81)), none⟩]
def f23r33 : List POper := [⟨(some k82), (.mov (.t k0)), none⟩,
  ⟨(some k83), (.callF 45 [(.t k82), (.t k5)]), none⟩]
def f23r34 : List POper := [⟨(some k84), (.mov (.t k0)), none⟩,
  ⟨(some k85), (.callF 36 [(.t k84), (.v (.str 7 32199706694346098))]), none⟩]
def f23r35 : List POper := [⟨(some k86), (.mov (.t k0)), none⟩,
  ⟨(some k87), (.callF 41 [(.t k86)]), none⟩,
  ⟨(some k88), (.fieldA 38 (.t k5)), none⟩,
  ⟨none, (.store 7 (.t k88) (.t k87)), none⟩]
def f23r36 : List POper := [⟨(some k89), (.mov (.t k0)), none⟩,
  ⟨(some k90), (.callF 36 [(.t k89), (.v (.str 1 123))]), none⟩]
def f23r37 : List POper := [⟨(some k91), (.mov (.t k0)), none⟩,
  ⟨(some k92), (.mov (.t k0)), none⟩,
  ⟨(some k93), (.mkfn 49 [(.t k92)] []), none⟩,
  ⟨(some k94), (.callF 48 [(.t k91), (.v (.str 1 125)), (.t k93)]), none⟩,
  ⟨(some k95), (.fieldA 37 (.t k5)), none⟩,
  ⟨none, (.store 1 (.t k95) (.t k94)), none⟩]
def f23r38 : List POper := [⟨(some k96), (.load true 45 (.t k5)), none⟩,
  ⟨none, (.store 45 (.t k2) (.t k96)), none⟩]
def f23 : PFn := ⟨(.seq (.ops f23r0)
 (.seq (.ops f23r1)
 (.seq (.ops f23r2)
 (.seq (.seq (.ops f23r3)
 (.cond (.t k12)
 (.ops f23r4)
 .skip))
 (.seq (.ops f23r5)
 (.seq (.seq (.ops f23r6)
 (.cond (.t k20)
 (.seq (.ops f23r7)
 (.seq (.ops f23r8)
 (.seq (.ops f23r9)
 (.seq (.ops f23r10)
 (.seq (.ops f23r11)
 .ret)))))
 .skip))
 (.seq (.ops f23r12)
 (.seq (.seq (.ops f23r13)
 (.block 0 (.seq (.ops f23r14)
 (.cond (.t k38)
 (.seq (.ops f23r15)
 (.seq (.ops f23r16)
 (.seq (.ops f23r17)
 (.ops f23r18))))
 (.seq (.ops f23r19)
 (.cond (.t k49)
 (.seq (.ops f23r20)
 (.seq (.seq (.ops f23r21)
 (.cond (.t k54)
 (.ops f23r22)
 .skip))
 (.seq (.ops f23r23)
 (.seq (.ops f23r24)
 (.ops f23r25)))))
 (.seq (.ops f23r26)
 (.cond (.t k65)
 (.ops f23r27)
 (.seq (.ops f23r28)
 (.cond (.t k69)
 (.seq (.ops f23r29)
 (.seq (.ops f23r30)
 (.ops f23r31)))
 (.seq (.ops f23r32)
 (.cond (.t k80)
 (.seq (.ops f23r33)
 (.seq (.ops f23r34)
 (.seq (.ops f23r35)
 (.seq (.ops f23r36)
 (.ops f23r37)))))
 .skip))))))))))))
 (.seq (.ops f23r38)
 .ret))))))))),
 [.cell k2 true 45]⟩
/- (*refuter/parser.checker).most -/
def f24r0 : List POper := [⟨(some k6), (.mov (.t k1)), none⟩,
  ⟨(some k7), (.mov (.t k2)), none⟩,
  ⟨(some k8), (.bin .gtr (.t k6) (.t k7)), none⟩]
def f24r1 : List POper := [⟨(some k9), (.mov (.t k0)), none⟩,
  ⟨(some k10), (.nilc (.t k9)), none⟩,
  ⟨(some k11), (.fieldA 0 (.t k10)), none⟩,
  ⟨none, (.store 1 (.t k11) (.v (.bool true))), none⟩]
def f24 : PFn := ⟨(.seq (.ops f24r0)
 (.cond (.t k8)
 (.ops f24r1)
 .skip)),
 []⟩
/- (*refuter/parser.checker).decl -/
def f25r0 : List POper := [⟨(some k3), (.box (.t k1)), none⟩]
def f25r1 : List POper := [⟨(some k10), (.mov (.t k0)), none⟩,
  ⟨(some k11), (.load true 45 (.t k3)), none⟩,
  ⟨(some k12), (.callF 50 [(.t k10), (.t k11)]), none⟩]
def f25r2 : List POper := [⟨(some k13), (.fieldA 0 (.t k3)), none⟩,
  ⟨(some k14), (.load false 1 (.t k13)), none⟩]
def f25r3 : List POper := [⟨(some k18), (.bin .eql (.t k14) (.v (.int .i64 (.lit 0)))), none⟩,
  ⟨(some k17), (.mov (.t k18)), none⟩]
def f25r4 : List POper := [⟨(some k19), (.mov (.t k0)), none⟩,
  ⟨(some k20), (.fieldA 1 (.t k3)), none⟩,
  ⟨(some k21), (.load false 1 (.t k20)), none⟩,
  ⟨(some k22), (.callF 51 [(.t k19), (.t k21)]), none⟩]
def f25r5 : List POper := [⟨(some k23), (.mov (.t k0)), none⟩,
  ⟨(some k24), (.fieldA 3 (.t k3)), none⟩,
  ⟨(some k25), (.load false 1 (.t k24)), none⟩,
  ⟨(some k26), (.lenL (.t k25)), none⟩,
  ⟨(some k27), (.bin .gtr (.t k26) (.v (.int .i64 (.lit 0)))), none⟩,
  ⟨(some k28), (.callF 52 [(.t k23), (.t k27)]), none⟩]
def f25r6 : List POper := [⟨(some k29), (.mov (.t k0)), none⟩,
  ⟨(some k30), (.fieldA 3 (.t k3)), none⟩,
  ⟨(some k31), (.load false 1 (.t k30)), none⟩,
  ⟨(some k32), (.lenL (.t k31)), none⟩,
  ⟨(some k33), (.callF 24 [(.t k29), (.t k32), (.v (.int .i64 (.lit 16)))]), none⟩]
def f25r7 : List POper := [⟨(some k34), (.fieldA 3 (.t k3)), none⟩,
  ⟨(some k35), (.load false 1 (.t k34)), none⟩,
  ⟨(some k36), (.lenL (.t k35)), none⟩,
  ⟨(some k37), (.mov (.v (.int .i64 (.lit 0)))), none⟩]
def f25r8 : List POper := [⟨(some k38), (.bin .lss (.t k37) (.t k36)), none⟩]
def f25r9 : List POper := [⟨(some k39), (.indexL 2 (.t k35) (.t k37)), none⟩,
  ⟨(some k40), (.load true 2 (.t k39)), none⟩,
  ⟨(some k5), (.new [(.str 0 0), .nils]), none⟩,
  ⟨none, (.store 2 (.t k5) (.t k40)), none⟩]
def f25r10 : List POper := [⟨(some k41), (.mov (.t k0)), none⟩,
  ⟨(some k42), (.fieldA 0 (.t k5)), none⟩,
  ⟨(some k43), (.load false 1 (.t k42)), none⟩,
  ⟨(some k44), (.callF 51 [(.t k41), (.t k43)]), none⟩]
def f25r11 : List POper := [⟨(some k45), (.mov (.t k0)), none⟩,
  ⟨(some k46), (.fieldA 1 (.t k5)), none⟩,
  ⟨(some k47), (.load false 1 (.t k46)), none⟩,
  ⟨(some k48), (.lenL (.t k47)), none⟩,
  ⟨(some k49), (.callF 24 [(.t k45), (.t k48), (.v (.int .i64 (.lit 16)))]), none⟩]
def f25r12 : List POper := [⟨(some k50), (.fieldA 1 (.t k5)), none⟩,
  ⟨(some k51), (.load false 1 (.t k50)), none⟩,
  ⟨(some k52), (.lenL (.t k51)), none⟩,
  ⟨(some k53), (.mov (.v (.int .i64 (.lit 0)))), none⟩]
def f25r13 : List POper := [⟨(some k54), (.bin .lss (.t k53) (.t k52)), none⟩]
def f25r14 : List POper := [⟨(some k55), (.indexL 3 (.t k51) (.t k53)), none⟩,
  ⟨(some k56), (.load true 3 (.t k55)), none⟩,
  ⟨(some k7), (.new [(.int .i64 (.lit 0)), (.str 0 0), .nils]), none⟩,
  ⟨none, (.store 3 (.t k7) (.t k56)), none⟩]
def f25r15 : List POper := [⟨(some k57), (.mov (.t k0)), none⟩,
  ⟨(some k58), (.load true 3 (.t k7)), none⟩,
  ⟨(some k59), (.callF 53 [(.t k57), (.t k58)]), none⟩]
def f25r16 : List POper := [⟨(some k60), (.bin .add (.t k53) (.v (.int .i64 (.lit 1)))), none⟩,
  ⟨(some k53), (.mov (.t k60)), none⟩]
def f25l1 : PCode := (.seq (.ops f25r13)
 (.seq (.cond (.t k54)
 .skip
 (.exit 3))
 (.seq (.block 4 (.seq (.ops f25r14)
 (.ops f25r15)))
 (.ops f25r16))))
def f25r17 : List POper := [⟨(some k61), (.bin .add (.t k37) (.v (.int .i64 (.lit 1)))), none⟩,
  ⟨(some k37), (.mov (.t k61)), none⟩]
def f25l0 : PCode := (.seq (.ops f25r8)
 (.seq (.cond (.t k38)
 .skip
 (.exit 1))
 (.seq (.block 2 (.seq (.ops f25r9)
 (.seq (.ops f25r10)
 (.seq (.ops f25r11)
 (.seq (.ops f25r12)
 (.block 3 (.loop f25l1)))))))
 (.ops f25r17))))
def f25r18 : List POper := [⟨(some k63), (.bin .eql (.t k14) (.v (.int .i64 (.lit 1)))), none⟩,
  ⟨(some k62), (.mov (.t k63)), none⟩]
def f25r19 : List POper := [⟨(some k64), (.mov (.t k0)), none⟩,
  ⟨(some k65), (.fieldA 4 (.t k3)), none⟩,
  ⟨(some k66), (.load false 1 (.t k65)), none⟩,
  ⟨(some k67), (.callF 54 [(.t k64), (.t k66)]), none⟩]
def f25r20 : List POper := [⟨(some k68), (.mov (.t k0)), none⟩,
  ⟨(some k69), (.fieldA 5 (.t k3)), none⟩,
  ⟨(some k70), (.load true 3 (.t k69)), none⟩,
  ⟨(some k71), (.callF 53 [(.t k68), (.t k70)]), none⟩]
def f25r21 : List POper := [⟨(some k72), (.mov (.t k0)), none⟩,
  ⟨(some k73), (.fieldA 8 (.t k3)), none⟩,
  ⟨(some k74), (.load true 7 (.t k73)), none⟩,
  ⟨(some k75), (.callF 55 [(.t k72), (.t k74)]), none⟩]
def f25r22 : List POper := [⟨(some k77), (.bin .eql (.t k14) (.v (.int .i64 (.lit 2)))), none⟩,
  ⟨(some k76), (.mov (.t k77)), none⟩]
def f25r23 : List POper := [⟨(some k78), (.mov (.t k0)), none⟩,
  ⟨(some k79), (.fieldA 4 (.t k3)), none⟩,
  ⟨(some k80), (.load false 1 (.t k79)), none⟩,
  ⟨(some k81), (.callF 54 [(.t k78), (.t k80)]), none⟩]
def f25r24 : List POper := [⟨(some k82), (.mov (.t k0)), none⟩,
  ⟨(some k83), (.fieldA 5 (.t k3)), none⟩,
  ⟨(some k84), (.load true 3 (.t k83)), none⟩,
  ⟨(some k85), (.callF 53 [(.t k82), (.t k84)]), none⟩]
def f25r25 : List POper := [⟨(some k86), (.mov (.t k0)), none⟩,
  ⟨(some k87), (.fieldA 15 (.t k3)), none⟩,
  ⟨(some k88), (.load false 1 (.t k87)), none⟩,
  ⟨(some k89), (.callF 56 [(.t k86), (.t k88), (.v (.int .i64 (.lit 0))), (.v (.int .i64 (.lit 1099511627776)))]), none⟩]
def f25r26 : List POper := [⟨(some k90), (.mov (.t k0)), none⟩,
  ⟨(some k91), (.fieldA 16 (.t k3)), none⟩,
  ⟨(some k92), (.load true 6 (.t k91)), none⟩,
  ⟨(some k93), (.callF 57 [(.t k90), (.t k92)]), none⟩]
def f25r27 : List POper := [⟨(some k95), (.bin .eql (.t k14) (.v (.int .i64 (.lit 3)))), none⟩,
  ⟨(some k94), (.mov (.t k95)), none⟩]
def f25r28 : List POper := [⟨(some k96), (.mov (.t k0)), none⟩,
  ⟨(some k97), (.fieldA 22 (.t k3)), none⟩,
  ⟨(some k98), (.load false 1 (.t k97)), none⟩,
  ⟨(some k99), (.callF 58 [(.t k96), (.t k98), (.v (.bool false))]), none⟩]
def f25r29 : List POper := [⟨(some k100), (.mov (.t k0)), none⟩,
  ⟨(some k101), (.fieldA 23 (.t k3)), none⟩,
  ⟨(some k102), (.load false 1 (.t k101)), none⟩,
  ⟨(some k103), (.callF 59 [(.t k100), (.t k102)]), none⟩]
def f25r30 : List POper := [⟨(some k104), (.mov (.t k0)), none⟩,
  ⟨(some k105), (.fieldA 24 (.t k3)), none⟩,
  ⟨(some k106), (.load false 1 (.t k105)), none⟩,
  ⟨(some k107), (.callF 59 [(.t k104), (.t k106)]), none⟩]
def f25r31 : List POper := [⟨(some k108), (.mov (.t k0)), none⟩,
  ⟨(some k109), (.fieldA 25 (.t k3)), none⟩,
  ⟨(some k110), (.load false 1 (.t k109)), none⟩,
  ⟨(some k111), (.lenL (.t k110)), none⟩,
  ⟨(some k112), (.callF 24 [(.t k108), (.t k111), (.v (.int .i64 (.lit 16)))]), none⟩]
def f25r32 : List POper := [⟨(some k113), (.fieldA 25 (.t k3)), none⟩,
  ⟨(some k114), (.load false 1 (.t k113)), none⟩,
  ⟨(some k115), (.lenL (.t k114)), none⟩,
  ⟨(some k116), (.mov (.v (.int .i64 (.lit 0)))), none⟩]
def f25r33 : List POper := [⟨(some k117), (.bin .lss (.t k116) (.t k115)), none⟩]
def f25r34 : List POper := [⟨(some k118), (.indexL 3 (.t k114) (.t k116)), none⟩,
  ⟨(some k119), (.load true 3 (.t k118)), none⟩,
  ⟨(some k9), (.new [(.str 0 0), (.int .i64 (.lit 0)), (.int .i64 (.lit 0))]), none⟩,
  ⟨none, (.store 3 (.t k9) (.t k119)), none⟩]
def f25r35 : List POper := [⟨(some k120), (.mov (.t k0)), none⟩,
  ⟨(some k121), (.fieldA 0 (.t k9)), none⟩,
  ⟨(some k122), (.load false 1 (.t k121)), none⟩,
  ⟨(some k123), (.callF 60 [(.t k120), (.t k122)]), none⟩]
def f25r36 : List POper := [⟨(some k124), (.mov (.t k0)), none⟩,
  ⟨(some k125), (.fieldA 1 (.t k9)), none⟩,
  ⟨(some k126), (.load false 1 (.t k125)), none⟩,
  ⟨(some k127), (.callF 56 [(.t k124), (.t k126), (.v (.int .i64 (.lit 0))), (.v (.int .i64 (.lit 1099511627776)))]), none⟩]
def f25r37 : List POper := [⟨(some k128), (.mov (.t k0)), none⟩,
  ⟨(some k129), (.fieldA 2 (.t k9)), none⟩,
  ⟨(some k130), (.load false 1 (.t k129)), none⟩,
  ⟨(some k131), (.callF 56 [(.t k128), (.t k130), (.v (.int .i64 (.lit 0))), (.v (.int .i64 (.lit 1099511627776)))]), none⟩]
def f25r38 : List POper := [⟨(some k132), (.bin .add (.t k116) (.v (.int .i64 (.lit 1)))), none⟩,
  ⟨(some k116), (.mov (.t k132)), none⟩]
def f25l2 : PCode := (.seq (.ops f25r33)
 (.seq (.cond (.t k117)
 .skip
 (.exit 5))
 (.seq (.block 6 (.seq (.ops f25r34)
 (.seq (.ops f25r35)
 (.seq (.ops f25r36)
 (.ops f25r37)))))
 (.ops f25r38))))
def f25r39 : List POper := [⟨(some k134), (.bin .eql (.t k14) (.v (.int .i64 (.lit 4)))), none⟩,
  ⟨(some k133), (.mov (.t k134)), none⟩]
def f25r40 : List POper := [⟨(some k135), (.bin .eql (.t k14) (.v (.int .i64 (.lit 5)))), none⟩,
  ⟨(some k133), (.mov (.t k135)), none⟩]
def f25r41 : List POper := [⟨(some k136), (.mov (.t k0)), none⟩,
  ⟨(some k137), (.fieldA 26 (.t k3)), none⟩,
  ⟨(some k138), (.load true 3 (.t k137)), none⟩,
  ⟨(some k139), (.callF 53 [(.t k136), (.t k138)]), none⟩]
def f25r42 : List POper := [⟨(some k140), (.mov (.t k0)), none⟩,
  ⟨(some k141), (.fieldA 29 (.t k3)), none⟩,
  ⟨(some k142), (.load true 7 (.t k141)), none⟩,
  ⟨(some k143), (.callF 55 [(.t k140), (.t k142)]), none⟩]
def f25r43 : List POper := [⟨(some k144), (.mov (.t k0)), none⟩,
  ⟨(some k145), (.load true 45 (.t k3)), none⟩,
  ⟨(some k146), (.callF 61 [(.t k144), (.t k145)]), none⟩]
def f25r44 : List POper := [⟨(some k147), (.mov (.t k0)), none⟩,
  ⟨(some k148), (.load true 45 (.t k3)), none⟩,
  ⟨(some k149), (.callF 62 [(.t k147), (.t k148)]), none⟩]
def f25r45 : List POper := [⟨(some k15), (.mov (.t k0)), none⟩,
  ⟨(some k16), (.callF 52 [(.t k15), (.v (.bool false))]), none⟩]
def f25r46 : List POper := [⟨(some k150), (.mov (.t k0)), none⟩,
  ⟨(some k151), (.fieldA 1 (.t k3)), none⟩,
  ⟨(some k152), (.load false 1 (.t k151)), none⟩,
  ⟨(some k153), (.callF 60 [(.t k150), (.t k152)]), none⟩]
def f25 : PFn := ⟨(.seq (.ops f25r0)
 (.seq (.ops f25r1)
 (.seq (.seq (.ops f25r2)
 (.block 0 (.seq (.ops f25r3)
 (.cond (.t k17)
 (.seq (.ops f25r4)
 (.seq (.ops f25r5)
 (.seq (.ops f25r6)
 (.seq (.seq (.ops f25r7)
 (.block 1 (.loop f25l0)))
 .ret))))
 (.seq (.ops f25r18)
 (.cond (.t k62)
 (.seq (.ops f25r19)
 (.seq (.ops f25r20)
 (.ops f25r21)))
 (.seq (.ops f25r22)
 (.cond (.t k76)
 (.seq (.ops f25r23)
 (.seq (.ops f25r24)
 (.seq (.ops f25r25)
 (.ops f25r26))))
 (.seq (.ops f25r27)
 (.cond (.t k94)
 (.seq (.ops f25r28)
 (.seq (.ops f25r29)
 (.seq (.ops f25r30)
 (.seq (.ops f25r31)
 (.seq (.ops f25r32)
 (.block 5 (.loop f25l2)))))))
 (.seq (.seq (.ops f25r39)
 (.cond (.t k133)
 .skip
 (.ops f25r40)))
 (.cond (.t k133)
 (.seq (.ops f25r41)
 (.seq (.ops f25r42)
 (.seq (.ops f25r43)
 (.ops f25r44))))
 (.seq (.ops f25r45)
 .ret)))))))))))))
 (.ops f25r46)))),
 []⟩
/- refuter/eval.newRun -/
def f26r0 : List POper := [⟨(some k3), (.box (.t k0)), none⟩,
  ⟨(some k4), (.box (.t k1)), none⟩,
  ⟨(some k5), (.box (.t k2)), none⟩,
  ⟨(some k6), (.mov (.v .nilp)), none⟩]
def f26r1 : List SItem := [.A 0 ⟨(some k16), .mkmap, none⟩,
  .A 1 ⟨(some k17), .mkmap, none⟩,
  .L 3 ⟨(some k19), (.fieldA 0 (.t k4)), none⟩,
  .L 4 ⟨(some k20), (.load false 1 (.t k19)), none⟩,
  .L 5 ⟨(some k21), (.mx true (.t k20) (.v (.int .i64 (.lit 0)))), none⟩,
  .L 6 ⟨(some k22), (.mx false (.t k21) (.v (.int .i64 (.lit 1048576)))), none⟩,
  .L 7 ⟨(some k23), (.fieldA 1 (.t k4)), none⟩,
  .L 8 ⟨(some k24), (.load false 1 (.t k23)), none⟩,
  .L 9 ⟨(some k25), (.mx true (.t k24) (.v (.int .i64 (.lit 0)))), none⟩,
  .L 10 ⟨(some k26), (.mx false (.t k25) (.v (.int .i64 (.lit 1024)))), none⟩,
  .L 11 ⟨(some k27), (.load true 2 (.t k5)), none⟩,
  .H 2 ⟨(some k18), (.callF 63 []), none⟩ [],
  .R [(4, ⟨(some k20), (.load false 1 (.t k19)), none⟩), (8, ⟨(some k24), (.load false 1 (.t k23)), none⟩), (11, ⟨(some k27), (.load true 2 (.t k5)), none⟩)],
  .L 12 ⟨(some k28), (.build [.nilm, .nilm, .nilm, (.int .i64 (.lit 0)), (.int .i64 (.lit 0)), (.int .i64 (.lit 0)), (.int .i64 (.lit 0)), (.int .i64 (.lit 0)), (.int .i64 (.lit 0)), (.int .i64 (.lit 0)), (.int .i64 (.lit 0)), .nils] [(0, 1, (.t k16)), (1, 1, (.t k17)), (2, 1, (.t k18)), (3, 1, (.t k22)), (4, 1, (.t k26)), (5, 2, (.t k27))]), none⟩,
  .A 13 ⟨(some k29), (.box (.t k28)), none⟩,
  .L 14 ⟨(some k7), (.mov (.t k29)), none⟩]
def f26r2 : List POper := [⟨(some k30), (.fieldA 0 (.t k3)), none⟩,
  ⟨(some k31), (.load false 1 (.t k30)), none⟩,
  ⟨(some k32), (.lenL (.t k31)), none⟩,
  ⟨(some k33), (.mov (.v (.int .i64 (.lit 0)))), none⟩]
def f26r3 : List POper := [⟨(some k34), (.bin .lss (.t k33) (.t k32)), none⟩]
def f26r4 : List POper := [⟨(some k35), (.mov (.t k33)), none⟩,
  ⟨(some k8), (.mov (.t k35)), none⟩]
def f26r5 : List POper := [⟨(some k36), (.fieldA 0 (.t k3)), none⟩,
  ⟨(some k37), (.load false 1 (.t k36)), none⟩,
  ⟨(some k38), (.mov (.t k8)), none⟩,
  ⟨(some k39), (.indexL 45 (.t k37) (.t k38)), none⟩,
  ⟨(some k9), (.mov (.t k39)), none⟩]
def f26r6 : List POper := [⟨(some k40), (.mov (.t k9)), none⟩,
  ⟨(some k41), (.nilc (.t k40)), none⟩,
  ⟨(some k42), (.fieldA 0 (.t k41)), none⟩,
  ⟨(some k43), (.load false 1 (.t k42)), none⟩]
def f26r7 : List POper := [⟨(some k45), (.bin .eql (.t k43) (.v (.int .i64 (.lit 1)))), none⟩,
  ⟨(some k44), (.mov (.t k45)), none⟩]
def f26r8 : List SItem := [.L 0 ⟨(some k47), (.mov (.t k7)), none⟩,
  .L 1 ⟨(some k48), (.nilc (.t k47)), none⟩,
  .L 2 ⟨(some k49), (.fieldA 0 (.t k48)), none⟩,
  .L 3 ⟨(some k50), (.load false 1 (.t k49)), none⟩,
  .L 4 ⟨(some k51), (.mov (.t k9)), none⟩,
  .L 5 ⟨(some k52), (.nilc (.t k51)), none⟩,
  .L 6 ⟨(some k53), (.fieldA 1 (.t k52)), none⟩,
  .L 7 ⟨(some k54), (.load false 1 (.t k53)), none⟩,
  .L 8 ⟨(some k55), (.lookup true .nilp true (.t k50) (.t k54)), none⟩,
  .L 9 ⟨(some k46), (.mov (.t k55)), none⟩,
  .L 10 ⟨(some k56), (.extract (.t k46) 0), none⟩,
  .L 11 ⟨(some k57), (.extract (.t k46) 1), none⟩,
  .L 12 ⟨(some k10), (.mov (.t k56)), none⟩,
  .L 13 ⟨(some k11), (.mov (.t k57)), none⟩]
def f26r9 : List POper := [⟨(some k58), (.mov (.t k11)), none⟩,
  ⟨(some k59), (.un .not (.t k58)), none⟩]
def f26r10 : List SItem := [.L 0 ⟨(some k60), (.mov (.t k7)), none⟩,
  .L 1 ⟨(some k61), (.nilc (.t k60)), none⟩,
  .L 2 ⟨(some k62), (.fieldA 0 (.t k61)), none⟩,
  .L 3 ⟨(some k63), (.load false 1 (.t k62)), none⟩,
  .L 4 ⟨(some k64), (.mov (.t k9)), none⟩,
  .L 5 ⟨(some k65), (.nilc (.t k64)), none⟩,
  .L 6 ⟨(some k66), (.fieldA 1 (.t k65)), none⟩,
  .L 7 ⟨(some k67), (.load false 1 (.t k66)), none⟩,
  .L 8 ⟨(some k68), (.mov (.t k9)), none⟩,
  .H 9 ⟨none, (.mapupd true (.t k63) (.t k67) (.t k68)), none⟩ [],
  .R []]
def f26r11 : List POper := [⟨(some k70), (.bin .eql (.t k43) (.v (.int .i64 (.lit 0)))), none⟩,
  ⟨(some k69), (.mov (.t k70)), none⟩]
def f26r12 : List POper := [⟨(some k71), (.mov (.t k9)), none⟩,
  ⟨(some k72), (.nilc (.t k71)), none⟩,
  ⟨(some k73), (.fieldA 3 (.t k72)), none⟩,
  ⟨(some k74), (.load false 1 (.t k73)), none⟩,
  ⟨(some k75), (.lenL (.t k74)), none⟩,
  ⟨(some k76), (.mov (.v (.int .i64 (.lit 0)))), none⟩]
def f26r13 : List POper := [⟨(some k77), (.bin .lss (.t k76) (.t k75)), none⟩]
def f26r14 : List POper := [⟨(some k78), (.indexL 2 (.t k74) (.t k76)), none⟩,
  ⟨(some k79), (.load true 2 (.t k78)), none⟩,
  ⟨(some k13), (.new [(.str 0 0), .nils]), none⟩,
  ⟨none, (.store 2 (.t k13) (.t k79)), none⟩]
def f26r15 : List SItem := [.L 0 ⟨(some k81), (.mov (.t k7)), none⟩,
  .L 1 ⟨(some k82), (.nilc (.t k81)), none⟩,
  .L 2 ⟨(some k83), (.fieldA 1 (.t k82)), none⟩,
  .L 3 ⟨(some k84), (.load false 1 (.t k83)), none⟩,
  .L 4 ⟨(some k85), (.fieldA 0 (.t k13)), none⟩,
  .L 5 ⟨(some k86), (.load false 1 (.t k85)), none⟩,
  .L 6 ⟨(some k87), (.lookup true (.int .i64 (.lit 0)) true (.t k84) (.t k86)), none⟩,
  .L 7 ⟨(some k80), (.mov (.t k87)), none⟩,
  .L 8 ⟨(some k88), (.extract (.t k80) 0), none⟩,
  .L 9 ⟨(some k89), (.extract (.t k80) 1), none⟩,
  .L 10 ⟨(some k14), (.mov (.t k88)), none⟩,
  .L 11 ⟨(some k15), (.mov (.t k89)), none⟩]
def f26r16 : List POper := [⟨(some k90), (.mov (.t k15)), none⟩,
  ⟨(some k91), (.un .not (.t k90)), none⟩]
def f26r17 : List SItem := [.L 0 ⟨(some k92), (.mov (.t k7)), none⟩,
  .L 1 ⟨(some k93), (.nilc (.t k92)), none⟩,
  .L 2 ⟨(some k94), (.fieldA 1 (.t k93)), none⟩,
  .L 3 ⟨(some k95), (.load false 1 (.t k94)), none⟩,
  .L 4 ⟨(some k96), (.fieldA 0 (.t k13)), none⟩,
  .L 5 ⟨(some k97), (.load false 1 (.t k96)), none⟩,
  .L 6 ⟨(some k98), (.fieldA 1 (.t k13)), none⟩,
  .L 7 ⟨(some k99), (.load false 1 (.t k98)), none⟩,
  .L 8 ⟨(some k100), (.lenL (.t k99)), none⟩,
  .H 9 ⟨none, (.mapupd true (.t k95) (.t k97) (.t k100)), none⟩ [],
  .R []]
def f26r18 : List POper := [⟨(some k101), (.bin .add (.t k76) (.v (.int .i64 (.lit 1)))), none⟩,
  ⟨(some k76), (.mov (.t k101)), none⟩]
def f26l1 : PCode := (.seq (.ops f26r13)
 (.seq (.cond (.t k77)
 .skip
 (.exit 3))
 (.seq (.block 4 (.seq (.ops f26r14)
 (.seq (.staged f26r15 ⟨[k81, k82, k83, k84, k85, k86, k87, k80, k88, k89, k14, k15], []⟩)
 (.seq (.ops f26r16)
 (.cond (.t k91)
 (.staged f26r17 ⟨[k92, k93, k94, k95, k96, k97, k98, k99, k100], []⟩)
 .skip)))))
 (.ops f26r18))))
def f26r19 : List POper := [⟨(some k102), (.bin .add (.t k33) (.v (.int .i64 (.lit 1)))), none⟩,
  ⟨(some k33), (.mov (.t k102)), none⟩]
def f26l0 : PCode := (.seq (.ops f26r3)
 (.seq (.cond (.t k34)
 .skip
 (.exit 0))
 (.seq (.block 1 (.seq (.ops f26r4)
 (.seq (.ops f26r5)
 (.seq (.ops f26r6)
 (.block 2 (.seq (.ops f26r7)
 (.cond (.t k44)
 (.seq (.staged f26r8 ⟨[k47, k48, k49, k50, k51, k52, k53, k54, k55, k46, k56, k57, k10, k11], []⟩)
 (.seq (.ops f26r9)
 (.cond (.t k59)
 (.staged f26r10 ⟨[k60, k61, k62, k63, k64, k65, k66, k67, k68], []⟩)
 .skip)))
 (.seq (.ops f26r11)
 (.cond (.t k69)
 (.seq (.ops f26r12)
 (.block 3 (.loop f26l1)))
 .skip)))))))))
 (.ops f26r19))))
def f26r20 : List POper := [⟨(some k103), (.mov (.t k7)), none⟩,
  ⟨(some k6), (.mov (.t k103)), none⟩]
def f26 : PFn := ⟨(.seq (.ops f26r0)
 (.seq (.staged f26r1 ⟨[k16, k17, k18, k19, k20, k21, k22, k23, k24, k25, k26, k27, k28, k29, k7], []⟩)
 (.seq (.seq (.ops f26r2)
 (.block 0 (.loop f26l0)))
 (.seq (.ops f26r20)
 .ret)))),
 [.tmp k6]⟩
/- refuter/eval.measured -/
def f27r0 : List POper := [⟨(some k1), (.box (.t k0)), none⟩,
  ⟨(some k2), (.new [(.int .i64 (.lit 0)), (.int .i64 (.lit 0)), (.str 0 0), .nils, (.int .i64 (.lit 0))]), none⟩]
def f27r1 : List SItem := [.L 0 ⟨(some k3), (.load true 4 (.t k1)), none⟩,
  .L 1 ⟨(some k4), (.load true 4 (.t k1)), none⟩,
  .H 2 ⟨(some k5), (.callF 64 [(.t k4)]), none⟩ [],
  .R [(0, ⟨(some k3), (.load true 4 (.t k1)), none⟩)],
  .L 3 ⟨(some k6), (.build [(.int .i64 (.lit 0)), (.int .i64 (.lit 0)), (.str 0 0), .nils, (.int .i64 (.lit 0))] [(0, 4, (.t k3)), (4, 1, (.t k5))]), none⟩,
  .H 4 ⟨none, (.store 5 (.t k2) (.t k6)), none⟩ [],
  .R []]
def f27 : PFn := ⟨(.seq (.ops f27r0)
 (.seq (.staged f27r1 ⟨[k3, k4, k5, k6], []⟩)
 .ret)),
 [.cell k2 true 5]⟩
/- (*refuter/eval.run).result -/
def f28r0 : List POper := [⟨(some k2), (.box (.t k0)), none⟩,
  ⟨(some k4), (.new [(.int .i64 (.lit 0)), (.int .i64 (.lit 0)), (.str 0 0), .nils]), none⟩,
  ⟨(some k5), (.new [(.int .i64 (.lit 0)), (.int .i64 (.lit 0)), (.int .i64 (.lit 0))]), none⟩,
  ⟨(some k6), (.new [.nils]), none⟩,
  ⟨(some k7), (.new [(.int .i64 (.lit 0))]), none⟩]
def f28r1 : List POper := [⟨(some k8), (.mkfn 65 [] [(.t k2), (.t k4), (.t k5), (.t k6), (.t k7)]), none⟩,
  ⟨none, (.dfr (.t k8) []), none⟩]
def f28r2 : List POper := [⟨(some k9), (.mov (.t k1)), none⟩,
  ⟨(some k10), (.callV (.t k9) []), none⟩,
  ⟨(some k11), (.field true 0 4 (.t k10)), none⟩,
  ⟨(some k12), (.callF 66 [(.t k11)]), none⟩,
  ⟨none, (.store 4 (.t k4) (.t k12)), none⟩]
def f28r3 : List SItem := [.L 0 ⟨(some k13), (.load true 4 (.t k4)), none⟩,
  .L 1 ⟨(some k14), (.load false 1 (.t k2)), none⟩,
  .L 2 ⟨(some k15), (.nilc (.t k14)), none⟩,
  .L 3 ⟨(some k16), (.fieldA 7 (.t k15)), none⟩,
  .L 4 ⟨(some k17), (.load true 3 (.t k16)), none⟩,
  .L 5 ⟨(some k18), (.load false 1 (.t k2)), none⟩,
  .L 6 ⟨(some k19), (.nilc (.t k18)), none⟩,
  .L 7 ⟨(some k20), (.fieldA 11 (.t k19)), none⟩,
  .L 8 ⟨(some k21), (.load false 1 (.t k20)), none⟩,
  .H 9 ⟨none, (.store 4 (.t k4) (.t k13)), none⟩ [],
  .R [(1, ⟨(some k14), (.load false 1 (.t k2)), none⟩), (4, ⟨(some k17), (.load true 3 (.t k16)), none⟩), (5, ⟨(some k18), (.load false 1 (.t k2)), none⟩), (8, ⟨(some k21), (.load false 1 (.t k20)), none⟩)],
  .H 10 ⟨none, (.store 3 (.t k5) (.t k17)), none⟩ [],
  .R [(5, ⟨(some k18), (.load false 1 (.t k2)), none⟩), (8, ⟨(some k21), (.load false 1 (.t k20)), none⟩)],
  .H 11 ⟨none, (.store 1 (.t k6) (.t k21)), none⟩ [],
  .R [],
  .H 12 ⟨none, (.store 1 (.t k7) (.v (.int .i64 (.lit 0)))), none⟩ [],
  .R []]
def f28 : PFn := ⟨(.seq (.ops f28r0)
 (.seq (.ops f28r1)
 (.seq (.ops f28r2)
 (.seq (.staged f28r3 ⟨[k13, k14, k15, k16, k17, k18, k19, k20, k21], []⟩)
 .ret)))),
 [.cell k4 true 4, .cell k5 true 3, .cell k6 false 1, .cell k7 false 1]⟩
/- refuter/eval.Expr$1 -/
def f29r0 : List POper := [⟨(some k3), (.new [(.int .i64 (.lit 0)), (.int .i64 (.lit 0)), (.str 0 0), .nils, (.int .i64 (.lit 0))]), none⟩]
def f29r1 : List POper := [⟨(some k4), (.load false 1 (.t k0)), none⟩,
  ⟨(some k5), (.load false 1 (.t k1)), none⟩,
  ⟨(some k6), (.callF 30 [(.t k4), (.v (.str 0 0)), (.t k5), (.t k2)]), none⟩,
  ⟨none, (.store 5 (.t k3) (.t k6)), none⟩]
def f29 : PFn := ⟨(.seq (.ops f29r0)
 (.seq (.ops f29r1)
 .ret)),
 [.cell k3 true 5]⟩
/- (*refuter/eval.run).eval -/
def f30r0 : List POper := [⟨(some k8), (.new [(.int .i64 (.lit 0)), (.int .i64 (.lit 0)), (.str 0 0), .nils, (.int .i64 (.lit 0))]), none⟩]
def f30r1 : List SItem := [.L 0 ⟨(some k10), (.mov (.t k0)), none⟩,
  .L 1 ⟨(some k11), (.nilc (.t k10)), none⟩,
  .L 2 ⟨(some k12), (.fieldA 7 (.t k11)), none⟩,
  .L 3 ⟨(some k13), (.fieldA 0 (.t k12)), none⟩,
  .L 4 ⟨(some k14), (.load false 1 (.t k13)), none⟩,
  .L 5 ⟨(some k15), (.mov (.t k0)), none⟩,
  .L 6 ⟨(some k16), (.nilc (.t k15)), none⟩,
  .L 7 ⟨(some k17), (.fieldA 3 (.t k16)), none⟩,
  .L 8 ⟨(some k18), (.load false 1 (.t k17)), none⟩,
  .L 9 ⟨(some k19), (.bin .geq (.t k14) (.t k18)), none⟩]
def f30r2 : List POper := [⟨(some k20), (.callF 67 [(.v (.int .i64 (.lit 15)))]), none⟩]
def f30r3 : List POper := [⟨(some k21), (.mov (.t k0)), none⟩,
  ⟨(some k22), (.nilc (.t k21)), none⟩,
  ⟨(some k23), (.fieldA 7 (.t k22)), none⟩,
  ⟨(some k24), (.fieldA 0 (.t k23)), none⟩,
  ⟨(some k25), (.load false 1 (.t k24)), none⟩,
  ⟨(some k26), (.bin .add (.t k25) (.v (.int .i64 (.lit 1)))), none⟩,
  ⟨(some k27), (.nilc (.t k21)), none⟩,
  ⟨(some k28), (.fieldA 7 (.t k27)), none⟩,
  ⟨(some k29), (.fieldA 0 (.t k28)), none⟩,
  ⟨none, (.store 1 (.t k29) (.t k26)), none⟩]
def f30r4 : List POper := [⟨(some k30), (.mov (.t k0)), none⟩,
  ⟨(some k31), (.mov (.t k1)), none⟩,
  ⟨(some k32), (.mov (.t k2)), none⟩,
  ⟨(some k33), (.mov (.t k3)), none⟩,
  ⟨(some k34), (.callF 68 [(.t k30), (.t k31), (.t k32), (.t k33)]), none⟩,
  ⟨(some k9), (.new [(.int .i64 (.lit 0)), (.int .i64 (.lit 0)), (.str 0 0), .nils, (.int .i64 (.lit 0))]), none⟩,
  ⟨none, (.store 5 (.t k9) (.t k34)), none⟩]
def f30r5 : List SItem := [.L 0 ⟨(some k35), (.mov (.t k0)), none⟩,
  .L 1 ⟨(some k36), (.mov (.t k0)), none⟩,
  .L 2 ⟨(some k37), (.nilc (.t k36)), none⟩,
  .L 3 ⟨(some k38), (.fieldA 7 (.t k37)), none⟩,
  .L 4 ⟨(some k39), (.fieldA 1 (.t k38)), none⟩,
  .L 5 ⟨(some k40), (.load false 1 (.t k39)), none⟩,
  .L 6 ⟨(some k41), (.fieldA 4 (.t k9)), none⟩,
  .L 7 ⟨(some k42), (.load false 1 (.t k41)), none⟩,
  .L 8 ⟨(some k43), (.mx true (.t k40) (.t k42)), none⟩,
  .L 9 ⟨(some k44), (.nilc (.t k35)), none⟩,
  .L 10 ⟨(some k45), (.fieldA 7 (.t k44)), none⟩,
  .L 11 ⟨(some k46), (.fieldA 1 (.t k45)), none⟩,
  .H 12 ⟨none, (.store 1 (.t k46) (.t k43)), none⟩ [],
  .R []]
def f30r6 : List SItem := [.L 0 ⟨(some k47), (.fieldA 4 (.t k9)), none⟩,
  .L 1 ⟨(some k48), (.load false 1 (.t k47)), none⟩,
  .L 2 ⟨(some k49), (.mov (.t k0)), none⟩,
  .L 3 ⟨(some k50), (.nilc (.t k49)), none⟩,
  .L 4 ⟨(some k51), (.fieldA 4 (.t k50)), none⟩,
  .L 5 ⟨(some k52), (.load false 1 (.t k51)), none⟩,
  .L 6 ⟨(some k53), (.bin .gtr (.t k48) (.t k52)), none⟩,
  .L 7 ⟨(some k54), (.mov (.t k53)), none⟩,
  .L 8 ⟨(some k55), (.fieldA 0 (.t k9)), (some (k54, false))⟩,
  .L 9 ⟨(some k56), (.fieldA 0 (.t k55)), (some (k54, false))⟩,
  .L 10 ⟨(some k57), (.load false 1 (.t k56)), (some (k54, false))⟩,
  .L 11 ⟨(some k58), (.bin .eql (.t k57) (.v (.int .i64 (.lit 2)))), (some (k54, false))⟩,
  .L 12 ⟨(some k59), (.mov (.t k58)), (some (k54, false))⟩,
  .L 13 ⟨(some k60), (.fieldA 0 (.t k9)), (some (k59, true))⟩,
  .L 14 ⟨(some k61), (.fieldA 3 (.t k60)), (some (k59, true))⟩,
  .L 15 ⟨(some k62), (.load false 1 (.t k61)), (some (k59, true))⟩,
  .L 16 ⟨(some k63), (.lenL (.t k62)), (some (k59, true))⟩,
  .L 17 ⟨(some k64), (.bin .gtr (.t k63) (.v (.int .i64 (.lit 256)))), (some (k59, true))⟩,
  .L 18 ⟨(some k65), (.pick (.t k59) (.t k64) (.v (.bool false))), (some (k54, false))⟩,
  .L 19 ⟨(some k66), (.pick (.t k54) (.v (.bool true)) (.t k65)), none⟩]
def f30r7 : List POper := [⟨(some k67), (.callF 67 [(.v (.int .i64 (.lit 16)))]), none⟩]
def f30r8 : List POper := [⟨(some k68), (.load true 5 (.t k9)), none⟩,
  ⟨none, (.store 5 (.t k8) (.t k68)), none⟩]
def f30 : PFn := ⟨(.seq (.ops f30r0)
 (.seq (.seq (.staged f30r1 ⟨[k10, k11, k12, k13, k14, k15, k16, k17, k18, k19], []⟩)
 (.cond (.t k19)
 (.ops f30r2)
 .skip))
 (.seq (.ops f30r3)
 (.seq (.ops f30r4)
 (.seq (.staged f30r5 ⟨[k35, k36, k37, k38, k39, k40, k41, k42, k43, k44, k45, k46], []⟩)
 (.seq (.seq (.staged f30r6 ⟨[k47, k48, k49, k50, k51, k52, k53, k54, k55, k56, k57, k58, k59, k60, k61, k62, k63, k64, k65, k66], []⟩)
 (.cond (.t k66)
 (.ops f30r7)
 .skip))
 (.seq (.ops f30r8)
 .ret))))))),
 [.cell k8 true 5]⟩
/- refuter/lexer.tokens -/
def f31r0 : List POper := [⟨(some k1), (.box (.t k0)), none⟩,
  ⟨(some k2), (.mov (.v .nilf)), none⟩]
def f31r1 : List POper := [⟨(some k3), (.mkfn 69 [] [(.t k1)]), none⟩,
  ⟨(some k2), (.mov (.t k3)), none⟩]
def f31 : PFn := ⟨(.seq (.ops f31r0)
 (.seq (.ops f31r1)
 .ret)),
 [.tmp k2]⟩
/- (*refuter/parser.reader).offset -/
def f32r0 : List POper := [⟨(some k2), (.mov (.v (.int .i64 (.lit 0)))), none⟩]
def f32r1 : List SItem := [.L 0 ⟨(some k3), (.mov (.t k0)), none⟩,
  .L 1 ⟨(some k4), (.nilc (.t k3)), none⟩,
  .L 2 ⟨(some k5), (.fieldA 1 (.t k4)), none⟩,
  .L 3 ⟨(some k6), (.load false 1 (.t k5)), none⟩,
  .L 4 ⟨(some k7), (.mov (.t k0)), none⟩,
  .L 5 ⟨(some k8), (.nilc (.t k7)), none⟩,
  .L 6 ⟨(some k9), (.fieldA 0 (.t k8)), none⟩,
  .L 7 ⟨(some k10), (.load false 1 (.t k9)), none⟩,
  .L 8 ⟨(some k11), (.lenL (.t k10)), none⟩,
  .L 9 ⟨(some k12), (.bin .lss (.t k6) (.t k11)), none⟩]
def f32r2 : List SItem := [.L 0 ⟨(some k13), (.mov (.t k0)), none⟩,
  .L 1 ⟨(some k14), (.nilc (.t k13)), none⟩,
  .L 2 ⟨(some k15), (.fieldA 0 (.t k14)), none⟩,
  .L 3 ⟨(some k16), (.load false 1 (.t k15)), none⟩,
  .L 4 ⟨(some k17), (.mov (.t k0)), none⟩,
  .L 5 ⟨(some k18), (.nilc (.t k17)), none⟩,
  .L 6 ⟨(some k19), (.fieldA 1 (.t k18)), none⟩,
  .L 7 ⟨(some k20), (.load false 1 (.t k19)), none⟩,
  .L 8 ⟨(some k21), (.indexL 4 (.t k16) (.t k20)), none⟩,
  .L 9 ⟨(some k22), (.fieldA 1 (.t k21)), none⟩,
  .L 10 ⟨(some k23), (.load false 1 (.t k22)), none⟩,
  .L 11 ⟨(some k2), (.mov (.t k23)), none⟩]
def f32r3 : List POper := [⟨(some k24), (.mov (.t k0)), none⟩,
  ⟨(some k25), (.nilc (.t k24)), none⟩,
  ⟨(some k26), (.fieldA 2 (.t k25)), none⟩,
  ⟨(some k27), (.load false 1 (.t k26)), none⟩,
  ⟨(some k2), (.mov (.t k27)), none⟩]
def f32 : PFn := ⟨(.seq (.ops f32r0)
 (.seq (.seq (.staged f32r1 ⟨[k3, k4, k5, k6, k7, k8, k9, k10, k11, k12], []⟩)
 (.cond (.t k12)
 (.seq (.staged f32r2 ⟨[k13, k14, k15, k16, k17, k18, k19, k20, k21, k22, k23, k2], []⟩)
 .ret)
 .skip))
 (.seq (.ops f32r3)
 .ret))),
 [.tmp k2]⟩
/- slices.IndexFunc[[]string,string] -/
def f33r0 : List POper := [⟨(some k4), (.mov (.v (.int .i64 (.lit 0)))), none⟩]
def f33r1 : List POper := [⟨(some k6), (.mov (.t k0)), none⟩,
  ⟨(some k7), (.lenL (.t k6)), none⟩,
  ⟨(some k8), (.mov (.v (.int .i64 (.lit 0)))), none⟩]
def f33r2 : List POper := [⟨(some k9), (.bin .lss (.t k8) (.t k7)), none⟩]
def f33r3 : List POper := [⟨(some k10), (.mov (.t k8)), none⟩,
  ⟨(some k5), (.mov (.t k10)), none⟩]
def f33r4 : List POper := [⟨(some k11), (.mov (.t k1)), none⟩,
  ⟨(some k12), (.mov (.t k0)), none⟩,
  ⟨(some k13), (.mov (.t k5)), none⟩,
  ⟨(some k14), (.indexL 1 (.t k12) (.t k13)), none⟩,
  ⟨(some k15), (.load false 1 (.t k14)), none⟩,
  ⟨(some k16), (.callV (.t k11) [(.t k15)]), none⟩]
def f33r5 : List POper := [⟨(some k17), (.mov (.t k5)), none⟩,
  ⟨(some k4), (.mov (.t k17)), none⟩]
def f33r6 : List POper := [⟨(some k18), (.bin .add (.t k8) (.v (.int .i64 (.lit 1)))), none⟩,
  ⟨(some k8), (.mov (.t k18)), none⟩]
def f33l0 : PCode := (.seq (.ops f33r2)
 (.seq (.cond (.t k9)
 .skip
 (.exit 0))
 (.seq (.block 1 (.seq (.ops f33r3)
 (.seq (.ops f33r4)
 (.cond (.t k16)
 (.seq (.ops f33r5)
 .ret)
 .skip))))
 (.ops f33r6))))
def f33r7 : List POper := [⟨(some k4), (.mov (.v (.int .i64 (.lit (-1))))), none⟩]
def f33 : PFn := ⟨(.seq (.ops f33r0)
 (.seq (.seq (.ops f33r1)
 (.block 0 (.loop f33l0)))
 (.seq (.ops f33r7)
 .ret))),
 [.tmp k4]⟩
/- (*refuter/parser.reader).accept -/
def f34r0 : List POper := [⟨(some k4), (.mov (.v (.bool false))), none⟩]
def f34r1 : List POper := [⟨(some k5), (.mov (.t k0)), none⟩,
  ⟨(some k6), (.mov (.t k1)), none⟩,
  ⟨(some k7), (.callF 72 [(.t k5), (.t k6)]), none⟩,
  ⟨(some k8), (.un .not (.t k7)), none⟩]
def f34r2 : List POper := [⟨(some k4), (.mov (.v (.bool false))), none⟩]
def f34r3 : List POper := [⟨(some k9), (.mov (.t k0)), none⟩,
  ⟨(some k10), (.nilc (.t k9)), none⟩,
  ⟨(some k11), (.fieldA 1 (.t k10)), none⟩,
  ⟨(some k12), (.load false 1 (.t k11)), none⟩,
  ⟨(some k13), (.bin .add (.t k12) (.v (.int .i64 (.lit 1)))), none⟩,
  ⟨(some k14), (.nilc (.t k9)), none⟩,
  ⟨(some k15), (.fieldA 1 (.t k14)), none⟩,
  ⟨none, (.store 1 (.t k15) (.t k13)), none⟩]
def f34r4 : List POper := [⟨(some k4), (.mov (.v (.bool true))), none⟩]
def f34 : PFn := ⟨(.seq (.ops f34r0)
 (.seq (.seq (.ops f34r1)
 (.cond (.t k8)
 (.seq (.ops f34r2)
 .ret)
 .skip))
 (.seq (.ops f34r3)
 (.seq (.ops f34r4)
 .ret)))),
 [.tmp k4]⟩
/- (*refuter/parser.reader).capital -/
def f35r0 : List POper := [⟨(some k2), (.mov (.v (.str 0 0))), none⟩]
def f35r1 : List POper := [⟨(some k3), (.mov (.t k0)), none⟩,
  ⟨(some k4), (.callF 73 [(.t k3), (.v (.int .i64 (.lit 1)))]), none⟩,
  ⟨(some k5), (.field false 3 1 (.t k4)), none⟩,
  ⟨(some k2), (.mov (.t k5)), none⟩]
def f35 : PFn := ⟨(.seq (.ops f35r0)
 (.seq (.ops f35r1)
 .ret)),
 [.tmp k2]⟩
/- (*refuter/parser.reader).expect -/
def f36r0 : List POper := [⟨(some k4), (.mov (.t k0)), none⟩,
  ⟨(some k5), (.mov (.t k1)), none⟩,
  ⟨(some k6), (.callF 34 [(.t k4), (.t k5)]), none⟩,
  ⟨(some k7), (.un .not (.t k6)), none⟩]
def f36r1 : List POper := [⟨(some k8), (.mov (.t k0)), none⟩,
  ⟨(some k9), (.callF 22 [(.t k8)]), none⟩]
def f36 : PFn := ⟨(.seq (.ops f36r0)
 (.cond (.t k7)
 (.ops f36r1)
 .skip)),
 []⟩
/- refuter/parser.some[refuter/api.Ctor] -/
def f37r0 : List POper := [⟨(some k6), (.mov (.v .nils)), none⟩]
def f37r1 : List POper := [⟨(some k8), (.mov (.t k2)), none⟩,
  ⟨(some k9), (.callV (.t k8) []), none⟩,
  ⟨(some k10), (.bslice 2 1 [(.str 0 0), .nils] [(0, 2, (.t k9))]), none⟩,
  ⟨(some k7), (.mov (.t k10)), none⟩]
def f37r2 : List POper := [⟨(some k11), (.mov (.t k0)), none⟩,
  ⟨(some k12), (.mov (.t k1)), none⟩,
  ⟨(some k13), (.callF 34 [(.t k11), (.t k12)]), none⟩]
def f37r3 : List POper := [⟨(some k14), (.mov (.t k7)), none⟩,
  ⟨(some k15), (.mov (.t k2)), none⟩,
  ⟨(some k16), (.callV (.t k15) []), none⟩,
  ⟨(some k17), (.bslice 2 1 [(.str 0 0), .nils] [(0, 2, (.t k16))]), none⟩,
  ⟨(some k18), (.append 2 (.t k14) (.t k17)), none⟩,
  ⟨(some k7), (.mov (.t k18)), none⟩]
def f37l0 : PCode := (.seq (.seq (.ops f37r2)
 (.cond (.t k13)
 .skip
 (.exit 0)))
 (.block 1 (.ops f37r3)))
def f37r4 : List POper := [⟨(some k19), (.mov (.t k7)), none⟩,
  ⟨(some k6), (.mov (.t k19)), none⟩]
def f37 : PFn := ⟨(.seq (.ops f37r0)
 (.seq (.ops f37r1)
 (.seq (.block 0 (.loop f37l0))
 (.seq (.ops f37r4)
 .ret)))),
 [.tmp k6]⟩
/- (*refuter/parser.reader).ctor -/
def f38r0 : List POper := [⟨(some k2), (.new [(.str 0 0), .nils]), none⟩]
def f38r1 : List POper := [⟨(some k4), (.mov (.t k0)), none⟩,
  ⟨(some k5), (.callF 35 [(.t k4)]), none⟩,
  ⟨(some k6), (.build [(.str 0 0), .nils] [(0, 1, (.t k5))]), none⟩,
  ⟨(some k3), (.new [(.str 0 0), .nils]), none⟩,
  ⟨none, (.store 2 (.t k3) (.t k6)), none⟩]
def f38r2 : List POper := [⟨(some k7), (.mov (.t k0)), none⟩,
  ⟨(some k8), (.callF 34 [(.t k7), (.v (.str 1 40))]), none⟩]
def f38r3 : List POper := [⟨(some k9), (.mov (.t k0)), none⟩,
  ⟨(some k10), (.mov (.t k0)), none⟩,
  ⟨(some k11), (.mkfn 75 [(.t k10)] []), none⟩,
  ⟨(some k12), (.callF 74 [(.t k9), (.v (.str 1 44)), (.t k11)]), none⟩,
  ⟨(some k13), (.fieldA 1 (.t k3)), none⟩,
  ⟨none, (.store 1 (.t k13) (.t k12)), none⟩]
def f38r4 : List POper := [⟨(some k14), (.mov (.t k0)), none⟩,
  ⟨(some k15), (.callF 36 [(.t k14), (.v (.str 1 41))]), none⟩]
def f38r5 : List POper := [⟨(some k16), (.load true 2 (.t k3)), none⟩,
  ⟨none, (.store 2 (.t k2) (.t k16)), none⟩]
def f38 : PFn := ⟨(.seq (.ops f38r0)
 (.seq (.ops f38r1)
 (.seq (.seq (.ops f38r2)
 (.cond (.t k8)
 (.seq (.ops f38r3)
 (.ops f38r4))
 .skip))
 (.seq (.ops f38r5)
 .ret)))),
 [.cell k2 true 2]⟩
/- (*refuter/parser.reader).name -/
def f39r0 : List POper := [⟨(some k2), (.mov (.v (.str 0 0))), none⟩]
def f39r1 : List POper := [⟨(some k3), (.mov (.t k0)), none⟩,
  ⟨(some k4), (.callF 76 [(.t k3)]), none⟩,
  ⟨(some k5), (.un .not (.t k4)), none⟩]
def f39r2 : List POper := [⟨(some k6), (.mov (.t k0)), none⟩,
  ⟨(some k7), (.callF 22 [(.t k6)]), none⟩]
def f39r3 : List POper := [⟨(some k8), (.mov (.t k0)), none⟩,
  ⟨(some k9), (.callF 73 [(.t k8), (.v (.int .i64 (.lit 0)))]), none⟩,
  ⟨(some k10), (.field false 3 1 (.t k9)), none⟩,
  ⟨(some k2), (.mov (.t k10)), none⟩]
def f39 : PFn := ⟨(.seq (.ops f39r0)
 (.seq (.seq (.ops f39r1)
 (.cond (.t k5)
 (.ops f39r2)
 .skip))
 (.seq (.ops f39r3)
 .ret))),
 [.tmp k2]⟩
/- (*refuter/parser.reader).result -/
def f40r0 : List POper := [⟨(some k4), (.mov (.t k0)), none⟩,
  ⟨(some k5), (.callF 36 [(.t k4), (.v (.str 1 40))]), none⟩]
def f40r1 : List POper := [⟨(some k6), (.mov (.t k1)), none⟩,
  ⟨(some k7), (.mov (.t k0)), none⟩,
  ⟨(some k8), (.mov (.t k0)), none⟩,
  ⟨(some k9), (.mkfn 78 [(.t k8)] []), none⟩,
  ⟨(some k10), (.callF 77 [(.t k7), (.v (.str 1 41)), (.t k9)]), none⟩,
  ⟨(some k11), (.nilc (.t k6)), none⟩,
  ⟨(some k12), (.fieldA 4 (.t k11)), none⟩,
  ⟨none, (.store 1 (.t k12) (.t k10)), none⟩]
def f40r2 : List POper := [⟨(some k13), (.mov (.t k0)), none⟩,
  ⟨(some k14), (.callF 36 [(.t k13), (.v (.str 1 58))]), none⟩]
def f40r3 : List POper := [⟨(some k15), (.mov (.t k1)), none⟩,
  ⟨(some k16), (.mov (.t k0)), none⟩,
  ⟨(some k17), (.callF 75 [(.t k16)]), none⟩,
  ⟨(some k18), (.nilc (.t k15)), none⟩,
  ⟨(some k19), (.fieldA 5 (.t k18)), none⟩,
  ⟨none, (.store 3 (.t k19) (.t k17)), none⟩]
def f40 : PFn := ⟨(.seq (.ops f40r0)
 (.seq (.ops f40r1)
 (.seq (.ops f40r2)
 (.ops f40r3)))),
 []⟩
/- (*refuter/parser.reader).expr -/
def f41r0 : List POper := [⟨(some k2), (.new [(.int .i64 (.lit 0)), (.str 0 0), (.int .i64 (.lit 0)), .nils, .nils, .nils, (.int .i64 (.lit 0))]), none⟩]
def f41r1 : List POper := [⟨(some k6), (.mov (.t k0)), none⟩,
  ⟨(some k7), (.callF 32 [(.t k6)]), none⟩,
  ⟨(some k3), (.mov (.t k7)), none⟩]
def f41r2 : List POper := [⟨(some k9), (.mov (.t k0)), none⟩,
  ⟨(some k10), (.callF 34 [(.t k9), (.v (.str 2 26217))]), none⟩,
  ⟨(some k8), (.mov (.t k10)), none⟩]
def f41r3 : List POper := [⟨(some k11), (.mov (.t k3)), none⟩,
  ⟨(some k12), (.mov (.t k0)), none⟩,
  ⟨(some k13), (.callF 41 [(.t k12)]), none⟩,
  ⟨(some k14), (.bslice 7 1 [(.int .i64 (.lit 0)), (.str 0 0), (.int .i64 (.lit 0)), .nils, .nils, .nils, (.int .i64 (.lit 0))] [(0, 7, (.t k13))]), none⟩,
  ⟨(some k15), (.build [(.int .i64 (.lit 0)), (.str 0 0), (.int .i64 (.lit 0)), .nils, .nils, .nils, (.int .i64 (.lit 0))] [(0, 1, (.v (.int .i64 (.lit 6)))), (6, 1, (.t k11)), (5, 1, (.t k14))]), none⟩,
  ⟨(some k4), (.new [(.int .i64 (.lit 0)), (.str 0 0), (.int .i64 (.lit 0)), .nils, .nils, .nils, (.int .i64 (.lit 0))]), none⟩,
  ⟨none, (.store 7 (.t k4) (.t k15)), none⟩]
def f41r4 : List POper := [⟨(some k16), (.mov (.t k0)), none⟩,
  ⟨(some k17), (.callF 36 [(.t k16), (.v (.str 4 1852139636))]), none⟩]
def f41r5 : List SItem := [.L 0 ⟨(some k18), (.fieldA 5 (.t k4)), none⟩,
  .L 1 ⟨(some k19), (.load false 1 (.t k18)), none⟩,
  .L 2 ⟨(some k20), (.mov (.t k0)), none⟩,
  .H 3 ⟨(some k21), (.callF 41 [(.t k20)]), none⟩ [],
  .R [(1, ⟨(some k19), (.load false 1 (.t k18)), none⟩)],
  .A 4 ⟨(some k22), (.bslice 7 1 [(.int .i64 (.lit 0)), (.str 0 0), (.int .i64 (.lit 0)), .nils, .nils, .nils, (.int .i64 (.lit 0))] [(0, 7, (.t k21))]), none⟩,
  .H 5 ⟨(some k23), (.append 7 (.t k19) (.t k22)), none⟩ [4],
  .R [],
  .L 6 ⟨(some k24), (.fieldA 5 (.t k4)), none⟩,
  .H 7 ⟨none, (.store 1 (.t k24) (.t k23)), none⟩ [4],
  .R []]
def f41r6 : List POper := [⟨(some k25), (.mov (.t k0)), none⟩,
  ⟨(some k26), (.callF 36 [(.t k25), (.v (.str 4 1702063205))]), none⟩]
def f41r7 : List SItem := [.L 0 ⟨(some k27), (.fieldA 5 (.t k4)), none⟩,
  .L 1 ⟨(some k28), (.load false 1 (.t k27)), none⟩,
  .L 2 ⟨(some k29), (.mov (.t k0)), none⟩,
  .H 3 ⟨(some k30), (.callF 41 [(.t k29)]), none⟩ [],
  .R [(1, ⟨(some k28), (.load false 1 (.t k27)), none⟩)],
  .A 4 ⟨(some k31), (.bslice 7 1 [(.int .i64 (.lit 0)), (.str 0 0), (.int .i64 (.lit 0)), .nils, .nils, .nils, (.int .i64 (.lit 0))] [(0, 7, (.t k30))]), none⟩,
  .H 5 ⟨(some k32), (.append 7 (.t k28) (.t k31)), none⟩ [4],
  .R [],
  .L 6 ⟨(some k33), (.fieldA 5 (.t k4)), none⟩,
  .H 7 ⟨none, (.store 1 (.t k33) (.t k32)), none⟩ [4],
  .R []]
def f41r8 : List POper := [⟨(some k34), (.load true 7 (.t k4)), none⟩,
  ⟨none, (.store 7 (.t k2) (.t k34)), none⟩]
def f41r9 : List POper := [⟨(some k36), (.mov (.t k0)), none⟩,
  ⟨(some k37), (.callF 34 [(.t k36), (.v (.str 3 7628140))]), none⟩,
  ⟨(some k35), (.mov (.t k37)), none⟩]
def f41r10 : List POper := [⟨(some k38), (.mov (.t k3)), none⟩,
  ⟨(some k39), (.mov (.t k0)), none⟩,
  ⟨(some k40), (.callF 39 [(.t k39)]), none⟩,
  ⟨(some k41), (.build [(.int .i64 (.lit 0)), (.str 0 0), (.int .i64 (.lit 0)), .nils, .nils, .nils, (.int .i64 (.lit 0))] [(0, 1, (.v (.int .i64 (.lit 7)))), (6, 1, (.t k38)), (1, 1, (.t k40))]), none⟩,
  ⟨(some k5), (.new [(.int .i64 (.lit 0)), (.str 0 0), (.int .i64 (.lit 0)), .nils, .nils, .nils, (.int .i64 (.lit 0))]), none⟩,
  ⟨none, (.store 7 (.t k5) (.t k41)), none⟩]
def f41r11 : List POper := [⟨(some k42), (.mov (.t k0)), none⟩,
  ⟨(some k43), (.callF 36 [(.t k42), (.v (.str 1 61))]), none⟩]
def f41r12 : List SItem := [.L 0 ⟨(some k44), (.fieldA 5 (.t k5)), none⟩,
  .L 1 ⟨(some k45), (.load false 1 (.t k44)), none⟩,
  .L 2 ⟨(some k46), (.mov (.t k0)), none⟩,
  .H 3 ⟨(some k47), (.callF 41 [(.t k46)]), none⟩ [],
  .R [(1, ⟨(some k45), (.load false 1 (.t k44)), none⟩)],
  .A 4 ⟨(some k48), (.bslice 7 1 [(.int .i64 (.lit 0)), (.str 0 0), (.int .i64 (.lit 0)), .nils, .nils, .nils, (.int .i64 (.lit 0))] [(0, 7, (.t k47))]), none⟩,
  .H 5 ⟨(some k49), (.append 7 (.t k45) (.t k48)), none⟩ [4],
  .R [],
  .L 6 ⟨(some k50), (.fieldA 5 (.t k5)), none⟩,
  .H 7 ⟨none, (.store 1 (.t k50) (.t k49)), none⟩ [4],
  .R []]
def f41r13 : List POper := [⟨(some k51), (.mov (.t k0)), none⟩,
  ⟨(some k52), (.callF 36 [(.t k51), (.v (.str 2 28265))]), none⟩]
def f41r14 : List SItem := [.L 0 ⟨(some k53), (.fieldA 5 (.t k5)), none⟩,
  .L 1 ⟨(some k54), (.load false 1 (.t k53)), none⟩,
  .L 2 ⟨(some k55), (.mov (.t k0)), none⟩,
  .H 3 ⟨(some k56), (.callF 41 [(.t k55)]), none⟩ [],
  .R [(1, ⟨(some k54), (.load false 1 (.t k53)), none⟩)],
  .A 4 ⟨(some k57), (.bslice 7 1 [(.int .i64 (.lit 0)), (.str 0 0), (.int .i64 (.lit 0)), .nils, .nils, .nils, (.int .i64 (.lit 0))] [(0, 7, (.t k56))]), none⟩,
  .H 5 ⟨(some k58), (.append 7 (.t k54) (.t k57)), none⟩ [4],
  .R [],
  .L 6 ⟨(some k59), (.fieldA 5 (.t k5)), none⟩,
  .H 7 ⟨none, (.store 1 (.t k59) (.t k58)), none⟩ [4],
  .R []]
def f41r15 : List POper := [⟨(some k60), (.load true 7 (.t k5)), none⟩,
  ⟨none, (.store 7 (.t k2) (.t k60)), none⟩]
def f41r16 : List POper := [⟨(some k62), (.mov (.t k0)), none⟩,
  ⟨(some k63), (.callF 34 [(.t k62), (.v (.str 5 448345170285))]), none⟩,
  ⟨(some k61), (.mov (.t k63)), none⟩]
def f41r17 : List POper := [⟨(some k64), (.mov (.t k0)), none⟩,
  ⟨(some k65), (.mov (.t k3)), none⟩,
  ⟨(some k66), (.callF 79 [(.t k64), (.t k65)]), none⟩,
  ⟨none, (.store 7 (.t k2) (.t k66)), none⟩]
def f41r18 : List POper := [⟨(some k67), (.mov (.t k0)), none⟩,
  ⟨(some k68), (.callF 80 [(.t k67)]), none⟩,
  ⟨none, (.store 7 (.t k2) (.t k68)), none⟩]
def f41 : PFn := ⟨(.seq (.ops f41r0)
 (.seq (.ops f41r1)
 (.seq (.block 0 (.seq (.ops f41r2)
 (.cond (.t k8)
 (.seq (.ops f41r3)
 (.seq (.ops f41r4)
 (.seq (.staged f41r5 ⟨[k18, k19, k20, k21, k22, k23, k24], []⟩)
 (.seq (.ops f41r6)
 (.seq (.staged f41r7 ⟨[k27, k28, k29, k30, k31, k32, k33], []⟩)
 (.seq (.ops f41r8)
 .ret))))))
 (.seq (.ops f41r9)
 (.cond (.t k35)
 (.seq (.ops f41r10)
 (.seq (.ops f41r11)
 (.seq (.staged f41r12 ⟨[k44, k45, k46, k47, k48, k49, k50], []⟩)
 (.seq (.ops f41r13)
 (.seq (.staged f41r14 ⟨[k53, k54, k55, k56, k57, k58, k59], []⟩)
 (.seq (.ops f41r15)
 .ret))))))
 (.seq (.ops f41r16)
 (.cond (.t k61)
 (.seq (.ops f41r17)
 .ret)
 .skip)))))))
 (.seq (.ops f41r18)
 .ret)))),
 [.cell k2 true 7]⟩
/- (*refuter/parser.reader).number -/
def f42r0 : List POper := [⟨(some k2), (.mov (.v (.int .i64 (.lit 0)))), none⟩]
def f42r1 : List POper := [⟨(some k3), (.mov (.t k0)), none⟩,
  ⟨(some k4), (.callF 73 [(.t k3), (.v (.int .i64 (.lit 2)))]), none⟩,
  ⟨(some k5), (.field false 2 1 (.t k4)), none⟩,
  ⟨(some k2), (.mov (.t k5)), none⟩]
def f42 : PFn := ⟨(.seq (.ops f42r0)
 (.seq (.ops f42r1)
 .ret)),
 [.tmp k2]⟩
/- (*refuter/parser.reader).gen -/
def f43r0 : List POper := [⟨(some k2), (.new [(.int .i64 (.lit 0)), (.str 0 0), .nils, .nils, .nils, (.int .i64 (.lit 0))]), none⟩]
def f43r1 : List POper := [⟨(some k7), (.mov (.t k0)), none⟩,
  ⟨(some k8), (.callF 32 [(.t k7)]), none⟩,
  ⟨(some k3), (.mov (.t k8)), none⟩]
def f43r2 : List POper := [⟨(some k9), (.mov (.t k0)), none⟩,
  ⟨(some k10), (.callF 34 [(.t k9), (.v (.str 3 7628140))]), none⟩]
def f43r3 : List POper := [⟨(some k11), (.mov (.t k3)), none⟩,
  ⟨(some k12), (.mov (.t k0)), none⟩,
  ⟨(some k13), (.callF 39 [(.t k12)]), none⟩,
  ⟨(some k14), (.build [(.int .i64 (.lit 0)), (.str 0 0), .nils, .nils, .nils, (.int .i64 (.lit 0))] [(0, 1, (.v (.int .i64 (.lit 5)))), (5, 1, (.t k11)), (1, 1, (.t k13))]), none⟩,
  ⟨(some k4), (.new [(.int .i64 (.lit 0)), (.str 0 0), .nils, .nils, .nils, (.int .i64 (.lit 0))]), none⟩,
  ⟨none, (.store 6 (.t k4) (.t k14)), none⟩]
def f43r4 : List POper := [⟨(some k15), (.mov (.t k0)), none⟩,
  ⟨(some k16), (.callF 36 [(.t k15), (.v (.str 2 11580))]), none⟩]
def f43r5 : List SItem := [.L 0 ⟨(some k17), (.fieldA 4 (.t k4)), none⟩,
  .L 1 ⟨(some k18), (.load false 1 (.t k17)), none⟩,
  .L 2 ⟨(some k19), (.mov (.t k0)), none⟩,
  .H 3 ⟨(some k20), (.callF 43 [(.t k19)]), none⟩ [],
  .R [(1, ⟨(some k18), (.load false 1 (.t k17)), none⟩)],
  .A 4 ⟨(some k21), (.bslice 6 1 [(.int .i64 (.lit 0)), (.str 0 0), .nils, .nils, .nils, (.int .i64 (.lit 0))] [(0, 6, (.t k20))]), none⟩,
  .H 5 ⟨(some k22), (.append 6 (.t k18) (.t k21)), none⟩ [4],
  .R [],
  .L 6 ⟨(some k23), (.fieldA 4 (.t k4)), none⟩,
  .H 7 ⟨none, (.store 1 (.t k23) (.t k22)), none⟩ [4],
  .R []]
def f43r6 : List POper := [⟨(some k24), (.mov (.t k0)), none⟩,
  ⟨(some k25), (.callF 36 [(.t k24), (.v (.str 2 28265))]), none⟩]
def f43r7 : List SItem := [.L 0 ⟨(some k26), (.fieldA 4 (.t k4)), none⟩,
  .L 1 ⟨(some k27), (.load false 1 (.t k26)), none⟩,
  .L 2 ⟨(some k28), (.mov (.t k0)), none⟩,
  .H 3 ⟨(some k29), (.callF 43 [(.t k28)]), none⟩ [],
  .R [(1, ⟨(some k27), (.load false 1 (.t k26)), none⟩)],
  .A 4 ⟨(some k30), (.bslice 6 1 [(.int .i64 (.lit 0)), (.str 0 0), .nils, .nils, .nils, (.int .i64 (.lit 0))] [(0, 6, (.t k29))]), none⟩,
  .H 5 ⟨(some k31), (.append 6 (.t k27) (.t k30)), none⟩ [4],
  .R [],
  .L 6 ⟨(some k32), (.fieldA 4 (.t k4)), none⟩,
  .H 7 ⟨none, (.store 1 (.t k32) (.t k31)), none⟩ [4],
  .R []]
def f43r8 : List POper := [⟨(some k33), (.load true 6 (.t k4)), none⟩,
  ⟨none, (.store 6 (.t k2) (.t k33)), none⟩]
def f43r9 : List POper := [⟨(some k34), (.mov (.t k0)), none⟩,
  ⟨(some k35), (.callF 81 [(.t k34)]), none⟩,
  ⟨(some k5), (.new [(.int .i64 (.lit 0)), (.str 0 0), .nils, .nils, .nils, (.int .i64 (.lit 0))]), none⟩,
  ⟨none, (.store 6 (.t k5) (.t k35)), none⟩]
def f43r10 : List POper := [⟨(some k36), (.mov (.t k0)), none⟩,
  ⟨(some k37), (.callF 34 [(.t k36), (.v (.str 5 435710945399))]), none⟩]
def f43r11 : List SItem := [.L 0 ⟨(some k38), (.mov (.t k3)), none⟩,
  .L 1 ⟨(some k39), (.mov (.t k0)), none⟩,
  .L 3 ⟨(some k41), (.load true 6 (.t k5)), none⟩,
  .A 4 ⟨(some k42), (.bslice 6 1 [(.int .i64 (.lit 0)), (.str 0 0), .nils, .nils, .nils, (.int .i64 (.lit 0))] [(0, 6, (.t k41))]), none⟩,
  .A 6 ⟨(some k6), (.new [(.int .i64 (.lit 0)), (.str 0 0), .nils, .nils, .nils, (.int .i64 (.lit 0))]), none⟩,
  .H 2 ⟨(some k40), (.callF 39 [(.t k39)]), none⟩ [],
  .R [(3, ⟨(some k41), (.load true 6 (.t k5)), none⟩)],
  .L 5 ⟨(some k43), (.build [(.int .i64 (.lit 0)), (.str 0 0), .nils, .nils, .nils, (.int .i64 (.lit 0))] [(0, 1, (.v (.int .i64 (.lit 6)))), (5, 1, (.t k38)), (1, 1, (.t k40)), (4, 1, (.t k42))]), none⟩,
  .H 7 ⟨none, (.store 6 (.t k6) (.t k43)), none⟩ [4, 6],
  .R []]
def f43r12 : List POper := [⟨(some k44), (.mov (.t k0)), none⟩,
  ⟨(some k45), (.callF 36 [(.t k44), (.v (.str 1 58))]), none⟩]
def f43r13 : List POper := [⟨(some k46), (.mov (.t k0)), none⟩,
  ⟨(some k47), (.callF 41 [(.t k46)]), none⟩,
  ⟨(some k48), (.bslice 7 1 [(.int .i64 (.lit 0)), (.str 0 0), (.int .i64 (.lit 0)), .nils, .nils, .nils, (.int .i64 (.lit 0))] [(0, 7, (.t k47))]), none⟩,
  ⟨(some k49), (.fieldA 3 (.t k6)), none⟩,
  ⟨none, (.store 1 (.t k49) (.t k48)), none⟩]
def f43r14 : List POper := [⟨(some k50), (.load true 6 (.t k6)), none⟩,
  ⟨none, (.store 6 (.t k5) (.t k50)), none⟩]
def f43l0 : PCode := (.seq (.seq (.ops f43r10)
 (.cond (.t k37)
 .skip
 (.exit 0)))
 (.block 1 (.seq (.staged f43r11 ⟨[k38, k39, k40, k41, k42, k43, k6], []⟩)
 (.seq (.ops f43r12)
 (.seq (.ops f43r13)
 (.ops f43r14))))))
def f43r15 : List POper := [⟨(some k51), (.load true 6 (.t k5)), none⟩,
  ⟨none, (.store 6 (.t k2) (.t k51)), none⟩]
def f43 : PFn := ⟨(.seq (.ops f43r0)
 (.seq (.ops f43r1)
 (.seq (.seq (.ops f43r2)
 (.cond (.t k10)
 (.seq (.ops f43r3)
 (.seq (.ops f43r4)
 (.seq (.staged f43r5 ⟨[k17, k18, k19, k20, k21, k22, k23], []⟩)
 (.seq (.ops f43r6)
 (.seq (.staged f43r7 ⟨[k26, k27, k28, k29, k30, k31, k32], []⟩)
 (.seq (.ops f43r8)
 .ret))))))
 .skip))
 (.seq (.ops f43r9)
 (.seq (.block 0 (.loop f43l0))
 (.seq (.ops f43r15)
 .ret)))))),
 [.cell k2 true 6]⟩
/- (*refuter/parser.reader).prop -/
def f44r0 : List POper := [⟨(some k5), (.mov (.t k0)), none⟩,
  ⟨(some k6), (.callF 36 [(.t k5), (.v (.str 1 40))]), none⟩]
def f44r1 : List POper := [⟨(some k7), (.mov (.t k1)), none⟩,
  ⟨(some k8), (.mov (.t k0)), none⟩,
  ⟨(some k9), (.mov (.t k0)), none⟩,
  ⟨(some k10), (.mkfn 83 [(.t k9)] []), none⟩,
  ⟨(some k11), (.callF 82 [(.t k8), (.v (.str 1 41)), (.t k10)]), none⟩,
  ⟨(some k12), (.nilc (.t k7)), none⟩,
  ⟨(some k13), (.fieldA 22 (.t k12)), none⟩,
  ⟨none, (.store 1 (.t k13) (.t k11)), none⟩]
def f44r2 : List POper := [⟨(some k14), (.mov (.t k0)), none⟩,
  ⟨(some k15), (.callF 36 [(.t k14), (.v (.str 1 123))]), none⟩]
def f44r3 : List POper := [⟨(some k16), (.mov (.t k0)), none⟩,
  ⟨(some k17), (.callF 34 [(.t k16), (.v (.str 1 125))]), none⟩,
  ⟨(some k18), (.un .not (.t k17)), none⟩]
def f44r4 : List POper := [⟨(some k42), (.mov (.t k0)), none⟩,
  ⟨(some k43), (.callF 34 [(.t k42), (.v (.str 5 461229090915))]), none⟩,
  ⟨(some k41), (.mov (.t k43)), none⟩]
def f44r5 : List SItem := [.L 0 ⟨(some k44), (.mov (.t k1)), none⟩,
  .L 1 ⟨(some k45), (.mov (.t k1)), none⟩,
  .L 2 ⟨(some k46), (.nilc (.t k45)), none⟩,
  .L 3 ⟨(some k47), (.fieldA 23 (.t k46)), none⟩,
  .L 4 ⟨(some k48), (.load false 1 (.t k47)), none⟩,
  .L 5 ⟨(some k49), (.mov (.t k0)), none⟩,
  .H 6 ⟨(some k50), (.callF 84 [(.t k49)]), none⟩ [],
  .R [(4, ⟨(some k48), (.load false 1 (.t k47)), none⟩)],
  .A 7 ⟨(some k51), (.bslice 8 1 [(.str 0 0), (.int .i64 (.lit 0)), (.str 0 0), (.int .i64 (.lit 0)), .nils, .nils, .nils, (.int .i64 (.lit 0))] [(0, 8, (.t k50))]), none⟩,
  .H 8 ⟨(some k52), (.append 8 (.t k48) (.t k51)), none⟩ [7],
  .R [],
  .L 9 ⟨(some k53), (.nilc (.t k44)), none⟩,
  .L 10 ⟨(some k54), (.fieldA 23 (.t k53)), none⟩,
  .H 11 ⟨none, (.store 1 (.t k54) (.t k52)), none⟩ [7],
  .R []]
def f44r6 : List POper := [⟨(some k56), (.mov (.t k0)), none⟩,
  ⟨(some k57), (.callF 34 [(.t k56), (.v (.str 5 495857003619))]), none⟩,
  ⟨(some k55), (.mov (.t k57)), none⟩]
def f44r7 : List SItem := [.L 0 ⟨(some k58), (.mov (.t k1)), none⟩,
  .L 1 ⟨(some k59), (.mov (.t k1)), none⟩,
  .L 2 ⟨(some k60), (.nilc (.t k59)), none⟩,
  .L 3 ⟨(some k61), (.fieldA 24 (.t k60)), none⟩,
  .L 4 ⟨(some k62), (.load false 1 (.t k61)), none⟩,
  .L 5 ⟨(some k63), (.mov (.t k0)), none⟩,
  .H 6 ⟨(some k64), (.callF 84 [(.t k63)]), none⟩ [],
  .R [(4, ⟨(some k62), (.load false 1 (.t k61)), none⟩)],
  .A 7 ⟨(some k65), (.bslice 8 1 [(.str 0 0), (.int .i64 (.lit 0)), (.str 0 0), (.int .i64 (.lit 0)), .nils, .nils, .nils, (.int .i64 (.lit 0))] [(0, 8, (.t k64))]), none⟩,
  .H 8 ⟨(some k66), (.append 8 (.t k62) (.t k65)), none⟩ [7],
  .R [],
  .L 9 ⟨(some k67), (.nilc (.t k58)), none⟩,
  .L 10 ⟨(some k68), (.fieldA 24 (.t k67)), none⟩,
  .H 11 ⟨none, (.store 1 (.t k68) (.t k66)), none⟩ [7],
  .R []]
def f44r8 : List POper := [⟨(some k19), (.mov (.t k0)), none⟩,
  ⟨(some k20), (.callF 36 [(.t k19), (.v (.str 5 469919427683))]), none⟩]
def f44r9 : List POper := [⟨(some k21), (.mov (.t k0)), none⟩,
  ⟨(some k22), (.callF 39 [(.t k21)]), none⟩,
  ⟨(some k23), (.mov (.t k0)), none⟩,
  ⟨(some k24), (.callF 42 [(.t k23)]), none⟩,
  ⟨(some k25), (.build [(.str 0 0), (.int .i64 (.lit 0)), (.int .i64 (.lit 0))] [(0, 1, (.t k22)), (1, 1, (.t k24))]), none⟩,
  ⟨(some k4), (.new [(.str 0 0), (.int .i64 (.lit 0)), (.int .i64 (.lit 0))]), none⟩,
  ⟨none, (.store 3 (.t k4) (.t k25)), none⟩]
def f44r10 : List POper := [⟨(some k26), (.mov (.t k0)), none⟩,
  ⟨(some k27), (.callF 36 [(.t k26), (.v (.str 1 47))]), none⟩]
def f44r11 : List POper := [⟨(some k28), (.mov (.t k0)), none⟩,
  ⟨(some k29), (.callF 42 [(.t k28)]), none⟩,
  ⟨(some k30), (.fieldA 2 (.t k4)), none⟩,
  ⟨none, (.store 1 (.t k30) (.t k29)), none⟩]
def f44r12 : List SItem := [.L 0 ⟨(some k31), (.mov (.t k1)), none⟩,
  .L 1 ⟨(some k32), (.mov (.t k1)), none⟩,
  .L 2 ⟨(some k33), (.nilc (.t k32)), none⟩,
  .L 3 ⟨(some k34), (.fieldA 25 (.t k33)), none⟩,
  .L 4 ⟨(some k35), (.load false 1 (.t k34)), none⟩,
  .L 5 ⟨(some k36), (.load true 3 (.t k4)), none⟩,
  .A 6 ⟨(some k37), (.bslice 3 1 [(.str 0 0), (.int .i64 (.lit 0)), (.int .i64 (.lit 0))] [(0, 3, (.t k36))]), none⟩,
  .H 7 ⟨(some k38), (.append 3 (.t k35) (.t k37)), none⟩ [6],
  .R [],
  .L 8 ⟨(some k39), (.nilc (.t k31)), none⟩,
  .L 9 ⟨(some k40), (.fieldA 25 (.t k39)), none⟩,
  .H 10 ⟨none, (.store 1 (.t k40) (.t k38)), none⟩ [6],
  .R []]
def f44r13 : List POper := [⟨(some k69), (.mov (.t k0)), none⟩,
  ⟨(some k70), (.callF 36 [(.t k69), (.v (.str 1 59))]), none⟩]
def f44l0 : PCode := (.seq (.seq (.ops f44r3)
 (.cond (.t k18)
 .skip
 (.exit 0)))
 (.block 1 (.seq (.block 2 (.seq (.ops f44r4)
 (.cond (.t k41)
 (.staged f44r5 ⟨[k44, k45, k46, k47, k48, k49, k50, k51, k52, k53, k54], []⟩)
 (.seq (.ops f44r6)
 (.cond (.t k55)
 (.staged f44r7 ⟨[k58, k59, k60, k61, k62, k63, k64, k65, k66, k67, k68], []⟩)
 (.seq (.ops f44r8)
 (.seq (.ops f44r9)
 (.seq (.ops f44r10)
 (.seq (.ops f44r11)
 (.staged f44r12 ⟨[k31, k32, k33, k34, k35, k36, k37, k38, k39, k40], []⟩))))))))))
 (.ops f44r13))))
def f44 : PFn := ⟨(.seq (.ops f44r0)
 (.seq (.ops f44r1)
 (.seq (.ops f44r2)
 (.block 0 (.loop f44l0))))),
 []⟩
/- (*refuter/parser.reader).state -/
def f45r0 : List POper := [⟨(some k4), (.mov (.t k0)), none⟩,
  ⟨(some k5), (.callF 36 [(.t k4), (.v (.str 1 40))]), none⟩]
def f45r1 : List POper := [⟨(some k6), (.mov (.t k0)), none⟩,
  ⟨(some k7), (.callF 36 [(.t k6), (.v (.str 1 115))]), none⟩]
def f45r2 : List POper := [⟨(some k8), (.mov (.t k0)), none⟩,
  ⟨(some k9), (.callF 36 [(.t k8), (.v (.str 1 58))]), none⟩]
def f45r3 : List POper := [⟨(some k10), (.mov (.t k1)), none⟩,
  ⟨(some k11), (.mov (.t k0)), none⟩,
  ⟨(some k12), (.callF 75 [(.t k11)]), none⟩,
  ⟨(some k13), (.nilc (.t k10)), none⟩,
  ⟨(some k14), (.fieldA 26 (.t k13)), none⟩,
  ⟨none, (.store 3 (.t k14) (.t k12)), none⟩]
def f45r4 : List POper := [⟨(some k15), (.mov (.t k0)), none⟩,
  ⟨(some k16), (.callF 36 [(.t k15), (.v (.str 1 61))]), none⟩]
def f45r5 : List POper := [⟨(some k17), (.mov (.t k1)), none⟩,
  ⟨(some k18), (.mov (.t k0)), none⟩,
  ⟨(some k19), (.callF 41 [(.t k18)]), none⟩,
  ⟨(some k20), (.nilc (.t k17)), none⟩,
  ⟨(some k21), (.fieldA 29 (.t k20)), none⟩,
  ⟨none, (.store 7 (.t k21) (.t k19)), none⟩]
def f45r6 : List POper := [⟨(some k22), (.mov (.t k0)), none⟩,
  ⟨(some k23), (.callF 36 [(.t k22), (.v (.str 1 41))]), none⟩]
def f45 : PFn := ⟨(.seq (.ops f45r0)
 (.seq (.ops f45r1)
 (.seq (.ops f45r2)
 (.seq (.ops f45r3)
 (.seq (.ops f45r4)
 (.seq (.ops f45r5)
 (.ops f45r6))))))),
 []⟩
/- refuter/parser.until[refuter/api.Command] -/
def f46r0 : List POper := [⟨(some k6), (.mov (.v .nils)), none⟩]
def f46r1 : List POper := [⟨(some k7), (.mov (.v .nils)), none⟩]
def f46r2 : List POper := [⟨(some k8), (.mov (.t k0)), none⟩,
  ⟨(some k9), (.mov (.t k1)), none⟩,
  ⟨(some k10), (.callF 34 [(.t k8), (.t k9)]), none⟩,
  ⟨(some k11), (.un .not (.t k10)), none⟩]
def f46r3 : List POper := [⟨(some k12), (.mov (.t k7)), none⟩,
  ⟨(some k13), (.mov (.t k2)), none⟩,
  ⟨(some k14), (.callV (.t k13) []), none⟩,
  ⟨(some k15), (.bslice 23 1 [(.str 0 0), .nils, (.int .i64 (.lit 0)), (.str 0 0), (.int .i64 (.lit 0)), .nils, .nils, .nils, (.int .i64 (.lit 0)), (.int .i64 (.lit 0)), (.str 0 0), (.int .i64 (.lit 0)), .nils, .nils, .nils, (.int .i64 (.lit 0)), (.int .i64 (.lit 0)), (.str 0 0), (.int .i64 (.lit 0)), .nils, .nils, .nils, (.int .i64 (.lit 0))] [(0, 23, (.t k14))]), none⟩,
  ⟨(some k16), (.append 23 (.t k12) (.t k15)), none⟩,
  ⟨(some k7), (.mov (.t k16)), none⟩]
def f46l0 : PCode := (.seq (.seq (.ops f46r2)
 (.cond (.t k11)
 .skip
 (.exit 0)))
 (.block 1 (.ops f46r3)))
def f46r4 : List POper := [⟨(some k17), (.mov (.t k7)), none⟩,
  ⟨(some k6), (.mov (.t k17)), none⟩]
def f46 : PFn := ⟨(.seq (.ops f46r0)
 (.seq (.ops f46r1)
 (.seq (.block 0 (.loop f46l0))
 (.seq (.ops f46r4)
 .ret)))),
 [.tmp k6]⟩
/- (*refuter/parser.reader).command -/
def f47r0 : List POper := [⟨(some k2), (.new [(.str 0 0), .nils, (.int .i64 (.lit 0)), (.str 0 0), (.int .i64 (.lit 0)), .nils, .nils, .nils, (.int .i64 (.lit 0)), (.int .i64 (.lit 0)), (.str 0 0), (.int .i64 (.lit 0)), .nils, .nils, .nils, (.int .i64 (.lit 0)), (.int .i64 (.lit 0)), (.str 0 0), (.int .i64 (.lit 0)), .nils, .nils, .nils, (.int .i64 (.lit 0))]), none⟩]
def f47r1 : List POper := [⟨(some k4), (.mov (.t k0)), none⟩,
  ⟨(some k5), (.callF 36 [(.t k4), (.v (.str 7 28268862397837155))]), none⟩]
def f47r2 : List POper := [⟨(some k6), (.mov (.t k0)), none⟩,
  ⟨(some k7), (.callF 39 [(.t k6)]), none⟩,
  ⟨(some k8), (.build [(.str 0 0), .nils, (.int .i64 (.lit 0)), (.str 0 0), (.int .i64 (.lit 0)), .nils, .nils, .nils, (.int .i64 (.lit 0)), (.int .i64 (.lit 0)), (.str 0 0), (.int .i64 (.lit 0)), .nils, .nils, .nils, (.int .i64 (.lit 0)), (.int .i64 (.lit 0)), (.str 0 0), (.int .i64 (.lit 0)), .nils, .nils, .nils, (.int .i64 (.lit 0))] [(0, 1, (.t k7))]), none⟩,
  ⟨(some k3), (.new [(.str 0 0), .nils, (.int .i64 (.lit 0)), (.str 0 0), (.int .i64 (.lit 0)), .nils, .nils, .nils, (.int .i64 (.lit 0)), (.int .i64 (.lit 0)), (.str 0 0), (.int .i64 (.lit 0)), .nils, .nils, .nils, (.int .i64 (.lit 0)), (.int .i64 (.lit 0)), (.str 0 0), (.int .i64 (.lit 0)), .nils, .nils, .nils, (.int .i64 (.lit 0))]), none⟩,
  ⟨none, (.store 23 (.t k3) (.t k8)), none⟩]
def f47r3 : List POper := [⟨(some k9), (.mov (.t k0)), none⟩,
  ⟨(some k10), (.callF 36 [(.t k9), (.v (.str 1 40))]), none⟩]
def f47r4 : List POper := [⟨(some k11), (.mov (.t k0)), none⟩,
  ⟨(some k12), (.mov (.t k0)), none⟩,
  ⟨(some k13), (.mkfn 85 [(.t k12)] []), none⟩,
  ⟨(some k14), (.callF 82 [(.t k11), (.v (.str 1 41)), (.t k13)]), none⟩,
  ⟨(some k15), (.fieldA 1 (.t k3)), none⟩,
  ⟨none, (.store 1 (.t k15) (.t k14)), none⟩]
def f47r5 : List POper := [⟨(some k16), (.mov (.t k0)), none⟩,
  ⟨(some k17), (.callF 36 [(.t k16), (.v (.str 3 6648432))]), none⟩]
def f47r6 : List POper := [⟨(some k18), (.mov (.t k0)), none⟩,
  ⟨(some k19), (.callF 41 [(.t k18)]), none⟩,
  ⟨(some k20), (.fieldA 2 (.t k3)), none⟩,
  ⟨none, (.store 7 (.t k20) (.t k19)), none⟩]
def f47r7 : List POper := [⟨(some k21), (.mov (.t k0)), none⟩,
  ⟨(some k22), (.callF 36 [(.t k21), (.v (.str 4 1954047342))]), none⟩]
def f47r8 : List POper := [⟨(some k23), (.mov (.t k0)), none⟩,
  ⟨(some k24), (.callF 41 [(.t k23)]), none⟩,
  ⟨(some k25), (.fieldA 9 (.t k3)), none⟩,
  ⟨none, (.store 7 (.t k25) (.t k24)), none⟩]
def f47r9 : List POper := [⟨(some k26), (.mov (.t k0)), none⟩,
  ⟨(some k27), (.callF 36 [(.t k26), (.v (.str 4 1953722224))]), none⟩]
def f47r10 : List POper := [⟨(some k28), (.mov (.t k0)), none⟩,
  ⟨(some k29), (.callF 41 [(.t k28)]), none⟩,
  ⟨(some k30), (.fieldA 16 (.t k3)), none⟩,
  ⟨none, (.store 7 (.t k30) (.t k29)), none⟩]
def f47r11 : List POper := [⟨(some k31), (.mov (.t k0)), none⟩,
  ⟨(some k32), (.callF 36 [(.t k31), (.v (.str 1 59))]), none⟩]
def f47r12 : List POper := [⟨(some k33), (.load true 23 (.t k3)), none⟩,
  ⟨none, (.store 23 (.t k2) (.t k33)), none⟩]
def f47 : PFn := ⟨(.seq (.ops f47r0)
 (.seq (.ops f47r1)
 (.seq (.ops f47r2)
 (.seq (.ops f47r3)
 (.seq (.ops f47r4)
 (.seq (.ops f47r5)
 (.seq (.ops f47r6)
 (.seq (.ops f47r7)
 (.seq (.ops f47r8)
 (.seq (.ops f47r9)
 (.seq (.ops f47r10)
 (.seq (.ops f47r11)
 (.seq (.ops f47r12)
 .ret))))))))))))),
 [.cell k2 true 23]⟩
/- refuter/parser.until[refuter/api.Op] -/
def f48r0 : List POper := [⟨(some k6), (.mov (.v .nils)), none⟩]
def f48r1 : List POper := [⟨(some k7), (.mov (.v .nils)), none⟩]
def f48r2 : List POper := [⟨(some k8), (.mov (.t k0)), none⟩,
  ⟨(some k9), (.mov (.t k1)), none⟩,
  ⟨(some k10), (.callF 34 [(.t k8), (.t k9)]), none⟩,
  ⟨(some k11), (.un .not (.t k10)), none⟩]
def f48r3 : List POper := [⟨(some k12), (.mov (.t k7)), none⟩,
  ⟨(some k13), (.mov (.t k2)), none⟩,
  ⟨(some k14), (.callV (.t k13) []), none⟩,
  ⟨(some k15), (.bslice 3 1 [(.str 0 0), .nils, .nils] [(0, 3, (.t k14))]), none⟩,
  ⟨(some k16), (.append 3 (.t k12) (.t k15)), none⟩,
  ⟨(some k7), (.mov (.t k16)), none⟩]
def f48l0 : PCode := (.seq (.seq (.ops f48r2)
 (.cond (.t k11)
 .skip
 (.exit 0)))
 (.block 1 (.ops f48r3)))
def f48r4 : List POper := [⟨(some k17), (.mov (.t k7)), none⟩,
  ⟨(some k6), (.mov (.t k17)), none⟩]
def f48 : PFn := ⟨(.seq (.ops f48r0)
 (.seq (.ops f48r1)
 (.seq (.block 0 (.loop f48l0))
 (.seq (.ops f48r4)
 .ret)))),
 [.tmp k6]⟩
/- (*refuter/parser.reader).op -/
def f49r0 : List POper := [⟨(some k2), (.new [(.str 0 0), .nils, .nils]), none⟩]
def f49r1 : List POper := [⟨(some k4), (.mov (.t k0)), none⟩,
  ⟨(some k5), (.callF 36 [(.t k4), (.v (.str 2 28783))]), none⟩]
def f49r2 : List POper := [⟨(some k6), (.mov (.t k0)), none⟩,
  ⟨(some k7), (.callF 39 [(.t k6)]), none⟩,
  ⟨(some k8), (.build [(.str 0 0), .nils, .nils] [(0, 1, (.t k7))]), none⟩,
  ⟨(some k3), (.new [(.str 0 0), .nils, .nils]), none⟩,
  ⟨none, (.store 3 (.t k3) (.t k8)), none⟩]
def f49r3 : List POper := [⟨(some k9), (.mov (.t k0)), none⟩,
  ⟨(some k10), (.callF 36 [(.t k9), (.v (.str 1 40))]), none⟩]
def f49r4 : List POper := [⟨(some k11), (.mov (.t k0)), none⟩,
  ⟨(some k12), (.mov (.t k0)), none⟩,
  ⟨(some k13), (.mkfn 78 [(.t k12)] []), none⟩,
  ⟨(some k14), (.callF 77 [(.t k11), (.v (.str 1 41)), (.t k13)]), none⟩,
  ⟨(some k15), (.fieldA 1 (.t k3)), none⟩,
  ⟨none, (.store 1 (.t k15) (.t k14)), none⟩]
def f49r5 : List POper := [⟨(some k16), (.mov (.t k0)), none⟩,
  ⟨(some k17), (.callF 36 [(.t k16), (.v (.str 1 123))]), none⟩]
def f49r6 : List POper := [⟨(some k18), (.mov (.t k0)), none⟩,
  ⟨(some k19), (.mov (.t k0)), none⟩,
  ⟨(some k20), (.mkfn 87 [(.t k19)] []), none⟩,
  ⟨(some k21), (.callF 86 [(.t k18), (.v (.str 1 125)), (.t k20)]), none⟩,
  ⟨(some k22), (.fieldA 2 (.t k3)), none⟩,
  ⟨none, (.store 1 (.t k22) (.t k21)), none⟩]
def f49r7 : List POper := [⟨(some k23), (.load true 3 (.t k3)), none⟩,
  ⟨none, (.store 3 (.t k2) (.t k23)), none⟩]
def f49 : PFn := ⟨(.seq (.ops f49r0)
 (.seq (.ops f49r1)
 (.seq (.ops f49r2)
 (.seq (.ops f49r3)
 (.seq (.ops f49r4)
 (.seq (.ops f49r5)
 (.seq (.ops f49r6)
 (.seq (.ops f49r7)
 .ret)))))))),
 [.cell k2 true 3]⟩
/- (*refuter/parser.checker).unused -/
def f50r0 : List POper := [⟨(some k3), (.box (.t k1)), none⟩]
def f50r1 : List POper := [⟨(some k5), (.mkfn 88 [] [(.t k3)]), none⟩,
  ⟨(some k4), (.mov (.t k5)), none⟩]
def f50r2 : List POper := [⟨(some k6), (.mov (.t k0)), none⟩,
  ⟨(some k7), (.mov (.t k4)), none⟩,
  ⟨(some k8), (.bslice 1 1 [(.int .i64 (.lit 0))] [(0, 1, (.v (.int .i64 (.lit 0))))]), none⟩,
  ⟨(some k9), (.callV (.t k7) [(.t k8)]), none⟩,
  ⟨(some k10), (.mov (.t k9)), none⟩,
  ⟨(some k11), (.fieldA 3 (.t k3)), (some (k10, false))⟩,
  ⟨(some k12), (.load false 1 (.t k11)), (some (k10, false))⟩,
  ⟨(some k13), (.lenL (.t k12)), (some (k10, false))⟩,
  ⟨(some k14), (.bin .eql (.t k13) (.v (.int .i64 (.lit 0)))), (some (k10, false))⟩,
  ⟨(some k15), (.pick (.t k10) (.v (.bool true)) (.t k14)), none⟩,
  ⟨(some k16), (.callF 52 [(.t k6), (.t k15)]), none⟩]
def f50r3 : List POper := [⟨(some k17), (.mov (.t k0)), none⟩,
  ⟨(some k18), (.mov (.t k4)), none⟩,
  ⟨(some k19), (.bslice 1 2 [(.int .i64 (.lit 0))] [(0, 1, (.v (.int .i64 (.lit 1)))), (1, 1, (.v (.int .i64 (.lit 2))))]), none⟩,
  ⟨(some k20), (.callV (.t k18) [(.t k19)]), none⟩,
  ⟨(some k21), (.mov (.t k20)), none⟩,
  ⟨(some k22), (.fieldA 4 (.t k3)), (some (k21, false))⟩,
  ⟨(some k23), (.load false 1 (.t k22)), (some (k21, false))⟩,
  ⟨(some k24), (.lenL (.t k23)), (some (k21, false))⟩,
  ⟨(some k25), (.bin .eql (.t k24) (.v (.int .i64 (.lit 0)))), (some (k21, false))⟩,
  ⟨(some k26), (.mov (.t k25)), (some (k21, false))⟩,
  ⟨(some k27), (.fieldA 5 (.t k3)), (some (k26, true))⟩,
  ⟨(some k28), (.load true 3 (.t k27)), (some (k26, true))⟩,
  ⟨(some k29), (.callF 89 [(.t k28)]), (some (k26, true))⟩,
  ⟨(some k30), (.pick (.t k26) (.t k29) (.v (.bool false))), (some (k21, false))⟩,
  ⟨(some k31), (.pick (.t k21) (.v (.bool true)) (.t k30)), none⟩,
  ⟨(some k32), (.callF 52 [(.t k17), (.t k31)]), none⟩]
def f50r4 : List POper := [⟨(some k33), (.mov (.t k0)), none⟩,
  ⟨(some k34), (.mov (.t k4)), none⟩,
  ⟨(some k35), (.bslice 1 1 [(.int .i64 (.lit 0))] [(0, 1, (.v (.int .i64 (.lit 1))))]), none⟩,
  ⟨(some k36), (.callV (.t k34) [(.t k35)]), none⟩,
  ⟨(some k37), (.mov (.t k36)), none⟩,
  ⟨(some k38), (.fieldA 8 (.t k3)), (some (k37, false))⟩,
  ⟨(some k39), (.load true 7 (.t k38)), (some (k37, false))⟩,
  ⟨(some k40), (.callF 90 [(.t k39)]), (some (k37, false))⟩,
  ⟨(some k41), (.pick (.t k37) (.v (.bool true)) (.t k40)), none⟩,
  ⟨(some k42), (.callF 52 [(.t k33), (.t k41)]), none⟩]
def f50r5 : List POper := [⟨(some k43), (.mov (.t k0)), none⟩,
  ⟨(some k44), (.mov (.t k4)), none⟩,
  ⟨(some k45), (.bslice 1 1 [(.int .i64 (.lit 0))] [(0, 1, (.v (.int .i64 (.lit 2))))]), none⟩,
  ⟨(some k46), (.callV (.t k44) [(.t k45)]), none⟩,
  ⟨(some k47), (.mov (.t k46)), none⟩,
  ⟨(some k48), (.fieldA 15 (.t k3)), (some (k47, false))⟩,
  ⟨(some k49), (.load false 1 (.t k48)), (some (k47, false))⟩,
  ⟨(some k50), (.bin .eql (.t k49) (.v (.int .i64 (.lit 0)))), (some (k47, false))⟩,
  ⟨(some k51), (.mov (.t k50)), (some (k47, false))⟩,
  ⟨(some k52), (.fieldA 16 (.t k3)), (some (k51, true))⟩,
  ⟨(some k53), (.load true 6 (.t k52)), (some (k51, true))⟩,
  ⟨(some k54), (.callF 91 [(.t k53)]), (some (k51, true))⟩,
  ⟨(some k55), (.pick (.t k51) (.t k54) (.v (.bool false))), (some (k47, false))⟩,
  ⟨(some k56), (.pick (.t k47) (.v (.bool true)) (.t k55)), none⟩,
  ⟨(some k57), (.callF 52 [(.t k43), (.t k56)]), none⟩]
def f50r6 : List POper := [⟨(some k58), (.mov (.t k0)), none⟩,
  ⟨(some k59), (.mov (.t k4)), none⟩,
  ⟨(some k60), (.bslice 1 1 [(.int .i64 (.lit 0))] [(0, 1, (.v (.int .i64 (.lit 3))))]), none⟩,
  ⟨(some k61), (.callV (.t k59) [(.t k60)]), none⟩,
  ⟨(some k62), (.mov (.t k61)), none⟩,
  ⟨(some k63), (.fieldA 22 (.t k3)), (some (k62, false))⟩,
  ⟨(some k64), (.load false 1 (.t k63)), (some (k62, false))⟩,
  ⟨(some k65), (.lenL (.t k64)), (some (k62, false))⟩,
  ⟨(some k66), (.bin .eql (.t k65) (.v (.int .i64 (.lit 0)))), (some (k62, false))⟩,
  ⟨(some k67), (.mov (.t k66)), (some (k62, false))⟩,
  ⟨(some k68), (.fieldA 23 (.t k3)), (some (k67, true))⟩,
  ⟨(some k69), (.load false 1 (.t k68)), (some (k67, true))⟩,
  ⟨(some k70), (.lenL (.t k69)), (some (k67, true))⟩,
  ⟨(some k71), (.bin .eql (.t k70) (.v (.int .i64 (.lit 0)))), (some (k67, true))⟩,
  ⟨(some k72), (.pick (.t k67) (.t k71) (.v (.bool false))), (some (k62, false))⟩,
  ⟨(some k73), (.mov (.t k72)), (some (k62, false))⟩,
  ⟨(some k74), (.fieldA 24 (.t k3)), (some (k73, true))⟩,
  ⟨(some k75), (.load false 1 (.t k74)), (some (k73, true))⟩,
  ⟨(some k76), (.lenL (.t k75)), (some (k73, true))⟩,
  ⟨(some k77), (.bin .eql (.t k76) (.v (.int .i64 (.lit 0)))), (some (k73, true))⟩,
  ⟨(some k78), (.pick (.t k73) (.t k77) (.v (.bool false))), (some (k62, false))⟩,
  ⟨(some k79), (.mov (.t k78)), (some (k62, false))⟩,
  ⟨(some k80), (.fieldA 25 (.t k3)), (some (k79, true))⟩,
  ⟨(some k81), (.load false 1 (.t k80)), (some (k79, true))⟩,
  ⟨(some k82), (.lenL (.t k81)), (some (k79, true))⟩,
  ⟨(some k83), (.bin .eql (.t k82) (.v (.int .i64 (.lit 0)))), (some (k79, true))⟩,
  ⟨(some k84), (.pick (.t k79) (.t k83) (.v (.bool false))), (some (k62, false))⟩,
  ⟨(some k85), (.pick (.t k62) (.v (.bool true)) (.t k84)), none⟩,
  ⟨(some k86), (.callF 52 [(.t k58), (.t k85)]), none⟩]
def f50r7 : List POper := [⟨(some k87), (.mov (.t k0)), none⟩,
  ⟨(some k88), (.mov (.t k4)), none⟩,
  ⟨(some k89), (.bslice 1 2 [(.int .i64 (.lit 0))] [(0, 1, (.v (.int .i64 (.lit 4)))), (1, 1, (.v (.int .i64 (.lit 5))))]), none⟩,
  ⟨(some k90), (.callV (.t k88) [(.t k89)]), none⟩,
  ⟨(some k91), (.mov (.t k90)), none⟩,
  ⟨(some k92), (.fieldA 26 (.t k3)), (some (k91, false))⟩,
  ⟨(some k93), (.load true 3 (.t k92)), (some (k91, false))⟩,
  ⟨(some k94), (.callF 89 [(.t k93)]), (some (k91, false))⟩,
  ⟨(some k95), (.mov (.t k94)), (some (k91, false))⟩,
  ⟨(some k96), (.fieldA 29 (.t k3)), (some (k95, true))⟩,
  ⟨(some k97), (.load true 7 (.t k96)), (some (k95, true))⟩,
  ⟨(some k98), (.callF 90 [(.t k97)]), (some (k95, true))⟩,
  ⟨(some k99), (.pick (.t k95) (.t k98) (.v (.bool false))), (some (k91, false))⟩,
  ⟨(some k100), (.pick (.t k91) (.v (.bool true)) (.t k99)), none⟩,
  ⟨(some k101), (.callF 52 [(.t k87), (.t k100)]), none⟩]
def f50r8 : List POper := [⟨(some k102), (.mov (.t k0)), none⟩,
  ⟨(some k103), (.mov (.t k4)), none⟩,
  ⟨(some k104), (.bslice 1 1 [(.int .i64 (.lit 0))] [(0, 1, (.v (.int .i64 (.lit 4))))]), none⟩,
  ⟨(some k105), (.callV (.t k103) [(.t k104)]), none⟩,
  ⟨(some k106), (.mov (.t k105)), none⟩,
  ⟨(some k107), (.fieldA 36 (.t k3)), (some (k106, false))⟩,
  ⟨(some k108), (.load false 1 (.t k107)), (some (k106, false))⟩,
  ⟨(some k109), (.lenL (.t k108)), (some (k106, false))⟩,
  ⟨(some k110), (.bin .eql (.t k109) (.v (.int .i64 (.lit 0)))), (some (k106, false))⟩,
  ⟨(some k111), (.pick (.t k106) (.v (.bool true)) (.t k110)), none⟩,
  ⟨(some k112), (.callF 52 [(.t k102), (.t k111)]), none⟩]
def f50r9 : List POper := [⟨(some k113), (.mov (.t k0)), none⟩,
  ⟨(some k114), (.mov (.t k4)), none⟩,
  ⟨(some k115), (.bslice 1 1 [(.int .i64 (.lit 0))] [(0, 1, (.v (.int .i64 (.lit 5))))]), none⟩,
  ⟨(some k116), (.callV (.t k114) [(.t k115)]), none⟩,
  ⟨(some k117), (.mov (.t k116)), none⟩,
  ⟨(some k118), (.fieldA 37 (.t k3)), (some (k117, false))⟩,
  ⟨(some k119), (.load false 1 (.t k118)), (some (k117, false))⟩,
  ⟨(some k120), (.lenL (.t k119)), (some (k117, false))⟩,
  ⟨(some k121), (.bin .eql (.t k120) (.v (.int .i64 (.lit 0)))), (some (k117, false))⟩,
  ⟨(some k122), (.mov (.t k121)), (some (k117, false))⟩,
  ⟨(some k123), (.fieldA 38 (.t k3)), (some (k122, true))⟩,
  ⟨(some k124), (.load true 7 (.t k123)), (some (k122, true))⟩,
  ⟨(some k125), (.callF 90 [(.t k124)]), (some (k122, true))⟩,
  ⟨(some k126), (.pick (.t k122) (.t k125) (.v (.bool false))), (some (k117, false))⟩,
  ⟨(some k127), (.pick (.t k117) (.v (.bool true)) (.t k126)), none⟩,
  ⟨(some k128), (.callF 52 [(.t k113), (.t k127)]), none⟩]
def f50 : PFn := ⟨(.seq (.ops f50r0)
 (.seq (.ops f50r1)
 (.seq (.ops f50r2)
 (.seq (.ops f50r3)
 (.seq (.ops f50r4)
 (.seq (.ops f50r5)
 (.seq (.ops f50r6)
 (.seq (.ops f50r7)
 (.seq (.ops f50r8)
 (.ops f50r9)))))))))),
 []⟩
/- (*refuter/parser.checker).capital -/
def f51r0 : List POper := [⟨(some k4), (.mov (.t k1)), none⟩,
  ⟨(some k5), (.callF 92 [(.t k4), (.v (.int .i64 (.lit 1)))]), none⟩,
  ⟨(some k6), (.un .not (.t k5)), none⟩]
def f51r1 : List POper := [⟨(some k7), (.mov (.t k0)), none⟩,
  ⟨(some k8), (.nilc (.t k7)), none⟩,
  ⟨(some k9), (.fieldA 2 (.t k8)), none⟩,
  ⟨none, (.store 1 (.t k9) (.v (.bool true))), none⟩]
def f51 : PFn := ⟨(.seq (.ops f51r0)
 (.cond (.t k6)
 (.ops f51r1)
 .skip)),
 []⟩
/- (*refuter/parser.checker).need -/
def f52r0 : List POper := [⟨(some k4), (.mov (.t k1)), none⟩,
  ⟨(some k5), (.un .not (.t k4)), none⟩]
def f52r1 : List POper := [⟨(some k6), (.mov (.t k0)), none⟩,
  ⟨(some k7), (.nilc (.t k6)), none⟩,
  ⟨(some k8), (.fieldA 1 (.t k7)), none⟩,
  ⟨none, (.store 1 (.t k8) (.v (.bool true))), none⟩]
def f52 : PFn := ⟨(.seq (.ops f52r0)
 (.cond (.t k5)
 (.ops f52r1)
 .skip)),
 []⟩
/- (*refuter/parser.checker).typ -/
def f53r0 : List POper := [⟨(some k3), (.box (.t k1)), none⟩]
def f53r1 : List POper := [⟨(some k4), (.mov (.t k0)), none⟩,
  ⟨(some k5), (.mov (.t k0)), none⟩,
  ⟨(some k6), (.load true 3 (.t k3)), none⟩,
  ⟨(some k7), (.callF 93 [(.t k5), (.t k6)]), none⟩,
  ⟨(some k8), (.callF 24 [(.t k4), (.t k7), (.v (.int .i64 (.lit 32)))]), none⟩]
def f53 : PFn := ⟨(.seq (.ops f53r0)
 (.ops f53r1)),
 []⟩
/- (*refuter/parser.checker).params -/
def f54r0 : List POper := [⟨(some k6), (.mov (.t k0)), none⟩,
  ⟨(some k7), (.mov (.t k1)), none⟩,
  ⟨(some k8), (.lenL (.t k7)), none⟩,
  ⟨(some k9), (.callF 24 [(.t k6), (.t k8), (.v (.int .i64 (.lit 16)))]), none⟩]
def f54r1 : List POper := [⟨(some k10), (.mov (.t k1)), none⟩,
  ⟨(some k11), (.lenL (.t k10)), none⟩,
  ⟨(some k12), (.mov (.v (.int .i64 (.lit 0)))), none⟩]
def f54r2 : List POper := [⟨(some k13), (.bin .lss (.t k12) (.t k11)), none⟩]
def f54r3 : List POper := [⟨(some k14), (.indexL 4 (.t k10) (.t k12)), none⟩,
  ⟨(some k15), (.load true 4 (.t k14)), none⟩,
  ⟨(some k5), (.new [(.str 0 0), (.int .i64 (.lit 0)), (.str 0 0), .nils]), none⟩,
  ⟨none, (.store 4 (.t k5) (.t k15)), none⟩]
def f54r4 : List POper := [⟨(some k16), (.mov (.t k0)), none⟩,
  ⟨(some k17), (.fieldA 0 (.t k5)), none⟩,
  ⟨(some k18), (.load false 1 (.t k17)), none⟩,
  ⟨(some k19), (.callF 60 [(.t k16), (.t k18)]), none⟩]
def f54r5 : List POper := [⟨(some k20), (.mov (.t k0)), none⟩,
  ⟨(some k21), (.fieldA 1 (.t k5)), none⟩,
  ⟨(some k22), (.load true 3 (.t k21)), none⟩,
  ⟨(some k23), (.callF 53 [(.t k20), (.t k22)]), none⟩]
def f54r6 : List POper := [⟨(some k24), (.bin .add (.t k12) (.v (.int .i64 (.lit 1)))), none⟩,
  ⟨(some k12), (.mov (.t k24)), none⟩]
def f54l0 : PCode := (.seq (.ops f54r2)
 (.seq (.cond (.t k13)
 .skip
 (.exit 0))
 (.seq (.block 1 (.seq (.ops f54r3)
 (.seq (.ops f54r4)
 (.ops f54r5))))
 (.ops f54r6))))
def f54 : PFn := ⟨(.seq (.ops f54r0)
 (.seq (.ops f54r1)
 (.block 0 (.loop f54l0)))),
 []⟩
/- (*refuter/parser.checker).expr -/
def f55r0 : List POper := [⟨(some k3), (.box (.t k1)), none⟩]
def f55r1 : List POper := [⟨(some k4), (.mov (.t k0)), none⟩,
  ⟨(some k5), (.mov (.t k0)), none⟩,
  ⟨(some k6), (.load true 7 (.t k3)), none⟩,
  ⟨(some k7), (.callF 94 [(.t k5), (.t k6)]), none⟩,
  ⟨(some k8), (.callF 24 [(.t k4), (.t k7), (.v (.int .i64 (.lit 32)))]), none⟩]
def f55 : PFn := ⟨(.seq (.ops f55r0)
 (.ops f55r1)),
 []⟩
/- (*refuter/parser.checker).between -/
def f56r0 : List POper := [⟨(some k8), (.mov (.t k1)), none⟩,
  ⟨(some k9), (.mov (.t k2)), none⟩,
  ⟨(some k10), (.bin .lss (.t k8) (.t k9)), none⟩,
  ⟨(some k11), (.mov (.t k10)), none⟩,
  ⟨(some k12), (.mov (.t k1)), (some (k11, false))⟩,
  ⟨(some k13), (.mov (.t k3)), (some (k11, false))⟩,
  ⟨(some k14), (.bin .gtr (.t k12) (.t k13)), (some (k11, false))⟩,
  ⟨(some k15), (.pick (.t k11) (.v (.bool true)) (.t k14)), none⟩]
def f56r1 : List POper := [⟨(some k16), (.mov (.t k0)), none⟩,
  ⟨(some k17), (.nilc (.t k16)), none⟩,
  ⟨(some k18), (.fieldA 3 (.t k17)), none⟩,
  ⟨none, (.store 1 (.t k18) (.v (.bool true))), none⟩]
def f56 : PFn := ⟨(.seq (.ops f56r0)
 (.cond (.t k15)
 (.ops f56r1)
 .skip)),
 []⟩
/- (*refuter/parser.checker).gen -/
def f57r0 : List POper := [⟨(some k3), (.box (.t k1)), none⟩]
def f57r1 : List POper := [⟨(some k4), (.mov (.t k0)), none⟩,
  ⟨(some k5), (.mov (.t k0)), none⟩,
  ⟨(some k6), (.load true 6 (.t k3)), none⟩,
  ⟨(some k7), (.callF 95 [(.t k5), (.t k6)]), none⟩,
  ⟨(some k8), (.callF 24 [(.t k4), (.t k7), (.v (.int .i64 (.lit 32)))]), none⟩]
def f57 : PFn := ⟨(.seq (.ops f57r0)
 (.ops f57r1)),
 []⟩
/- (*refuter/parser.checker).draws -/
def f58r0 : List POper := [⟨(some k8), (.mov (.t k0)), none⟩,
  ⟨(some k9), (.mov (.t k1)), none⟩,
  ⟨(some k10), (.lenL (.t k9)), none⟩,
  ⟨(some k11), (.callF 24 [(.t k8), (.t k10), (.v (.int .i64 (.lit 16)))]), none⟩]
def f58r1 : List POper := [⟨(some k12), (.mov (.t k1)), none⟩,
  ⟨(some k13), (.lenL (.t k12)), none⟩,
  ⟨(some k14), (.mov (.v (.int .i64 (.lit 0)))), none⟩]
def f58r2 : List POper := [⟨(some k15), (.bin .lss (.t k14) (.t k13)), none⟩]
def f58r3 : List POper := [⟨(some k16), (.indexL 11 (.t k12) (.t k14)), none⟩,
  ⟨(some k17), (.load true 11 (.t k16)), none⟩,
  ⟨(some k7), (.new [(.str 0 0), (.int .i64 (.lit 0)), (.str 0 0), .nils, (.int .i64 (.lit 0)), (.str 0 0), .nils, .nils, .nils, (.int .i64 (.lit 0)), (.bool false)]), none⟩,
  ⟨none, (.store 11 (.t k7) (.t k17)), none⟩]
def f58r4 : List POper := [⟨(some k18), (.mov (.t k0)), none⟩,
  ⟨(some k19), (.fieldA 0 (.t k7)), none⟩,
  ⟨(some k20), (.load false 1 (.t k19)), none⟩,
  ⟨(some k21), (.callF 60 [(.t k18), (.t k20)]), none⟩]
def f58r5 : List POper := [⟨(some k22), (.mov (.t k0)), none⟩,
  ⟨(some k23), (.fieldA 1 (.t k7)), none⟩,
  ⟨(some k24), (.load true 3 (.t k23)), none⟩,
  ⟨(some k25), (.callF 53 [(.t k22), (.t k24)]), none⟩]
def f58r6 : List POper := [⟨(some k26), (.fieldA 10 (.t k7)), none⟩,
  ⟨(some k27), (.load false 1 (.t k26)), none⟩]
def f58r7 : List POper := [⟨(some k28), (.mov (.t k0)), none⟩,
  ⟨(some k29), (.mov (.t k2)), none⟩,
  ⟨(some k30), (.mov (.t k29)), none⟩,
  ⟨(some k31), (.fieldA 4 (.t k7)), (some (k30, true))⟩,
  ⟨(some k32), (.load true 6 (.t k31)), (some (k30, true))⟩,
  ⟨(some k33), (.callF 91 [(.t k32)]), (some (k30, true))⟩,
  ⟨(some k34), (.pick (.t k30) (.t k33) (.v (.bool false))), none⟩,
  ⟨(some k35), (.callF 52 [(.t k28), (.t k34)]), none⟩]
def f58r8 : List POper := [⟨(some k36), (.mov (.t k0)), none⟩,
  ⟨(some k37), (.fieldA 4 (.t k7)), none⟩,
  ⟨(some k38), (.load true 6 (.t k37)), none⟩,
  ⟨(some k39), (.callF 57 [(.t k36), (.t k38)]), none⟩]
def f58r9 : List POper := [⟨(some k40), (.bin .add (.t k14) (.v (.int .i64 (.lit 1)))), none⟩,
  ⟨(some k14), (.mov (.t k40)), none⟩]
def f58l0 : PCode := (.seq (.ops f58r2)
 (.seq (.cond (.t k15)
 .skip
 (.exit 0))
 (.seq (.block 1 (.seq (.ops f58r3)
 (.seq (.ops f58r4)
 (.seq (.ops f58r5)
 (.seq (.ops f58r6)
 (.cond (.t k27)
 (.ops f58r7)
 (.ops f58r8)))))))
 (.ops f58r9))))
def f58 : PFn := ⟨(.seq (.ops f58r0)
 (.seq (.ops f58r1)
 (.block 0 (.loop f58l0)))),
 []⟩
/- (*refuter/parser.checker).checks -/
def f59r0 : List POper := [⟨(some k6), (.mov (.t k0)), none⟩,
  ⟨(some k7), (.mov (.t k1)), none⟩,
  ⟨(some k8), (.lenL (.t k7)), none⟩,
  ⟨(some k9), (.callF 24 [(.t k6), (.t k8), (.v (.int .i64 (.lit 16)))]), none⟩]
def f59r1 : List POper := [⟨(some k10), (.mov (.t k1)), none⟩,
  ⟨(some k11), (.lenL (.t k10)), none⟩,
  ⟨(some k12), (.mov (.v (.int .i64 (.lit 0)))), none⟩]
def f59r2 : List POper := [⟨(some k13), (.bin .lss (.t k12) (.t k11)), none⟩]
def f59r3 : List POper := [⟨(some k14), (.indexL 8 (.t k10) (.t k12)), none⟩,
  ⟨(some k15), (.load true 8 (.t k14)), none⟩,
  ⟨(some k5), (.new [(.str 0 0), (.int .i64 (.lit 0)), (.str 0 0), (.int .i64 (.lit 0)), .nils, .nils, .nils, (.int .i64 (.lit 0))]), none⟩,
  ⟨none, (.store 8 (.t k5) (.t k15)), none⟩]
def f59r4 : List POper := [⟨(some k16), (.mov (.t k0)), none⟩,
  ⟨(some k17), (.fieldA 0 (.t k5)), none⟩,
  ⟨(some k18), (.load false 1 (.t k17)), none⟩,
  ⟨(some k19), (.callF 60 [(.t k16), (.t k18)]), none⟩]
def f59r5 : List POper := [⟨(some k20), (.mov (.t k0)), none⟩,
  ⟨(some k21), (.fieldA 1 (.t k5)), none⟩,
  ⟨(some k22), (.load true 7 (.t k21)), none⟩,
  ⟨(some k23), (.callF 55 [(.t k20), (.t k22)]), none⟩]
def f59r6 : List POper := [⟨(some k24), (.bin .add (.t k12) (.v (.int .i64 (.lit 1)))), none⟩,
  ⟨(some k12), (.mov (.t k24)), none⟩]
def f59l0 : PCode := (.seq (.ops f59r2)
 (.seq (.cond (.t k13)
 .skip
 (.exit 0))
 (.seq (.block 1 (.seq (.ops f59r3)
 (.seq (.ops f59r4)
 (.ops f59r5))))
 (.ops f59r6))))
def f59 : PFn := ⟨(.seq (.ops f59r0)
 (.seq (.ops f59r1)
 (.block 0 (.loop f59l0)))),
 []⟩
/- (*refuter/parser.checker).word -/
def f60r0 : List POper := [⟨(some k4), (.mov (.t k1)), none⟩,
  ⟨(some k5), (.callF 92 [(.t k4), (.v (.int .i64 (.lit 0)))]), none⟩,
  ⟨(some k6), (.un .not (.t k5)), none⟩,
  ⟨(some k7), (.mov (.t k6)), none⟩,
  ⟨(some k8), (.mov (.t k1)), (some (k7, false))⟩,
  ⟨(some k9), (.callF 96 [(.t k8)]), (some (k7, false))⟩,
  ⟨(some k10), (.pick (.t k7) (.v (.bool true)) (.t k9)), none⟩]
def f60r1 : List POper := [⟨(some k11), (.mov (.t k0)), none⟩,
  ⟨(some k12), (.nilc (.t k11)), none⟩,
  ⟨(some k13), (.fieldA 2 (.t k12)), none⟩,
  ⟨none, (.store 1 (.t k13) (.v (.bool true))), none⟩]
def f60 : PFn := ⟨(.seq (.ops f60r0)
 (.cond (.t k10)
 (.ops f60r1)
 .skip)),
 []⟩
/- (*refuter/parser.checker).commands -/
def f61r0 : List POper := [⟨(some k3), (.box (.t k1)), none⟩]
def f61r1 : List POper := [⟨(some k6), (.fieldA 0 (.t k3)), none⟩,
  ⟨(some k7), (.load false 1 (.t k6)), none⟩,
  ⟨(some k8), (.bin .neq (.t k7) (.v (.int .i64 (.lit 4)))), none⟩]
def f61r2 : List POper := [⟨(some k9), (.mov (.t k0)), none⟩,
  ⟨(some k10), (.fieldA 36 (.t k3)), none⟩,
  ⟨(some k11), (.load false 1 (.t k10)), none⟩,
  ⟨(some k12), (.lenL (.t k11)), none⟩,
  ⟨(some k13), (.callF 24 [(.t k9), (.t k12), (.v (.int .i64 (.lit 16)))]), none⟩]
def f61r3 : List POper := [⟨(some k14), (.fieldA 36 (.t k3)), none⟩,
  ⟨(some k15), (.load false 1 (.t k14)), none⟩,
  ⟨(some k16), (.lenL (.t k15)), none⟩,
  ⟨(some k17), (.mov (.v (.int .i64 (.lit 0)))), none⟩]
def f61r4 : List POper := [⟨(some k18), (.bin .lss (.t k17) (.t k16)), none⟩]
def f61r5 : List POper := [⟨(some k19), (.indexL 23 (.t k15) (.t k17)), none⟩,
  ⟨(some k20), (.load true 23 (.t k19)), none⟩,
  ⟨(some k5), (.new [(.str 0 0), .nils, (.int .i64 (.lit 0)), (.str 0 0), (.int .i64 (.lit 0)), .nils, .nils, .nils, (.int .i64 (.lit 0)), (.int .i64 (.lit 0)), (.str 0 0), (.int .i64 (.lit 0)), .nils, .nils, .nils, (.int .i64 (.lit 0)), (.int .i64 (.lit 0)), (.str 0 0), (.int .i64 (.lit 0)), .nils, .nils, .nils, (.int .i64 (.lit 0))]), none⟩,
  ⟨none, (.store 23 (.t k5) (.t k20)), none⟩]
def f61r6 : List POper := [⟨(some k21), (.mov (.t k0)), none⟩,
  ⟨(some k22), (.fieldA 0 (.t k5)), none⟩,
  ⟨(some k23), (.load false 1 (.t k22)), none⟩,
  ⟨(some k24), (.callF 60 [(.t k21), (.t k23)]), none⟩]
def f61r7 : List POper := [⟨(some k25), (.mov (.t k0)), none⟩,
  ⟨(some k26), (.fieldA 1 (.t k5)), none⟩,
  ⟨(some k27), (.load false 1 (.t k26)), none⟩,
  ⟨(some k28), (.callF 58 [(.t k25), (.t k27), (.v (.bool true))]), none⟩]
def f61r8 : List POper := [⟨(some k29), (.mov (.t k0)), none⟩,
  ⟨(some k30), (.fieldA 2 (.t k5)), none⟩,
  ⟨(some k31), (.load true 7 (.t k30)), none⟩,
  ⟨(some k32), (.callF 55 [(.t k29), (.t k31)]), none⟩]
def f61r9 : List POper := [⟨(some k33), (.mov (.t k0)), none⟩,
  ⟨(some k34), (.fieldA 9 (.t k5)), none⟩,
  ⟨(some k35), (.load true 7 (.t k34)), none⟩,
  ⟨(some k36), (.callF 55 [(.t k33), (.t k35)]), none⟩]
def f61r10 : List POper := [⟨(some k37), (.mov (.t k0)), none⟩,
  ⟨(some k38), (.fieldA 16 (.t k5)), none⟩,
  ⟨(some k39), (.load true 7 (.t k38)), none⟩,
  ⟨(some k40), (.callF 55 [(.t k37), (.t k39)]), none⟩]
def f61r11 : List POper := [⟨(some k41), (.bin .add (.t k17) (.v (.int .i64 (.lit 1)))), none⟩,
  ⟨(some k17), (.mov (.t k41)), none⟩]
def f61l0 : PCode := (.seq (.ops f61r4)
 (.seq (.cond (.t k18)
 .skip
 (.exit 0))
 (.seq (.block 1 (.seq (.ops f61r5)
 (.seq (.ops f61r6)
 (.seq (.ops f61r7)
 (.seq (.ops f61r8)
 (.seq (.ops f61r9)
 (.ops f61r10)))))))
 (.ops f61r11))))
def f61 : PFn := ⟨(.seq (.ops f61r0)
 (.seq (.seq (.ops f61r1)
 (.cond (.t k8)
 .ret
 .skip))
 (.seq (.ops f61r2)
 (.seq (.ops f61r3)
 (.block 0 (.loop f61l0)))))),
 []⟩
/- (*refuter/parser.checker).ops -/
def f62r0 : List POper := [⟨(some k3), (.box (.t k1)), none⟩]
def f62r1 : List POper := [⟨(some k8), (.fieldA 0 (.t k3)), none⟩,
  ⟨(some k9), (.load false 1 (.t k8)), none⟩,
  ⟨(some k10), (.bin .neq (.t k9) (.v (.int .i64 (.lit 5)))), none⟩]
def f62r2 : List POper := [⟨(some k11), (.mov (.t k0)), none⟩,
  ⟨(some k12), (.fieldA 38 (.t k3)), none⟩,
  ⟨(some k13), (.load true 7 (.t k12)), none⟩,
  ⟨(some k14), (.callF 55 [(.t k11), (.t k13)]), none⟩]
def f62r3 : List POper := [⟨(some k15), (.mov (.t k0)), none⟩,
  ⟨(some k16), (.fieldA 37 (.t k3)), none⟩,
  ⟨(some k17), (.load false 1 (.t k16)), none⟩,
  ⟨(some k18), (.lenL (.t k17)), none⟩,
  ⟨(some k19), (.callF 24 [(.t k15), (.t k18), (.v (.int .i64 (.lit 16)))]), none⟩]
def f62r4 : List POper := [⟨(some k20), (.fieldA 37 (.t k3)), none⟩,
  ⟨(some k21), (.load false 1 (.t k20)), none⟩,
  ⟨(some k22), (.lenL (.t k21)), none⟩,
  ⟨(some k23), (.mov (.v (.int .i64 (.lit 0)))), none⟩]
def f62r5 : List POper := [⟨(some k24), (.bin .lss (.t k23) (.t k22)), none⟩]
def f62r6 : List POper := [⟨(some k25), (.indexL 3 (.t k21) (.t k23)), none⟩,
  ⟨(some k26), (.load true 3 (.t k25)), none⟩,
  ⟨(some k5), (.new [(.str 0 0), .nils, .nils]), none⟩,
  ⟨none, (.store 3 (.t k5) (.t k26)), none⟩]
def f62r7 : List POper := [⟨(some k27), (.mov (.t k0)), none⟩,
  ⟨(some k28), (.fieldA 0 (.t k5)), none⟩,
  ⟨(some k29), (.load false 1 (.t k28)), none⟩,
  ⟨(some k30), (.callF 60 [(.t k27), (.t k29)]), none⟩]
def f62r8 : List POper := [⟨(some k31), (.mov (.t k0)), none⟩,
  ⟨(some k32), (.fieldA 1 (.t k5)), none⟩,
  ⟨(some k33), (.load false 1 (.t k32)), none⟩,
  ⟨(some k34), (.callF 54 [(.t k31), (.t k33)]), none⟩]
def f62r9 : List POper := [⟨(some k35), (.mov (.t k0)), none⟩,
  ⟨(some k36), (.fieldA 2 (.t k5)), none⟩,
  ⟨(some k37), (.load false 1 (.t k36)), none⟩,
  ⟨(some k38), (.lenL (.t k37)), none⟩,
  ⟨(some k39), (.callF 24 [(.t k35), (.t k38), (.v (.int .i64 (.lit 16)))]), none⟩]
def f62r10 : List POper := [⟨(some k40), (.fieldA 2 (.t k5)), none⟩,
  ⟨(some k41), (.load false 1 (.t k40)), none⟩,
  ⟨(some k42), (.lenL (.t k41)), none⟩,
  ⟨(some k43), (.mov (.v (.int .i64 (.lit 0)))), none⟩]
def f62r11 : List POper := [⟨(some k44), (.bin .lss (.t k43) (.t k42)), none⟩]
def f62r12 : List POper := [⟨(some k45), (.indexL 14 (.t k41) (.t k43)), none⟩,
  ⟨(some k46), (.load true 14 (.t k45)), none⟩,
  ⟨(some k7), (.new [(.int .i64 (.lit 0)), (.str 0 0), (.int .i64 (.lit 0)), .nils, .nils, .nils, (.int .i64 (.lit 0)), (.int .i64 (.lit 0)), (.str 0 0), (.int .i64 (.lit 0)), .nils, .nils, .nils, (.int .i64 (.lit 0))]), none⟩,
  ⟨none, (.store 14 (.t k7) (.t k46)), none⟩]
def f62r13 : List POper := [⟨(some k47), (.mov (.t k0)), none⟩,
  ⟨(some k48), (.fieldA 0 (.t k7)), none⟩,
  ⟨(some k49), (.load true 7 (.t k48)), none⟩,
  ⟨(some k50), (.callF 55 [(.t k47), (.t k49)]), none⟩]
def f62r14 : List POper := [⟨(some k51), (.mov (.t k0)), none⟩,
  ⟨(some k52), (.fieldA 7 (.t k7)), none⟩,
  ⟨(some k53), (.load true 7 (.t k52)), none⟩,
  ⟨(some k54), (.callF 55 [(.t k51), (.t k53)]), none⟩]
def f62r15 : List POper := [⟨(some k55), (.bin .add (.t k43) (.v (.int .i64 (.lit 1)))), none⟩,
  ⟨(some k43), (.mov (.t k55)), none⟩]
def f62l1 : PCode := (.seq (.ops f62r11)
 (.seq (.cond (.t k44)
 .skip
 (.exit 2))
 (.seq (.block 3 (.seq (.ops f62r12)
 (.seq (.ops f62r13)
 (.ops f62r14))))
 (.ops f62r15))))
def f62r16 : List POper := [⟨(some k56), (.bin .add (.t k23) (.v (.int .i64 (.lit 1)))), none⟩,
  ⟨(some k23), (.mov (.t k56)), none⟩]
def f62l0 : PCode := (.seq (.ops f62r5)
 (.seq (.cond (.t k24)
 .skip
 (.exit 0))
 (.seq (.block 1 (.seq (.ops f62r6)
 (.seq (.ops f62r7)
 (.seq (.ops f62r8)
 (.seq (.ops f62r9)
 (.seq (.ops f62r10)
 (.block 2 (.loop f62l1))))))))
 (.ops f62r16))))
def f62 : PFn := ⟨(.seq (.ops f62r0)
 (.seq (.seq (.ops f62r1)
 (.cond (.t k10)
 .ret
 .skip))
 (.seq (.ops f62r2)
 (.seq (.ops f62r3)
 (.seq (.ops f62r4)
 (.block 0 (.loop f62l0))))))),
 []⟩
/- refuter/eval.builtins -/
def f63r0 : List POper := [⟨(some k0), (.mov (.v .nilm)), none⟩]
def f63r1 : List POper := [⟨(some k1), .mkmap, none⟩,
  ⟨(some k2), (.build [(.int .i64 (.lit 0)), .nilf] [(0, 1, (.v (.int .i64 (.lit 1)))), (1, 1, (.v (.fn 97 [] [])))]), none⟩,
  ⟨none, (.mapupd true (.t k1) (.v (.str 4 1702521203)) (.t k2)), none⟩,
  ⟨(some k3), (.build [(.int .i64 (.lit 0)), .nilf] [(0, 1, (.v (.int .i64 (.lit 2)))), (1, 1, (.v (.fn 100 [] [])))]), none⟩,
  ⟨none, (.mapupd true (.t k1) (.v (.str 2 29793)) (.t k3)), none⟩,
  ⟨(some k4), (.build [(.int .i64 (.lit 0)), .nilf] [(0, 1, (.v (.int .i64 (.lit 2)))), (1, 1, (.v (.fn 101 [] [])))]), none⟩,
  ⟨none, (.mapupd true (.t k1) (.v (.str 4 1752397168)) (.t k4)), none⟩,
  ⟨(some k5), (.build [(.int .i64 (.lit 0)), .nilf] [(0, 1, (.v (.int .i64 (.lit 2)))), (1, 1, (.v (.fn 102 [] [])))]), none⟩,
  ⟨none, (.mapupd true (.t k1) (.v (.str 4 1701536116)) (.t k5)), none⟩,
  ⟨(some k6), (.build [(.int .i64 (.lit 0)), .nilf] [(0, 1, (.v (.int .i64 (.lit 2)))), (1, 1, (.v (.fn 104 [] [])))]), none⟩,
  ⟨none, (.mapupd true (.t k1) (.v (.str 4 1886351972)) (.t k6)), none⟩,
  ⟨(some k7), (.build [(.int .i64 (.lit 0)), .nilf] [(0, 1, (.v (.int .i64 (.lit 3)))), (1, 1, (.v (.fn 105 [] [])))]), none⟩,
  ⟨none, (.mapupd true (.t k1) (.v (.str 3 7628147)) (.t k7)), none⟩,
  ⟨(some k8), (.build [(.int .i64 (.lit 0)), .nilf] [(0, 1, (.v (.int .i64 (.lit 2)))), (1, 1, (.v (.fn 106 [] [])))]), none⟩,
  ⟨none, (.mapupd true (.t k1) (.v (.str 3 7889261)) (.t k8)), none⟩,
  ⟨(some k9), (.build [(.int .i64 (.lit 0)), .nilf] [(0, 1, (.v (.int .i64 (.lit 2)))), (1, 1, (.v (.fn 108 [] [])))]), none⟩,
  ⟨none, (.mapupd true (.t k1) (.v (.str 3 7235949)) (.t k9)), none⟩,
  ⟨(some k10), (.build [(.int .i64 (.lit 0)), .nilf] [(0, 1, (.v (.int .i64 (.lit 1)))), (1, 1, (.v (.fn 109 [] [])))]), none⟩,
  ⟨none, (.mapupd true (.t k1) (.v (.str 4 1885957222)) (.t k10)), none⟩,
  ⟨(some k11), (.mov (.t k1)), none⟩,
  ⟨(some k0), (.mov (.t k11)), none⟩]
def f63 : PFn := ⟨(.seq (.ops f63r0)
 (.seq (.ops f63r1)
 .ret)),
 [.tmp k0]⟩
/- refuter/values.Size -/
def f64r0 : List POper := [⟨(some k1), (.box (.t k0)), none⟩,
  ⟨(some k2), (.mov (.v (.int .i64 (.lit 0)))), none⟩]
def f64r1 : List POper := [⟨(some k3), (.new [(.int .i64 (.lit 0))]), none⟩,
  ⟨none, (.store 1 (.t k3) (.v (.int .i64 (.lit 0)))), none⟩]
def f64r2 : List POper := [⟨(some k4), (.load true 4 (.t k1)), none⟩,
  ⟨(some k5), (.mkfn 111 [] [(.t k3)]), none⟩,
  ⟨(some k6), (.callF 110 [(.t k4), (.t k5)]), none⟩]
def f64r3 : List POper := [⟨(some k7), (.load false 1 (.t k3)), none⟩,
  ⟨(some k2), (.mov (.t k7)), none⟩]
def f64 : PFn := ⟨(.seq (.ops f64r0)
 (.seq (.ops f64r1)
 (.seq (.ops f64r2)
 (.seq (.ops f64r3)
 .ret)))),
 [.tmp k2]⟩
/- (*refuter/eval.run).result$1 -/
def f65r0 : List POper := [⟨(some k8), .recover, none⟩,
  ⟨(some k5), (.mov (.t k8)), none⟩]
def f65r1 : List POper := [⟨(some k9), (.mov (.t k5)), none⟩,
  ⟨(some k10), (.eq true .iface (.t k9) (.v .nili)), none⟩]
def f65r2 : List POper := [⟨(some k12), (.mov (.t k5)), none⟩,
  ⟨(some k13), (.assert 166 (.agg [(.int .i64 (.lit 0))]) true (.t k12)), none⟩,
  ⟨(some k11), (.mov (.t k13)), none⟩,
  ⟨(some k14), (.extract (.t k11) 0), none⟩,
  ⟨(some k15), (.extract (.t k11) 1), none⟩,
  ⟨(some k6), (.new [(.int .i64 (.lit 0))]), none⟩,
  ⟨none, (.store 1 (.t k6) (.t k14)), none⟩,
  ⟨(some k7), (.mov (.t k15)), none⟩]
def f65r3 : List POper := [⟨(some k16), (.mov (.t k7)), none⟩,
  ⟨(some k17), (.un .not (.t k16)), none⟩]
def f65r4 : List POper := [⟨(some k18), (.mov (.t k5)), none⟩,
  ⟨none, (.panic (.t k18)), none⟩]
def f65r5 : List SItem := [.L 0 ⟨(some k19), (.build [(.int .i64 (.lit 0)), (.int .i64 (.lit 0)), (.str 0 0), .nils] []), none⟩,
  .L 1 ⟨(some k20), (.load false 1 (.t k0)), none⟩,
  .L 2 ⟨(some k21), (.nilc (.t k20)), none⟩,
  .L 3 ⟨(some k22), (.fieldA 7 (.t k21)), none⟩,
  .L 4 ⟨(some k23), (.load true 3 (.t k22)), none⟩,
  .L 5 ⟨(some k24), (.load false 1 (.t k0)), none⟩,
  .L 6 ⟨(some k25), (.nilc (.t k24)), none⟩,
  .L 7 ⟨(some k26), (.fieldA 11 (.t k25)), none⟩,
  .L 8 ⟨(some k27), (.load false 1 (.t k26)), none⟩,
  .L 9 ⟨(some k28), (.fieldA 0 (.t k6)), none⟩,
  .L 10 ⟨(some k29), (.load false 1 (.t k28)), none⟩,
  .H 11 ⟨none, (.store 4 (.t k1) (.t k19)), none⟩ [],
  .R [(10, ⟨(some k29), (.load false 1 (.t k28)), none⟩)],
  .H 12 ⟨none, (.store 3 (.t k2) (.t k23)), none⟩ [],
  .R [(10, ⟨(some k29), (.load false 1 (.t k28)), none⟩)],
  .H 13 ⟨none, (.store 1 (.t k3) (.t k27)), none⟩ [],
  .R [(10, ⟨(some k29), (.load false 1 (.t k28)), none⟩)],
  .H 14 ⟨none, (.store 1 (.t k4) (.t k29)), none⟩ [],
  .R []]
def f65 : PFn := ⟨(.seq (.ops f65r0)
 (.seq (.ops f65r1)
 (.cond (.t k10)
 (.seq (.ops f65r2)
 (.seq (.seq (.ops f65r3)
 (.cond (.t k17)
 (.ops f65r4)
 .skip))
 (.staged f65r5 ⟨[k19, k20, k21, k22, k23, k24, k25, k26, k27, k28, k29], []⟩)))
 .skip))),
 []⟩
/- refuter/clone.Value -/
def f66r0 : List POper := [⟨(some k1), (.box (.t k0)), none⟩,
  ⟨(some k2), (.new [(.int .i64 (.lit 0)), (.int .i64 (.lit 0)), (.str 0 0), .nils]), none⟩]
def f66r1 : List POper := [⟨(some k3), (.fieldA 3 (.t k1)), none⟩,
  ⟨(some k4), (.load false 1 (.t k3)), none⟩,
  ⟨(some k5), (.callF 112 [(.t k4), (.v (.fn 66 [] []))]), none⟩,
  ⟨(some k6), (.fieldA 3 (.t k1)), none⟩,
  ⟨none, (.store 1 (.t k6) (.t k5)), none⟩]
def f66r2 : List POper := [⟨(some k7), (.load true 4 (.t k1)), none⟩,
  ⟨none, (.store 4 (.t k2) (.t k7)), none⟩]
def f66 : PFn := ⟨(.seq (.ops f66r0)
 (.seq (.ops f66r1)
 (.seq (.ops f66r2)
 .ret))),
 [.cell k2 true 4]⟩
/- refuter/eval.end -/
def f67r0 : List POper := [⟨(some k2), (.mov (.t k0)), none⟩,
  ⟨(some k3), (.build [(.int .i64 (.lit 0))] [(0, 1, (.t k2))]), none⟩,
  ⟨(some k4), (.mkif 166 (.t k3)), none⟩,
  ⟨none, (.panic (.t k4)), none⟩]
def f67 : PFn := ⟨(.ops f67r0),
 []⟩
/- (*refuter/eval.run).value -/
def f68r0 : List POper := [⟨(some k8), (.new [(.int .i64 (.lit 0)), (.int .i64 (.lit 0)), (.str 0 0), .nils, (.int .i64 (.lit 0))]), none⟩]
def f68r1 : List POper := [⟨(some k12), (.mov (.t k3)), none⟩,
  ⟨(some k13), (.nilc (.t k12)), none⟩,
  ⟨(some k14), (.fieldA 0 (.t k13)), none⟩,
  ⟨(some k15), (.load false 1 (.t k14)), none⟩]
def f68r2 : List POper := [⟨(some k17), (.bin .eql (.t k15) (.v (.int .i64 (.lit 0)))), none⟩,
  ⟨(some k16), (.mov (.t k17)), none⟩]
def f68r3 : List POper := [⟨(some k18), (.mov (.t k3)), none⟩,
  ⟨(some k19), (.nilc (.t k18)), none⟩,
  ⟨(some k20), (.fieldA 2 (.t k19)), none⟩,
  ⟨(some k21), (.load false 1 (.t k20)), none⟩,
  ⟨(some k22), (.callF 98 [(.t k21)]), none⟩,
  ⟨none, (.store 5 (.t k8) (.t k22)), none⟩]
def f68r4 : List POper := [⟨(some k24), (.bin .eql (.t k15) (.v (.int .i64 (.lit 1)))), none⟩,
  ⟨(some k23), (.mov (.t k24)), none⟩]
def f68r5 : List POper := [⟨(some k25), (.mov (.t k3)), none⟩,
  ⟨(some k26), (.nilc (.t k25)), none⟩,
  ⟨(some k27), (.fieldA 2 (.t k26)), none⟩,
  ⟨(some k28), (.load false 1 (.t k27)), none⟩,
  ⟨(some k29), (.bin .eql (.t k28) (.v (.int .i64 (.lit 0)))), none⟩,
  ⟨(some k30), (.mov (.t k29)), none⟩,
  ⟨(some k31), (.mov (.t k3)), (some (k30, false))⟩,
  ⟨(some k32), (.nilc (.t k31)), (some (k30, false))⟩,
  ⟨(some k33), (.fieldA 2 (.t k32)), (some (k30, false))⟩,
  ⟨(some k34), (.load false 1 (.t k33)), (some (k30, false))⟩,
  ⟨(some k35), (.bin .eql (.t k34) (.v (.int .i64 (.lit 1)))), (some (k30, false))⟩,
  ⟨(some k36), (.pick (.t k30) (.v (.bool true)) (.t k35)), none⟩,
  ⟨(some k37), (.callF 113 [(.t k36)]), none⟩]
def f68r6 : List POper := [⟨(some k38), (.mov (.t k3)), none⟩,
  ⟨(some k39), (.nilc (.t k38)), none⟩,
  ⟨(some k40), (.fieldA 2 (.t k39)), none⟩,
  ⟨(some k41), (.load false 1 (.t k40)), none⟩,
  ⟨(some k42), (.bin .eql (.t k41) (.v (.int .i64 (.lit 1)))), none⟩,
  ⟨(some k43), (.callF 114 [(.t k42)]), none⟩,
  ⟨none, (.store 5 (.t k8) (.t k43)), none⟩]
def f68r7 : List POper := [⟨(some k45), (.bin .eql (.t k15) (.v (.int .i64 (.lit 2)))), none⟩,
  ⟨(some k44), (.mov (.t k45)), none⟩]
def f68r8 : List POper := [⟨(some k46), (.mov (.t k2)), none⟩,
  ⟨(some k47), (.eq true .ptr (.t k46) (.v .nilp)), none⟩]
def f68r9 : List SItem := [.L 0 ⟨(some k52), (.mov (.t k2)), none⟩,
  .L 1 ⟨(some k53), (.nilc (.t k52)), none⟩,
  .L 2 ⟨(some k54), (.fieldA 0 (.t k53)), none⟩,
  .L 3 ⟨(some k55), (.load false 1 (.t k54)), none⟩,
  .L 4 ⟨(some k56), (.mov (.t k3)), none⟩,
  .L 5 ⟨(some k57), (.nilc (.t k56)), none⟩,
  .L 6 ⟨(some k58), (.fieldA 1 (.t k57)), none⟩,
  .L 7 ⟨(some k59), (.load false 1 (.t k58)), none⟩,
  .L 8 ⟨(some k60), (.bin .eql (.t k55) (.t k59)), none⟩]
def f68r10 : List POper := [⟨(some k61), (.mov (.t k2)), none⟩,
  ⟨(some k62), (.nilc (.t k61)), none⟩,
  ⟨(some k63), (.fieldA 1 (.t k62)), none⟩,
  ⟨(some k64), (.load true 5 (.t k63)), none⟩,
  ⟨none, (.store 5 (.t k8) (.t k64)), none⟩]
def f68r11 : List POper := [⟨(some k48), (.mov (.t k2)), none⟩,
  ⟨(some k49), (.nilc (.t k48)), none⟩,
  ⟨(some k50), (.fieldA 6 (.t k49)), none⟩,
  ⟨(some k51), (.load false 1 (.t k50)), none⟩,
  ⟨(some k2), (.mov (.t k51)), none⟩]
def f68l0 : PCode := (.seq (.seq (.ops f68r8)
 (.cond (.t k47)
 .skip
 (.exit 1)))
 (.seq (.block 2 (.seq (.staged f68r9 ⟨[k52, k53, k54, k55, k56, k57, k58, k59, k60], []⟩)
 (.cond (.t k60)
 (.seq (.ops f68r10)
 .ret)
 .skip)))
 (.ops f68r11)))
def f68r12 : List POper := [⟨(some k65), (.callF 67 [(.v (.int .i64 (.lit 6)))]), none⟩]
def f68r13 : List POper := [⟨(some k67), (.bin .eql (.t k15) (.v (.int .i64 (.lit 3)))), none⟩,
  ⟨(some k66), (.mov (.t k67)), none⟩]
def f68r14 : List POper := [⟨(some k68), (.mov (.t k0)), none⟩,
  ⟨(some k69), (.mov (.t k1)), none⟩,
  ⟨(some k70), (.mov (.t k2)), none⟩,
  ⟨(some k71), (.mov (.t k3)), none⟩,
  ⟨(some k72), (.callF 115 [(.t k68), (.t k69), (.t k70), (.t k71)]), none⟩,
  ⟨none, (.store 5 (.t k8) (.t k72)), none⟩]
def f68r15 : List POper := [⟨(some k74), (.bin .eql (.t k15) (.v (.int .i64 (.lit 4)))), none⟩,
  ⟨(some k73), (.mov (.t k74)), none⟩]
def f68r16 : List SItem := [.L 0 ⟨(some k76), (.mov (.t k0)), none⟩,
  .L 1 ⟨(some k77), (.nilc (.t k76)), none⟩,
  .L 2 ⟨(some k78), (.fieldA 1 (.t k77)), none⟩,
  .L 3 ⟨(some k79), (.load false 1 (.t k78)), none⟩,
  .L 4 ⟨(some k80), (.mov (.t k3)), none⟩,
  .L 5 ⟨(some k81), (.nilc (.t k80)), none⟩,
  .L 6 ⟨(some k82), (.fieldA 1 (.t k81)), none⟩,
  .L 7 ⟨(some k83), (.load false 1 (.t k82)), none⟩,
  .L 8 ⟨(some k84), (.lookup true (.int .i64 (.lit 0)) true (.t k79) (.t k83)), none⟩,
  .L 9 ⟨(some k75), (.mov (.t k84)), none⟩,
  .L 10 ⟨(some k85), (.extract (.t k75) 0), none⟩,
  .L 11 ⟨(some k86), (.extract (.t k75) 1), none⟩,
  .L 12 ⟨(some k9), (.mov (.t k85)), none⟩,
  .L 13 ⟨(some k10), (.mov (.t k86)), none⟩]
def f68r17 : List POper := [⟨(some k87), (.mov (.t k10)), none⟩,
  ⟨(some k88), (.un .not (.t k87)), none⟩]
def f68r18 : List POper := [⟨(some k89), (.callF 67 [(.v (.int .i64 (.lit 6)))]), none⟩]
def f68r19 : List POper := [⟨(some k90), (.mov (.t k3)), none⟩,
  ⟨(some k91), (.nilc (.t k90)), none⟩,
  ⟨(some k92), (.fieldA 5 (.t k91)), none⟩,
  ⟨(some k93), (.load false 1 (.t k92)), none⟩,
  ⟨(some k94), (.lenL (.t k93)), none⟩,
  ⟨(some k95), (.mov (.t k9)), none⟩,
  ⟨(some k96), (.bin .eql (.t k94) (.t k95)), none⟩,
  ⟨(some k97), (.callF 113 [(.t k96)]), none⟩]
def f68r20 : List SItem := [.L 0 ⟨(some k98), (.mov (.t k3)), none⟩,
  .L 1 ⟨(some k99), (.nilc (.t k98)), none⟩,
  .L 2 ⟨(some k100), (.fieldA 1 (.t k99)), none⟩,
  .L 3 ⟨(some k101), (.load false 1 (.t k100)), none⟩,
  .L 4 ⟨(some k102), (.build [(.int .i64 (.lit 0)), (.int .i64 (.lit 0)), (.str 0 0), .nils] [(0, 1, (.v (.int .i64 (.lit 3)))), (2, 1, (.t k101))]), none⟩,
  .L 5 ⟨(some k103), (.mov (.t k0)), none⟩,
  .L 6 ⟨(some k104), (.mov (.t k1)), none⟩,
  .L 7 ⟨(some k105), (.mov (.t k2)), none⟩,
  .L 8 ⟨(some k106), (.mov (.t k3)), none⟩,
  .L 9 ⟨(some k107), (.nilc (.t k106)), none⟩,
  .L 10 ⟨(some k108), (.fieldA 5 (.t k107)), none⟩,
  .L 11 ⟨(some k109), (.load false 1 (.t k108)), none⟩,
  .H 12 ⟨(some k110), (.callF 117 [(.t k103), (.t k104), (.t k105), (.t k109)]), none⟩ [],
  .R [(3, ⟨(some k101), (.load false 1 (.t k100)), none⟩)],
  .H 13 ⟨(some k111), (.callF 116 [(.t k102), (.t k110)]), none⟩ [],
  .R [],
  .H 14 ⟨none, (.store 5 (.t k8) (.t k111)), none⟩ [],
  .R []]
def f68r21 : List POper := [⟨(some k113), (.bin .eql (.t k15) (.v (.int .i64 (.lit 5)))), none⟩,
  ⟨(some k112), (.mov (.t k113)), none⟩]
def f68r22 : List POper := [⟨(some k114), (.build [(.int .i64 (.lit 0)), (.int .i64 (.lit 0)), (.str 0 0), .nils] [(0, 1, (.v (.int .i64 (.lit 2))))]), none⟩,
  ⟨(some k115), (.mov (.t k0)), none⟩,
  ⟨(some k116), (.mov (.t k1)), none⟩,
  ⟨(some k117), (.mov (.t k2)), none⟩,
  ⟨(some k118), (.mov (.t k3)), none⟩,
  ⟨(some k119), (.nilc (.t k118)), none⟩,
  ⟨(some k120), (.fieldA 5 (.t k119)), none⟩,
  ⟨(some k121), (.load false 1 (.t k120)), none⟩,
  ⟨(some k122), (.callF 117 [(.t k115), (.t k116), (.t k117), (.t k121)]), none⟩,
  ⟨(some k123), (.callF 116 [(.t k114), (.t k122)]), none⟩,
  ⟨none, (.store 5 (.t k8) (.t k123)), none⟩]
def f68r23 : List POper := [⟨(some k125), (.bin .eql (.t k15) (.v (.int .i64 (.lit 6)))), none⟩,
  ⟨(some k124), (.mov (.t k125)), none⟩]
def f68r24 : List POper := [⟨(some k126), (.mov (.t k3)), none⟩,
  ⟨(some k127), (.nilc (.t k126)), none⟩,
  ⟨(some k128), (.fieldA 5 (.t k127)), none⟩,
  ⟨(some k129), (.load false 1 (.t k128)), none⟩,
  ⟨(some k130), (.lenL (.t k129)), none⟩,
  ⟨(some k131), (.bin .eql (.t k130) (.v (.int .i64 (.lit 3)))), none⟩,
  ⟨(some k132), (.callF 113 [(.t k131)]), none⟩]
def f68r25 : List POper := [⟨(some k11), (.mov (.v (.int .i64 (.lit 1)))), none⟩]
def f68r26 : List POper := [⟨(some k133), (.mov (.t k0)), none⟩,
  ⟨(some k134), (.mov (.t k1)), none⟩,
  ⟨(some k135), (.mov (.t k2)), none⟩,
  ⟨(some k136), (.mov (.t k3)), none⟩,
  ⟨(some k137), (.nilc (.t k136)), none⟩,
  ⟨(some k138), (.fieldA 5 (.t k137)), none⟩,
  ⟨(some k139), (.load false 1 (.t k138)), none⟩,
  ⟨(some k140), (.indexL 7 (.t k139) (.v (.int .i64 (.lit 0)))), none⟩,
  ⟨(some k141), (.callF 118 [(.t k133), (.t k134), (.t k135), (.t k140)]), none⟩]
def f68r27 : List POper := [⟨(some k11), (.mov (.v (.int .i64 (.lit 0)))), none⟩]
def f68r28 : List SItem := [.L 0 ⟨(some k142), (.mov (.t k0)), none⟩,
  .L 1 ⟨(some k143), (.mov (.t k0)), none⟩,
  .L 2 ⟨(some k144), (.nilc (.t k143)), none⟩,
  .L 3 ⟨(some k145), (.fieldA 11 (.t k144)), none⟩,
  .L 4 ⟨(some k146), (.load false 1 (.t k145)), none⟩,
  .L 5 ⟨(some k147), (.mov (.t k1)), none⟩,
  .L 6 ⟨(some k148), (.mov (.t k3)), none⟩,
  .L 7 ⟨(some k149), (.nilc (.t k148)), none⟩,
  .L 8 ⟨(some k150), (.fieldA 6 (.t k149)), none⟩,
  .L 9 ⟨(some k151), (.load false 1 (.t k150)), none⟩,
  .L 10 ⟨(some k152), (.mov (.t k11)), none⟩,
  .L 11 ⟨(some k153), (.build [(.str 0 0), (.int .i64 (.lit 0)), (.int .i64 (.lit 0))] [(0, 1, (.t k147)), (1, 1, (.t k151)), (2, 1, (.t k152))]), none⟩,
  .A 12 ⟨(some k154), (.bslice 3 1 [(.str 0 0), (.int .i64 (.lit 0)), (.int .i64 (.lit 0))] [(0, 3, (.t k153))]), none⟩,
  .H 13 ⟨(some k155), (.append 3 (.t k146) (.t k154)), none⟩ [12],
  .R [],
  .L 14 ⟨(some k156), (.nilc (.t k142)), none⟩,
  .L 15 ⟨(some k157), (.fieldA 11 (.t k156)), none⟩,
  .H 16 ⟨none, (.store 1 (.t k157) (.t k155)), none⟩ [12],
  .R []]
def f68r29 : List POper := [⟨(some k158), (.mov (.t k0)), none⟩,
  ⟨(some k159), (.mov (.t k1)), none⟩,
  ⟨(some k160), (.mov (.t k2)), none⟩,
  ⟨(some k161), (.mov (.t k3)), none⟩,
  ⟨(some k162), (.nilc (.t k161)), none⟩,
  ⟨(some k163), (.fieldA 5 (.t k162)), none⟩,
  ⟨(some k164), (.load false 1 (.t k163)), none⟩,
  ⟨(some k165), (.mov (.t k11)), none⟩,
  ⟨(some k166), (.bin .add (.v (.int .i64 (.lit 1))) (.t k165)), none⟩,
  ⟨(some k167), (.indexL 7 (.t k164) (.t k166)), none⟩,
  ⟨(some k168), (.callF 30 [(.t k158), (.t k159), (.t k160), (.t k167)]), none⟩,
  ⟨none, (.store 5 (.t k8) (.t k168)), none⟩]
def f68r30 : List POper := [⟨(some k170), (.bin .eql (.t k15) (.v (.int .i64 (.lit 7)))), none⟩,
  ⟨(some k169), (.mov (.t k170)), none⟩]
def f68r31 : List POper := [⟨(some k171), (.mov (.t k3)), none⟩,
  ⟨(some k172), (.nilc (.t k171)), none⟩,
  ⟨(some k173), (.fieldA 5 (.t k172)), none⟩,
  ⟨(some k174), (.load false 1 (.t k173)), none⟩,
  ⟨(some k175), (.lenL (.t k174)), none⟩,
  ⟨(some k176), (.bin .eql (.t k175) (.v (.int .i64 (.lit 2)))), none⟩,
  ⟨(some k177), (.callF 113 [(.t k176)]), none⟩]
def f68r32 : List SItem := [.L 0 ⟨(some k178), (.mov (.t k0)), none⟩,
  .L 1 ⟨(some k179), (.mov (.t k1)), none⟩,
  .L 2 ⟨(some k180), (.mov (.t k3)), none⟩,
  .L 3 ⟨(some k181), (.nilc (.t k180)), none⟩,
  .L 4 ⟨(some k182), (.fieldA 1 (.t k181)), none⟩,
  .L 5 ⟨(some k183), (.load false 1 (.t k182)), none⟩,
  .L 6 ⟨(some k184), (.mov (.t k0)), none⟩,
  .L 7 ⟨(some k185), (.mov (.t k1)), none⟩,
  .L 8 ⟨(some k186), (.mov (.t k2)), none⟩,
  .L 9 ⟨(some k187), (.mov (.t k3)), none⟩,
  .L 10 ⟨(some k188), (.nilc (.t k187)), none⟩,
  .L 11 ⟨(some k189), (.fieldA 5 (.t k188)), none⟩,
  .L 12 ⟨(some k190), (.load false 1 (.t k189)), none⟩,
  .L 13 ⟨(some k191), (.indexL 7 (.t k190) (.v (.int .i64 (.lit 0)))), none⟩,
  .L 15 ⟨(some k193), (.mov (.t k2)), none⟩,
  .L 18 ⟨(some k196), (.mov (.t k3)), none⟩,
  .L 19 ⟨(some k197), (.nilc (.t k196)), none⟩,
  .L 20 ⟨(some k198), (.fieldA 5 (.t k197)), none⟩,
  .L 21 ⟨(some k199), (.load false 1 (.t k198)), none⟩,
  .L 22 ⟨(some k200), (.indexL 7 (.t k199) (.v (.int .i64 (.lit 1)))), none⟩,
  .H 14 ⟨(some k192), (.callF 30 [(.t k184), (.t k185), (.t k186), (.t k191)]), none⟩ [],
  .R [(5, ⟨(some k183), (.load false 1 (.t k182)), none⟩), (21, ⟨(some k199), (.load false 1 (.t k198)), none⟩)],
  .L 16 ⟨(some k194), (.build [(.str 0 0), (.int .i64 (.lit 0)), (.int .i64 (.lit 0)), (.str 0 0), .nils, (.int .i64 (.lit 0)), .nilp] [(0, 1, (.t k183)), (1, 5, (.t k192)), (6, 1, (.t k193))]), none⟩,
  .A 17 ⟨(some k195), (.box (.t k194)), none⟩,
  .H 23 ⟨(some k201), (.callF 30 [(.t k178), (.t k179), (.t k195), (.t k200)]), none⟩ [17],
  .R [],
  .H 24 ⟨none, (.store 5 (.t k8) (.t k201)), none⟩ [17],
  .R []]
def f68r33 : List POper := [⟨(some k203), (.bin .eql (.t k15) (.v (.int .i64 (.lit 8)))), none⟩,
  ⟨(some k202), (.mov (.t k203)), none⟩]
def f68r34 : List POper := [⟨(some k204), (.mov (.t k0)), none⟩,
  ⟨(some k205), (.mov (.t k1)), none⟩,
  ⟨(some k206), (.mov (.t k2)), none⟩,
  ⟨(some k207), (.mov (.t k3)), none⟩,
  ⟨(some k208), (.callF 119 [(.t k204), (.t k205), (.t k206), (.t k207)]), none⟩,
  ⟨none, (.store 5 (.t k8) (.t k208)), none⟩]
def f68r35 : List POper := [⟨(some k210), (.bin .eql (.t k15) (.v (.int .i64 (.lit 9)))), none⟩,
  ⟨(some k209), (.mov (.t k210)), none⟩]
def f68r36 : List POper := [⟨(some k211), (.mov (.t k0)), none⟩,
  ⟨(some k212), (.mov (.t k1)), none⟩,
  ⟨(some k213), (.mov (.t k2)), none⟩,
  ⟨(some k214), (.mov (.t k3)), none⟩,
  ⟨(some k215), (.callF 120 [(.t k211), (.t k212), (.t k213), (.t k214)]), none⟩,
  ⟨none, (.store 5 (.t k8) (.t k215)), none⟩]
def f68r37 : List POper := [⟨(some k216), (.callF 67 [(.v (.int .i64 (.lit 9)))]), none⟩]
def f68r38 : List POper := [⟨(some k217), (.build [(.int .i64 (.lit 0)), (.int .i64 (.lit 0)), (.str 0 0), .nils, (.int .i64 (.lit 0))] []), none⟩,
  ⟨none, (.store 5 (.t k8) (.t k217)), none⟩]
def f68 : PFn := ⟨(.seq (.ops f68r0)
 (.seq (.seq (.ops f68r1)
 (.block 0 (.seq (.ops f68r2)
 (.cond (.t k16)
 (.seq (.ops f68r3)
 .ret)
 (.seq (.ops f68r4)
 (.cond (.t k23)
 (.seq (.ops f68r5)
 (.seq (.ops f68r6)
 .ret))
 (.seq (.ops f68r7)
 (.cond (.t k44)
 (.seq (.block 1 (.loop f68l0))
 (.ops f68r12))
 (.seq (.ops f68r13)
 (.cond (.t k66)
 (.seq (.ops f68r14)
 .ret)
 (.seq (.ops f68r15)
 (.cond (.t k73)
 (.seq (.staged f68r16 ⟨[k76, k77, k78, k79, k80, k81, k82, k83, k84, k75, k85, k86, k9, k10], []⟩)
 (.seq (.seq (.ops f68r17)
 (.cond (.t k88)
 (.ops f68r18)
 .skip))
 (.seq (.ops f68r19)
 (.seq (.staged f68r20 ⟨[k98, k99, k100, k101, k102, k103, k104, k105, k106, k107, k108, k109, k110, k111], []⟩)
 .ret))))
 (.seq (.ops f68r21)
 (.cond (.t k112)
 (.seq (.ops f68r22)
 .ret)
 (.seq (.ops f68r23)
 (.cond (.t k124)
 (.seq (.ops f68r24)
 (.seq (.ops f68r25)
 (.seq (.seq (.ops f68r26)
 (.cond (.t k141)
 (.ops f68r27)
 .skip))
 (.seq (.staged f68r28 ⟨[k142, k143, k144, k145, k146, k147, k148, k149, k150, k151, k152, k153, k154, k155, k156, k157], []⟩)
 (.seq (.ops f68r29)
 .ret)))))
 (.seq (.ops f68r30)
 (.cond (.t k169)
 (.seq (.ops f68r31)
 (.seq (.staged f68r32 ⟨[k178, k179, k180, k181, k182, k183, k184, k185, k186, k187, k188, k189, k190, k191, k192, k193, k194, k195, k196, k197, k198, k199, k200, k201], []⟩)
 .ret))
 (.seq (.ops f68r33)
 (.cond (.t k202)
 (.seq (.ops f68r34)
 .ret)
 (.seq (.ops f68r35)
 (.cond (.t k209)
 (.seq (.ops f68r36)
 .ret)
 .skip))))))))))))))))))))))
 (.seq (.ops f68r37)
 (.seq (.ops f68r38)
 .ret)))),
 [.cell k8 true 5]⟩
/- refuter/lexer.tokens$1 -/
def f69r0 : List POper := [⟨(some k6), (.load false 1 (.t k1)), none⟩,
  ⟨(some k7), (.callF 70 [(.t k6), (.v (.int .i64 (.lit 0)))]), none⟩,
  ⟨(some k3), (.mov (.t k7)), none⟩]
def f69r1 : List POper := [⟨(some k8), (.mov (.t k3)), none⟩,
  ⟨(some k9), (.load false 1 (.t k1)), none⟩,
  ⟨(some k10), (.lenS (.t k9)), none⟩,
  ⟨(some k11), (.bin .lss (.t k8) (.t k10)), none⟩]
def f69r2 : List POper := [⟨(some k16), (.load false 1 (.t k1)), none⟩,
  ⟨(some k17), (.mov (.t k3)), none⟩,
  ⟨(some k18), (.sliceS (.t k16) (some (.t k17)) none), none⟩,
  ⟨(some k19), (.callF 71 [(.t k18)]), none⟩,
  ⟨(some k15), (.mov (.t k19)), none⟩,
  ⟨(some k20), (.extract (.t k15) 0), none⟩,
  ⟨(some k21), (.extract (.t k15) 1), none⟩,
  ⟨(some k4), (.new [(.int .i64 (.lit 0)), (.int .i64 (.lit 0)), (.int .i64 (.lit 0)), (.str 0 0)]), none⟩,
  ⟨none, (.store 4 (.t k4) (.t k20)), none⟩,
  ⟨(some k5), (.mov (.t k21)), none⟩]
def f69r3 : List POper := [⟨(some k22), (.mov (.t k3)), none⟩,
  ⟨(some k23), (.fieldA 1 (.t k4)), none⟩,
  ⟨none, (.store 1 (.t k23) (.t k22)), none⟩]
def f69r4 : List POper := [⟨(some k24), (.mov (.t k0)), none⟩,
  ⟨(some k25), (.load true 4 (.t k4)), none⟩,
  ⟨(some k26), (.mov (.t k5)), none⟩,
  ⟨(some k27), (.callV (.t k24) [(.t k25), (.t k26)]), none⟩,
  ⟨(some k28), (.un .not (.t k27)), none⟩,
  ⟨(some k29), (.mov (.t k28)), none⟩,
  ⟨(some k30), (.mov (.t k5)), (some (k29, false))⟩,
  ⟨(some k31), (.bin .neq (.t k30) (.v (.int .i64 (.lit 0)))), (some (k29, false))⟩,
  ⟨(some k32), (.pick (.t k29) (.v (.bool true)) (.t k31)), none⟩]
def f69r5 : List POper := [⟨(some k33), (.mov (.t k3)), none⟩,
  ⟨(some k34), (.fieldA 3 (.t k4)), none⟩,
  ⟨(some k35), (.load false 1 (.t k34)), none⟩,
  ⟨(some k36), (.lenS (.t k35)), none⟩,
  ⟨(some k37), (.bin .add (.t k33) (.t k36)), none⟩,
  ⟨(some k3), (.mov (.t k37)), none⟩]
def f69r6 : List POper := [⟨(some k12), (.load false 1 (.t k1)), none⟩,
  ⟨(some k13), (.mov (.t k3)), none⟩,
  ⟨(some k14), (.callF 70 [(.t k12), (.t k13)]), none⟩,
  ⟨(some k3), (.mov (.t k14)), none⟩]
def f69l0 : PCode := (.seq (.seq (.ops f69r1)
 (.cond (.t k11)
 .skip
 (.exit 0)))
 (.seq (.block 1 (.seq (.ops f69r2)
 (.seq (.ops f69r3)
 (.seq (.seq (.ops f69r4)
 (.cond (.t k32)
 .ret
 .skip))
 (.ops f69r5)))))
 (.ops f69r6)))
def f69 : PFn := ⟨(.seq (.ops f69r0)
 (.block 0 (.loop f69l0))),
 []⟩
/- refuter/lexer.skip -/
def f70r0 : List POper := [⟨(some k4), (.mov (.v (.int .i64 (.lit 0)))), none⟩]
def f70r1 : List POper := [⟨(some k5), (.mov (.t k1)), none⟩,
  ⟨(some k6), (.mov (.t k0)), none⟩,
  ⟨(some k7), (.lenS (.t k6)), none⟩,
  ⟨(some k8), (.bin .lss (.t k5) (.t k7)), none⟩]
def f70r2 : List POper := [⟨(some k9), (.mov (.t k0)), none⟩,
  ⟨(some k10), (.mov (.t k1)), none⟩,
  ⟨(some k11), (.indexS (.t k9) (.t k10)), none⟩]
def f70r3 : List POper := [⟨(some k14), (.bin .eql (.t k11) (.v (.int .u8 (.lit 32)))), none⟩,
  ⟨(some k13), (.mov (.t k14)), none⟩]
def f70r4 : List POper := [⟨(some k15), (.bin .eql (.t k11) (.v (.int .u8 (.lit 9)))), none⟩,
  ⟨(some k13), (.mov (.t k15)), none⟩]
def f70r5 : List POper := [⟨(some k16), (.bin .eql (.t k11) (.v (.int .u8 (.lit 10)))), none⟩,
  ⟨(some k13), (.mov (.t k16)), none⟩]
def f70r6 : List POper := [⟨(some k17), (.mov (.t k1)), none⟩,
  ⟨(some k18), (.bin .add (.t k17) (.v (.int .i64 (.lit 1)))), none⟩,
  ⟨(some k1), (.mov (.t k18)), none⟩]
def f70r7 : List POper := [⟨(some k20), (.bin .eql (.t k11) (.v (.int .u8 (.lit 35)))), none⟩,
  ⟨(some k19), (.mov (.t k20)), none⟩]
def f70r8 : List POper := [⟨(some k21), (.mov (.t k1)), none⟩,
  ⟨(some k22), (.mov (.t k0)), none⟩,
  ⟨(some k23), (.lenS (.t k22)), none⟩,
  ⟨(some k24), (.bin .lss (.t k21) (.t k23)), none⟩,
  ⟨(some k25), (.mov (.t k24)), none⟩,
  ⟨(some k26), (.mov (.t k0)), (some (k25, true))⟩,
  ⟨(some k27), (.mov (.t k1)), (some (k25, true))⟩,
  ⟨(some k28), (.indexS (.t k26) (.t k27)), (some (k25, true))⟩,
  ⟨(some k29), (.bin .neq (.t k28) (.v (.int .u8 (.lit 10)))), (some (k25, true))⟩,
  ⟨(some k30), (.pick (.t k25) (.t k29) (.v (.bool false))), none⟩]
def f70r9 : List POper := [⟨(some k31), (.mov (.t k1)), none⟩,
  ⟨(some k32), (.bin .add (.t k31) (.v (.int .i64 (.lit 1)))), none⟩,
  ⟨(some k1), (.mov (.t k32)), none⟩]
def f70l1 : PCode := (.seq (.seq (.ops f70r8)
 (.cond (.t k30)
 .skip
 (.exit 3)))
 (.block 4 (.ops f70r9)))
def f70r10 : List POper := [⟨(some k12), (.mov (.t k1)), none⟩,
  ⟨(some k4), (.mov (.t k12)), none⟩]
def f70l0 : PCode := (.seq (.seq (.ops f70r1)
 (.cond (.t k8)
 .skip
 (.exit 0)))
 (.block 1 (.seq (.ops f70r2)
 (.block 2 (.seq (.seq (.ops f70r3)
 (.cond (.t k13)
 .skip
 (.seq (.ops f70r4)
 (.cond (.t k13)
 .skip
 (.ops f70r5)))))
 (.cond (.t k13)
 (.ops f70r6)
 (.seq (.ops f70r7)
 (.cond (.t k19)
 (.block 3 (.loop f70l1))
 (.seq (.ops f70r10)
 .ret)))))))))
def f70r11 : List POper := [⟨(some k33), (.mov (.t k1)), none⟩,
  ⟨(some k4), (.mov (.t k33)), none⟩]
def f70 : PFn := ⟨(.seq (.ops f70r0)
 (.seq (.block 0 (.loop f70l0))
 (.seq (.ops f70r11)
 .ret))),
 [.tmp k4]⟩
end Tw
