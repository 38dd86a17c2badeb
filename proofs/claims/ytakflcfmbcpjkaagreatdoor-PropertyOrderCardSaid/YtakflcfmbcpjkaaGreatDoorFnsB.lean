/- A part of the proof. No condition. -/
import Derived.Test.YtakflcfmbcpjkaaGreatDoorFnsA
namespace Tw
open Go.Sx
/- refuter/lexer.next -/
def f71r0 : List POper := [⟨(some k2), (.new [(.int .i64 (.lit 0)), (.int .i64 (.lit 0)), (.int .i64 (.lit 0)), (.str 0 0)]), none⟩,
  ⟨(some k3), (.mov (.v (.int .i64 (.lit 0)))), none⟩]
def f71r1 : List POper := [⟨(some k4), (.new [(.int .i64 (.lit 0)), (.int .i64 (.lit 0)), (.int .i64 (.lit 0)), (.str 0 0)]), none⟩]
def f71r2 : List POper := [⟨(some k5), (.mov (.v (.bool true))), none⟩]
def f71r3 : List POper := [⟨(some k7), (.mov (.t k0)), none⟩,
  ⟨(some k8), (.indexS (.t k7) (.v (.int .i64 (.lit 0)))), none⟩,
  ⟨(some k6), (.mov (.t k8)), none⟩]
def f71r4 : List POper := [⟨(some k13), (.mov (.t k6)), none⟩,
  ⟨(some k14), (.callF 121 [(.t k13)]), none⟩,
  ⟨(some k12), (.mov (.t k14)), none⟩]
def f71r5 : List POper := [⟨(some k15), (.mov (.t k0)), none⟩,
  ⟨(some k16), (.callF 122 [(.t k15), (.v (.fn 123 [] []))]), none⟩,
  ⟨(some k17), (.build [(.int .i64 (.lit 0)), (.int .i64 (.lit 0)), (.int .i64 (.lit 0)), (.str 0 0)] [(0, 1, (.v (.int .i64 (.lit 0)))), (3, 1, (.t k16))]), none⟩,
  ⟨none, (.store 4 (.t k4) (.t k17)), none⟩]
def f71r6 : List POper := [⟨(some k18), (.fieldA 3 (.t k4)), none⟩,
  ⟨(some k19), (.load false 1 (.t k18)), none⟩,
  ⟨(some k20), (.lenS (.t k19)), none⟩,
  ⟨(some k21), (.bin .leq (.t k20) (.v (.int .i64 (.lit 16)))), none⟩,
  ⟨(some k5), (.mov (.t k21)), none⟩]
def f71r7 : List POper := [⟨(some k23), (.mov (.t k6)), none⟩,
  ⟨(some k24), (.callF 124 [(.t k23)]), none⟩,
  ⟨(some k22), (.mov (.t k24)), none⟩]
def f71r8 : List POper := [⟨(some k25), (.mov (.t k0)), none⟩,
  ⟨(some k26), (.callF 122 [(.t k25), (.v (.fn 125 [] []))]), none⟩,
  ⟨(some k27), (.build [(.int .i64 (.lit 0)), (.int .i64 (.lit 0)), (.int .i64 (.lit 0)), (.str 0 0)] [(0, 1, (.v (.int .i64 (.lit 1)))), (3, 1, (.t k26))]), none⟩,
  ⟨none, (.store 4 (.t k4) (.t k27)), none⟩]
def f71r9 : List POper := [⟨(some k28), (.fieldA 3 (.t k4)), none⟩,
  ⟨(some k29), (.load false 1 (.t k28)), none⟩,
  ⟨(some k30), (.lenS (.t k29)), none⟩,
  ⟨(some k31), (.bin .leq (.t k30) (.v (.int .i64 (.lit 16)))), none⟩,
  ⟨(some k5), (.mov (.t k31)), none⟩]
def f71r10 : List POper := [⟨(some k33), (.mov (.t k6)), none⟩,
  ⟨(some k34), (.callF 126 [(.t k33)]), none⟩,
  ⟨(some k32), (.mov (.t k34)), none⟩]
def f71r11 : List POper := [⟨(some k35), (.mov (.t k0)), none⟩,
  ⟨(some k36), (.callF 122 [(.t k35), (.v (.fn 126 [] []))]), none⟩,
  ⟨(some k37), (.build [(.int .i64 (.lit 0)), (.int .i64 (.lit 0)), (.int .i64 (.lit 0)), (.str 0 0)] [(0, 1, (.v (.int .i64 (.lit 2)))), (3, 1, (.t k36))]), none⟩,
  ⟨none, (.store 4 (.t k4) (.t k37)), none⟩]
def f71r12 : List POper := [⟨(some k38), (.fieldA 3 (.t k4)), none⟩,
  ⟨(some k39), (.load false 1 (.t k38)), none⟩,
  ⟨(some k40), (.callF 127 [(.t k39)]), none⟩,
  ⟨(some k41), (.fieldA 2 (.t k4)), none⟩,
  ⟨none, (.store 1 (.t k41) (.t k40)), none⟩]
def f71r13 : List POper := [⟨(some k42), (.fieldA 2 (.t k4)), none⟩,
  ⟨(some k43), (.load false 1 (.t k42)), none⟩,
  ⟨(some k44), (.bin .leq (.t k43) (.v (.int .i64 (.lit 1099511627776)))), none⟩,
  ⟨(some k5), (.mov (.t k44)), none⟩]
def f71r14 : List POper := [⟨(some k9), (.mov (.t k0)), none⟩,
  ⟨(some k10), (.callF 128 [(.t k9)]), none⟩,
  ⟨(some k11), (.build [(.int .i64 (.lit 0)), (.int .i64 (.lit 0)), (.int .i64 (.lit 0)), (.str 0 0)] [(0, 1, (.v (.int .i64 (.lit 3)))), (3, 1, (.t k10))]), none⟩,
  ⟨none, (.store 4 (.t k4) (.t k11)), none⟩]
def f71r15 : List POper := [⟨(some k45), (.fieldA 3 (.t k4)), none⟩,
  ⟨(some k46), (.load false 1 (.t k45)), none⟩,
  ⟨(some k47), (.bin .eql (.t k46) (.v (.str 0 0))), none⟩]
def f71r16 : List POper := [⟨(some k48), (.build [(.int .i64 (.lit 0)), (.int .i64 (.lit 0)), (.int .i64 (.lit 0)), (.str 0 0)] []), none⟩,
  ⟨none, (.store 4 (.t k2) (.t k48)), none⟩,
  ⟨(some k3), (.mov (.v (.int .i64 (.lit 2)))), none⟩]
def f71r17 : List POper := [⟨(some k49), (.mov (.t k5)), none⟩,
  ⟨(some k50), (.un .not (.t k49)), none⟩]
def f71r18 : List POper := [⟨(some k51), (.build [(.int .i64 (.lit 0)), (.int .i64 (.lit 0)), (.int .i64 (.lit 0)), (.str 0 0)] []), none⟩,
  ⟨none, (.store 4 (.t k2) (.t k51)), none⟩,
  ⟨(some k3), (.mov (.v (.int .i64 (.lit 4)))), none⟩]
def f71r19 : List POper := [⟨(some k52), (.load true 4 (.t k4)), none⟩,
  ⟨none, (.store 4 (.t k2) (.t k52)), none⟩,
  ⟨(some k3), (.mov (.v (.int .i64 (.lit 0)))), none⟩]
def f71 : PFn := ⟨(.seq (.ops f71r0)
 (.seq (.ops f71r1)
 (.seq (.ops f71r2)
 (.seq (.seq (.ops f71r3)
 (.block 0 (.seq (.ops f71r4)
 (.cond (.t k12)
 (.seq (.ops f71r5)
 (.ops f71r6))
 (.seq (.ops f71r7)
 (.cond (.t k22)
 (.seq (.ops f71r8)
 (.ops f71r9))
 (.seq (.ops f71r10)
 (.cond (.t k32)
 (.seq (.ops f71r11)
 (.seq (.ops f71r12)
 (.ops f71r13)))
 (.ops f71r14)))))))))
 (.seq (.seq (.ops f71r15)
 (.cond (.t k47)
 (.seq (.ops f71r16)
 .ret)
 .skip))
 (.seq (.seq (.ops f71r17)
 (.cond (.t k50)
 (.seq (.ops f71r18)
 .ret)
 .skip))
 (.seq (.ops f71r19)
 .ret))))))),
 [.cell k2 true 4, .tmp k3]⟩
/- (*refuter/parser.reader).is -/
def f72r0 : List POper := [⟨(some k4), (.mov (.v (.bool false))), none⟩]
def f72r1 : List SItem := [.L 0 ⟨(some k5), (.mov (.t k0)), none⟩,
  .L 1 ⟨(some k6), (.nilc (.t k5)), none⟩,
  .L 2 ⟨(some k7), (.fieldA 1 (.t k6)), none⟩,
  .L 3 ⟨(some k8), (.load false 1 (.t k7)), none⟩,
  .L 4 ⟨(some k9), (.mov (.t k0)), none⟩,
  .L 5 ⟨(some k10), (.nilc (.t k9)), none⟩,
  .L 6 ⟨(some k11), (.fieldA 0 (.t k10)), none⟩,
  .L 7 ⟨(some k12), (.load false 1 (.t k11)), none⟩,
  .L 8 ⟨(some k13), (.lenL (.t k12)), none⟩,
  .L 9 ⟨(some k14), (.bin .lss (.t k8) (.t k13)), none⟩,
  .L 10 ⟨(some k15), (.mov (.t k14)), none⟩,
  .L 11 ⟨(some k16), (.mov (.t k0)), (some (k15, true))⟩,
  .L 12 ⟨(some k17), (.nilc (.t k16)), (some (k15, true))⟩,
  .L 13 ⟨(some k18), (.fieldA 0 (.t k17)), (some (k15, true))⟩,
  .L 14 ⟨(some k19), (.load false 1 (.t k18)), (some (k15, true))⟩,
  .L 15 ⟨(some k20), (.mov (.t k0)), (some (k15, true))⟩,
  .L 16 ⟨(some k21), (.nilc (.t k20)), (some (k15, true))⟩,
  .L 17 ⟨(some k22), (.fieldA 1 (.t k21)), (some (k15, true))⟩,
  .L 18 ⟨(some k23), (.load false 1 (.t k22)), (some (k15, true))⟩,
  .L 19 ⟨(some k24), (.indexL 4 (.t k19) (.t k23)), (some (k15, true))⟩,
  .L 20 ⟨(some k25), (.fieldA 3 (.t k24)), (some (k15, true))⟩,
  .L 21 ⟨(some k26), (.load false 1 (.t k25)), (some (k15, true))⟩,
  .L 22 ⟨(some k27), (.mov (.t k1)), (some (k15, true))⟩,
  .L 23 ⟨(some k28), (.bin .eql (.t k26) (.t k27)), (some (k15, true))⟩,
  .L 24 ⟨(some k29), (.pick (.t k15) (.t k28) (.v (.bool false))), none⟩,
  .L 25 ⟨(some k4), (.mov (.t k29)), none⟩]
def f72 : PFn := ⟨(.seq (.ops f72r0)
 (.seq (.staged f72r1 ⟨[k5, k6, k7, k8, k9, k10, k11, k12, k13, k14, k15, k16, k17, k18, k19, k20, k21, k22, k23, k24, k25, k26, k27, k28, k29, k4], []⟩)
 .ret)),
 [.tmp k4]⟩
/- (*refuter/parser.reader).take -/
def f73r0 : List POper := [⟨(some k4), (.new [(.int .i64 (.lit 0)), (.int .i64 (.lit 0)), (.int .i64 (.lit 0)), (.str 0 0)]), none⟩]
def f73r1 : List POper := [⟨(some k5), (.mov (.t k0)), none⟩,
  ⟨(some k6), (.mov (.t k1)), none⟩,
  ⟨(some k7), (.callF 129 [(.t k5), (.t k6)]), none⟩,
  ⟨(some k8), (.un .not (.t k7)), none⟩]
def f73r2 : List POper := [⟨(some k9), (.mov (.t k0)), none⟩,
  ⟨(some k10), (.callF 22 [(.t k9)]), none⟩]
def f73r3 : List POper := [⟨(some k11), (.mov (.t k0)), none⟩,
  ⟨(some k12), (.nilc (.t k11)), none⟩,
  ⟨(some k13), (.fieldA 1 (.t k12)), none⟩,
  ⟨(some k14), (.load false 1 (.t k13)), none⟩,
  ⟨(some k15), (.bin .add (.t k14) (.v (.int .i64 (.lit 1)))), none⟩,
  ⟨(some k16), (.nilc (.t k11)), none⟩,
  ⟨(some k17), (.fieldA 1 (.t k16)), none⟩,
  ⟨none, (.store 1 (.t k17) (.t k15)), none⟩]
def f73r4 : List SItem := [.L 0 ⟨(some k18), (.mov (.t k0)), none⟩,
  .L 1 ⟨(some k19), (.nilc (.t k18)), none⟩,
  .L 2 ⟨(some k20), (.fieldA 0 (.t k19)), none⟩,
  .L 3 ⟨(some k21), (.load false 1 (.t k20)), none⟩,
  .L 4 ⟨(some k22), (.mov (.t k0)), none⟩,
  .L 5 ⟨(some k23), (.nilc (.t k22)), none⟩,
  .L 6 ⟨(some k24), (.fieldA 1 (.t k23)), none⟩,
  .L 7 ⟨(some k25), (.load false 1 (.t k24)), none⟩,
  .L 8 ⟨(some k26), (.bin .sub (.t k25) (.v (.int .i64 (.lit 1)))), none⟩,
  .L 9 ⟨(some k27), (.indexL 4 (.t k21) (.t k26)), none⟩,
  .L 10 ⟨(some k28), (.load true 4 (.t k27)), none⟩,
  .H 11 ⟨none, (.store 4 (.t k4) (.t k28)), none⟩ [],
  .R []]
def f73 : PFn := ⟨(.seq (.ops f73r0)
 (.seq (.seq (.ops f73r1)
 (.cond (.t k8)
 (.ops f73r2)
 .skip))
 (.seq (.ops f73r3)
 (.seq (.staged f73r4 ⟨[k18, k19, k20, k21, k22, k23, k24, k25, k26, k27, k28], []⟩)
 .ret)))),
 [.cell k4 true 4]⟩
/- refuter/parser.some[refuter/api.Type] -/
def f74r0 : List POper := [⟨(some k6), (.mov (.v .nils)), none⟩]
def f74r1 : List POper := [⟨(some k8), (.mov (.t k2)), none⟩,
  ⟨(some k9), (.callV (.t k8) []), none⟩,
  ⟨(some k10), (.bslice 3 1 [(.int .i64 (.lit 0)), (.str 0 0), .nils] [(0, 3, (.t k9))]), none⟩,
  ⟨(some k7), (.mov (.t k10)), none⟩]
def f74r2 : List POper := [⟨(some k11), (.mov (.t k0)), none⟩,
  ⟨(some k12), (.mov (.t k1)), none⟩,
  ⟨(some k13), (.callF 34 [(.t k11), (.t k12)]), none⟩]
def f74r3 : List POper := [⟨(some k14), (.mov (.t k7)), none⟩,
  ⟨(some k15), (.mov (.t k2)), none⟩,
  ⟨(some k16), (.callV (.t k15) []), none⟩,
  ⟨(some k17), (.bslice 3 1 [(.int .i64 (.lit 0)), (.str 0 0), .nils] [(0, 3, (.t k16))]), none⟩,
  ⟨(some k18), (.append 3 (.t k14) (.t k17)), none⟩,
  ⟨(some k7), (.mov (.t k18)), none⟩]
def f74l0 : PCode := (.seq (.seq (.ops f74r2)
 (.cond (.t k13)
 .skip
 (.exit 0)))
 (.block 1 (.ops f74r3)))
def f74r4 : List POper := [⟨(some k19), (.mov (.t k7)), none⟩,
  ⟨(some k6), (.mov (.t k19)), none⟩]
def f74 : PFn := ⟨(.seq (.ops f74r0)
 (.seq (.ops f74r1)
 (.seq (.block 0 (.loop f74l0))
 (.seq (.ops f74r4)
 .ret)))),
 [.tmp k6]⟩
/- (*refuter/parser.reader).typ -/
def f75r0 : List POper := [⟨(some k2), (.new [(.int .i64 (.lit 0)), (.str 0 0), .nils]), none⟩]
def f75r1 : List POper := [⟨(some k5), (.mov (.t k0)), none⟩,
  ⟨(some k6), (.callF 34 [(.t k5), (.v (.str 3 7630441))]), none⟩,
  ⟨(some k4), (.mov (.t k6)), none⟩]
def f75r2 : List POper := [⟨(some k7), (.build [(.int .i64 (.lit 0)), (.str 0 0), .nils] [(0, 1, (.v (.int .i64 (.lit 0))))]), none⟩,
  ⟨none, (.store 3 (.t k2) (.t k7)), none⟩]
def f75r3 : List POper := [⟨(some k9), (.mov (.t k0)), none⟩,
  ⟨(some k10), (.callF 34 [(.t k9), (.v (.str 4 1819242338))]), none⟩,
  ⟨(some k8), (.mov (.t k10)), none⟩]
def f75r4 : List POper := [⟨(some k11), (.build [(.int .i64 (.lit 0)), (.str 0 0), .nils] [(0, 1, (.v (.int .i64 (.lit 1))))]), none⟩,
  ⟨none, (.store 3 (.t k2) (.t k11)), none⟩]
def f75r5 : List POper := [⟨(some k13), (.mov (.t k0)), none⟩,
  ⟨(some k14), (.callF 34 [(.t k13), (.v (.str 1 91))]), none⟩,
  ⟨(some k12), (.mov (.t k14)), none⟩]
def f75r6 : List POper := [⟨(some k15), (.mov (.t k0)), none⟩,
  ⟨(some k16), (.callF 75 [(.t k15)]), none⟩,
  ⟨(some k17), (.bslice 3 1 [(.int .i64 (.lit 0)), (.str 0 0), .nils] [(0, 3, (.t k16))]), none⟩,
  ⟨(some k18), (.build [(.int .i64 (.lit 0)), (.str 0 0), .nils] [(0, 1, (.v (.int .i64 (.lit 2)))), (2, 1, (.t k17))]), none⟩,
  ⟨(some k3), (.new [(.int .i64 (.lit 0)), (.str 0 0), .nils]), none⟩,
  ⟨none, (.store 3 (.t k3) (.t k18)), none⟩]
def f75r7 : List POper := [⟨(some k19), (.mov (.t k0)), none⟩,
  ⟨(some k20), (.callF 36 [(.t k19), (.v (.str 1 93))]), none⟩]
def f75r8 : List POper := [⟨(some k21), (.load true 3 (.t k3)), none⟩,
  ⟨none, (.store 3 (.t k2) (.t k21)), none⟩]
def f75r9 : List POper := [⟨(some k22), (.mov (.t k0)), none⟩,
  ⟨(some k23), (.callF 35 [(.t k22)]), none⟩,
  ⟨(some k24), (.build [(.int .i64 (.lit 0)), (.str 0 0), .nils] [(0, 1, (.v (.int .i64 (.lit 3)))), (1, 1, (.t k23))]), none⟩,
  ⟨none, (.store 3 (.t k2) (.t k24)), none⟩]
def f75 : PFn := ⟨(.seq (.ops f75r0)
 (.seq (.block 0 (.seq (.ops f75r1)
 (.cond (.t k4)
 (.seq (.ops f75r2)
 .ret)
 (.seq (.ops f75r3)
 (.cond (.t k8)
 (.seq (.ops f75r4)
 .ret)
 (.seq (.ops f75r5)
 (.cond (.t k12)
 (.seq (.ops f75r6)
 (.seq (.ops f75r7)
 (.seq (.ops f75r8)
 .ret)))
 .skip)))))))
 (.seq (.ops f75r9)
 .ret))),
 [.cell k2 true 3]⟩
/- (*refuter/parser.reader).named -/
def f76r0 : List POper := [⟨(some k2), (.mov (.v (.bool false))), none⟩]
def f76r1 : List SItem := [.L 0 ⟨(some k3), (.mov (.t k0)), none⟩,
  .H 1 ⟨(some k4), (.callF 129 [(.t k3), (.v (.int .i64 (.lit 0)))]), none⟩ [],
  .R [],
  .L 2 ⟨(some k5), (.mov (.t k4)), none⟩,
  .L 3 ⟨(some k6), (.mov (.t k0)), (some (k5, true))⟩,
  .L 4 ⟨(some k7), (.nilc (.t k6)), (some (k5, true))⟩,
  .L 5 ⟨(some k8), (.fieldA 0 (.t k7)), (some (k5, true))⟩,
  .L 6 ⟨(some k9), (.load false 1 (.t k8)), (some (k5, true))⟩,
  .L 7 ⟨(some k10), (.mov (.t k0)), (some (k5, true))⟩,
  .L 8 ⟨(some k11), (.nilc (.t k10)), (some (k5, true))⟩,
  .L 9 ⟨(some k12), (.fieldA 1 (.t k11)), (some (k5, true))⟩,
  .L 10 ⟨(some k13), (.load false 1 (.t k12)), (some (k5, true))⟩,
  .L 11 ⟨(some k14), (.indexL 4 (.t k9) (.t k13)), (some (k5, true))⟩,
  .L 12 ⟨(some k15), (.fieldA 3 (.t k14)), (some (k5, true))⟩,
  .L 13 ⟨(some k16), (.load false 1 (.t k15)), (some (k5, true))⟩,
  .H 14 ⟨(some k17), (.callF 96 [(.t k16)]), (some (k5, true))⟩ [],
  .R [],
  .L 15 ⟨(some k18), (.un .not (.t k17)), (some (k5, true))⟩,
  .L 16 ⟨(some k19), (.pick (.t k5) (.t k18) (.v (.bool false))), none⟩,
  .L 17 ⟨(some k2), (.mov (.t k19)), none⟩]
def f76 : PFn := ⟨(.seq (.ops f76r0)
 (.seq (.staged f76r1 ⟨[k3, k4, k5, k6, k7, k8, k9, k10, k11, k12, k13, k14, k15, k16, k17, k18, k19, k2], []⟩)
 .ret)),
 [.tmp k2]⟩
/- refuter/parser.list[refuter/api.Param] -/
def f77r0 : List POper := [⟨(some k6), (.mov (.v .nils)), none⟩]
def f77r1 : List POper := [⟨(some k8), (.mov (.t k0)), none⟩,
  ⟨(some k9), (.mov (.t k1)), none⟩,
  ⟨(some k10), (.callF 34 [(.t k8), (.t k9)]), none⟩]
def f77r2 : List POper := [⟨(some k6), (.mov (.v .nils)), none⟩]
def f77r3 : List POper := [⟨(some k11), (.mov (.t k0)), none⟩,
  ⟨(some k12), (.mov (.t k2)), none⟩,
  ⟨(some k13), (.callF 130 [(.t k11), (.v (.str 1 44)), (.t k12)]), none⟩,
  ⟨(some k7), (.mov (.t k13)), none⟩]
def f77r4 : List POper := [⟨(some k14), (.mov (.t k0)), none⟩,
  ⟨(some k15), (.mov (.t k1)), none⟩,
  ⟨(some k16), (.callF 36 [(.t k14), (.t k15)]), none⟩]
def f77r5 : List POper := [⟨(some k17), (.mov (.t k7)), none⟩,
  ⟨(some k6), (.mov (.t k17)), none⟩]
def f77 : PFn := ⟨(.seq (.ops f77r0)
 (.seq (.seq (.ops f77r1)
 (.cond (.t k10)
 (.seq (.ops f77r2)
 .ret)
 .skip))
 (.seq (.ops f77r3)
 (.seq (.ops f77r4)
 (.seq (.ops f77r5)
 .ret))))),
 [.tmp k6]⟩
/- (*refuter/parser.reader).param -/
def f78r0 : List POper := [⟨(some k2), (.new [(.str 0 0), (.int .i64 (.lit 0)), (.str 0 0), .nils]), none⟩]
def f78r1 : List POper := [⟨(some k4), (.mov (.t k0)), none⟩,
  ⟨(some k5), (.callF 39 [(.t k4)]), none⟩,
  ⟨(some k6), (.build [(.str 0 0), (.int .i64 (.lit 0)), (.str 0 0), .nils] [(0, 1, (.t k5))]), none⟩,
  ⟨(some k3), (.new [(.str 0 0), (.int .i64 (.lit 0)), (.str 0 0), .nils]), none⟩,
  ⟨none, (.store 4 (.t k3) (.t k6)), none⟩]
def f78r2 : List POper := [⟨(some k7), (.mov (.t k0)), none⟩,
  ⟨(some k8), (.callF 36 [(.t k7), (.v (.str 1 58))]), none⟩]
def f78r3 : List POper := [⟨(some k9), (.mov (.t k0)), none⟩,
  ⟨(some k10), (.callF 75 [(.t k9)]), none⟩,
  ⟨(some k11), (.fieldA 1 (.t k3)), none⟩,
  ⟨none, (.store 3 (.t k11) (.t k10)), none⟩]
def f78r4 : List POper := [⟨(some k12), (.load true 4 (.t k3)), none⟩,
  ⟨none, (.store 4 (.t k2) (.t k12)), none⟩]
def f78 : PFn := ⟨(.seq (.ops f78r0)
 (.seq (.ops f78r1)
 (.seq (.ops f78r2)
 (.seq (.ops f78r3)
 (.seq (.ops f78r4)
 .ret))))),
 [.cell k2 true 4]⟩
/- (*refuter/parser.reader).match -/
def f79r0 : List POper := [⟨(some k4), (.new [(.int .i64 (.lit 0)), (.str 0 0), (.int .i64 (.lit 0)), .nils, .nils, .nils, (.int .i64 (.lit 0))]), none⟩]
def f79r1 : List POper := [⟨(some k8), (.mov (.t k1)), none⟩,
  ⟨(some k9), (.mov (.t k0)), none⟩,
  ⟨(some k10), (.callF 41 [(.t k9)]), none⟩,
  ⟨(some k11), (.bslice 7 1 [(.int .i64 (.lit 0)), (.str 0 0), (.int .i64 (.lit 0)), .nils, .nils, .nils, (.int .i64 (.lit 0))] [(0, 7, (.t k10))]), none⟩,
  ⟨(some k12), (.build [(.int .i64 (.lit 0)), (.str 0 0), (.int .i64 (.lit 0)), .nils, .nils, .nils, (.int .i64 (.lit 0))] [(0, 1, (.v (.int .i64 (.lit 8)))), (6, 1, (.t k8)), (5, 1, (.t k11))]), none⟩,
  ⟨(some k5), (.new [(.int .i64 (.lit 0)), (.str 0 0), (.int .i64 (.lit 0)), .nils, .nils, .nils, (.int .i64 (.lit 0))]), none⟩,
  ⟨none, (.store 7 (.t k5) (.t k12)), none⟩]
def f79r2 : List POper := [⟨(some k13), (.mov (.t k0)), none⟩,
  ⟨(some k14), (.callF 36 [(.t k13), (.v (.str 1 123))]), none⟩]
def f79r3 : List POper := [⟨(some k6), (.mov (.v (.bool true))), none⟩]
def f79r4 : List POper := [⟨(some k15), (.mov (.t k6)), none⟩,
  ⟨(some k16), (.mov (.t k15)), none⟩,
  ⟨(some k17), (.mov (.t k0)), (some (k16, false))⟩,
  ⟨(some k18), (.callF 34 [(.t k17), (.v (.str 1 59))]), (some (k16, false))⟩,
  ⟨(some k19), (.pick (.t k16) (.v (.bool true)) (.t k18)), none⟩]
def f79r5 : List SItem := [.L 0 ⟨(some k20), (.fieldA 3 (.t k5)), none⟩,
  .L 1 ⟨(some k21), (.load false 1 (.t k20)), none⟩,
  .L 2 ⟨(some k22), (.mov (.t k0)), none⟩,
  .H 3 ⟨(some k23), (.callF 35 [(.t k22)]), none⟩ [],
  .R [(1, ⟨(some k21), (.load false 1 (.t k20)), none⟩)],
  .A 4 ⟨(some k24), (.bslice 1 1 [(.str 0 0)] [(0, 1, (.t k23))]), none⟩,
  .H 5 ⟨(some k25), (.append 1 (.t k21) (.t k24)), none⟩ [4],
  .R [],
  .L 6 ⟨(some k26), (.fieldA 3 (.t k5)), none⟩,
  .H 7 ⟨none, (.store 1 (.t k26) (.t k25)), none⟩ [4],
  .R []]
def f79r6 : List POper := [⟨(some k7), (.mov (.v .nils)), none⟩]
def f79r7 : List POper := [⟨(some k27), (.mov (.t k0)), none⟩,
  ⟨(some k28), (.callF 34 [(.t k27), (.v (.str 1 40))]), none⟩]
def f79r8 : List POper := [⟨(some k29), (.mov (.t k0)), none⟩,
  ⟨(some k30), (.mov (.t k0)), none⟩,
  ⟨(some k31), (.mkfn 39 [(.t k30)] []), none⟩,
  ⟨(some k32), (.callF 131 [(.t k29), (.v (.str 1 44)), (.t k31)]), none⟩,
  ⟨(some k7), (.mov (.t k32)), none⟩]
def f79r9 : List POper := [⟨(some k33), (.mov (.t k0)), none⟩,
  ⟨(some k34), (.callF 36 [(.t k33), (.v (.str 1 41))]), none⟩]
def f79r10 : List POper := [⟨(some k35), (.fieldA 4 (.t k5)), none⟩,
  ⟨(some k36), (.load false 1 (.t k35)), none⟩,
  ⟨(some k37), (.mov (.t k7)), none⟩,
  ⟨(some k38), (.bslice 1 1 [.nils] [(0, 1, (.t k37))]), none⟩,
  ⟨(some k39), (.append 1 (.t k36) (.t k38)), none⟩,
  ⟨(some k40), (.fieldA 4 (.t k5)), none⟩,
  ⟨none, (.store 1 (.t k40) (.t k39)), none⟩]
def f79r11 : List POper := [⟨(some k41), (.mov (.t k0)), none⟩,
  ⟨(some k42), (.callF 36 [(.t k41), (.v (.str 2 15917))]), none⟩]
def f79r12 : List SItem := [.L 0 ⟨(some k43), (.fieldA 5 (.t k5)), none⟩,
  .L 1 ⟨(some k44), (.load false 1 (.t k43)), none⟩,
  .L 2 ⟨(some k45), (.mov (.t k0)), none⟩,
  .H 3 ⟨(some k46), (.callF 41 [(.t k45)]), none⟩ [],
  .R [(1, ⟨(some k44), (.load false 1 (.t k43)), none⟩)],
  .A 4 ⟨(some k47), (.bslice 7 1 [(.int .i64 (.lit 0)), (.str 0 0), (.int .i64 (.lit 0)), .nils, .nils, .nils, (.int .i64 (.lit 0))] [(0, 7, (.t k46))]), none⟩,
  .H 5 ⟨(some k48), (.append 7 (.t k44) (.t k47)), none⟩ [4],
  .R [],
  .L 6 ⟨(some k49), (.fieldA 5 (.t k5)), none⟩,
  .H 7 ⟨none, (.store 1 (.t k49) (.t k48)), none⟩ [4],
  .R []]
def f79r13 : List POper := [⟨(some k6), (.mov (.v (.bool false))), none⟩]
def f79l0 : PCode := (.seq (.seq (.ops f79r4)
 (.cond (.t k19)
 .skip
 (.exit 0)))
 (.seq (.block 1 (.seq (.staged f79r5 ⟨[k20, k21, k22, k23, k24, k25, k26], []⟩)
 (.seq (.ops f79r6)
 (.seq (.seq (.ops f79r7)
 (.cond (.t k28)
 (.seq (.ops f79r8)
 (.ops f79r9))
 .skip))
 (.seq (.ops f79r10)
 (.seq (.ops f79r11)
 (.staged f79r12 ⟨[k43, k44, k45, k46, k47, k48, k49], []⟩)))))))
 (.ops f79r13)))
def f79r14 : List POper := [⟨(some k50), (.mov (.t k0)), none⟩,
  ⟨(some k51), (.callF 36 [(.t k50), (.v (.str 1 125))]), none⟩]
def f79r15 : List POper := [⟨(some k52), (.load true 7 (.t k5)), none⟩,
  ⟨none, (.store 7 (.t k4) (.t k52)), none⟩]
def f79 : PFn := ⟨(.seq (.ops f79r0)
 (.seq (.ops f79r1)
 (.seq (.ops f79r2)
 (.seq (.seq (.ops f79r3)
 (.block 0 (.loop f79l0)))
 (.seq (.ops f79r14)
 (.seq (.ops f79r15)
 .ret)))))),
 [.cell k4 true 7]⟩
/- (*refuter/parser.reader).or -/
def f80r0 : List POper := [⟨(some k2), (.new [(.int .i64 (.lit 0)), (.str 0 0), (.int .i64 (.lit 0)), .nils, .nils, .nils, (.int .i64 (.lit 0))]), none⟩]
def f80r1 : List POper := [⟨(some k3), (.mov (.t k0)), none⟩,
  ⟨(some k4), (.mov (.t k0)), none⟩,
  ⟨(some k5), (.mkfn 133 [(.t k4)] []), none⟩,
  ⟨(some k6), (.bslice 1 1 [(.str 0 0)] [(0, 1, (.v (.str 2 29295)))]), none⟩,
  ⟨(some k7), (.callF 132 [(.t k3), (.t k5), (.t k6)]), none⟩,
  ⟨none, (.store 7 (.t k2) (.t k7)), none⟩]
def f80 : PFn := ⟨(.seq (.ops f80r0)
 (.seq (.ops f80r1)
 .ret)),
 [.cell k2 true 7]⟩
/- (*refuter/parser.reader).part -/
def f81r0 : List POper := [⟨(some k2), (.new [(.int .i64 (.lit 0)), (.str 0 0), .nils, .nils, .nils, (.int .i64 (.lit 0))]), none⟩]
def f81r1 : List POper := [⟨(some k10), (.mov (.t k0)), none⟩,
  ⟨(some k11), (.callF 32 [(.t k10)]), none⟩,
  ⟨(some k3), (.mov (.t k11)), none⟩]
def f81r2 : List POper := [⟨(some k13), (.mov (.t k0)), none⟩,
  ⟨(some k14), (.callF 34 [(.t k13), (.v (.str 6 121437875889522))]), none⟩,
  ⟨(some k12), (.mov (.t k14)), none⟩]
def f81r3 : List POper := [⟨(some k15), (.mov (.t k3)), none⟩,
  ⟨(some k16), (.mov (.t k0)), none⟩,
  ⟨(some k17), (.callF 41 [(.t k16)]), none⟩,
  ⟨(some k18), (.bslice 7 1 [(.int .i64 (.lit 0)), (.str 0 0), (.int .i64 (.lit 0)), .nils, .nils, .nils, (.int .i64 (.lit 0))] [(0, 7, (.t k17))]), none⟩,
  ⟨(some k19), (.build [(.int .i64 (.lit 0)), (.str 0 0), .nils, .nils, .nils, (.int .i64 (.lit 0))] [(0, 1, (.v (.int .i64 (.lit 0)))), (5, 1, (.t k15)), (3, 1, (.t k18))]), none⟩,
  ⟨none, (.store 6 (.t k2) (.t k19)), none⟩]
def f81r4 : List POper := [⟨(some k21), (.mov (.t k0)), none⟩,
  ⟨(some k22), (.callF 34 [(.t k21), (.v (.str 4 1801677168))]), none⟩,
  ⟨(some k20), (.mov (.t k22)), none⟩]
def f81r5 : List POper := [⟨(some k23), (.mov (.t k3)), none⟩,
  ⟨(some k24), (.mov (.t k0)), none⟩,
  ⟨(some k25), (.callF 134 [(.t k24)]), none⟩,
  ⟨(some k26), (.build [(.int .i64 (.lit 0)), (.str 0 0), .nils, .nils, .nils, (.int .i64 (.lit 0))] [(0, 1, (.v (.int .i64 (.lit 1)))), (5, 1, (.t k23)), (3, 1, (.t k25))]), none⟩,
  ⟨none, (.store 6 (.t k2) (.t k26)), none⟩]
def f81r6 : List POper := [⟨(some k28), (.mov (.t k0)), none⟩,
  ⟨(some k29), (.callF 34 [(.t k28), (.v (.str 3 6647407))]), none⟩,
  ⟨(some k27), (.mov (.t k29)), none⟩]
def f81r7 : List POper := [⟨(some k30), (.mov (.t k3)), none⟩,
  ⟨(some k31), (.build [(.int .i64 (.lit 0)), (.str 0 0), .nils, .nils, .nils, (.int .i64 (.lit 0))] [(0, 1, (.v (.int .i64 (.lit 2)))), (5, 1, (.t k30))]), none⟩,
  ⟨(some k4), (.new [(.int .i64 (.lit 0)), (.str 0 0), .nils, .nils, .nils, (.int .i64 (.lit 0))]), none⟩,
  ⟨none, (.store 6 (.t k4) (.t k31)), none⟩]
def f81r8 : List POper := [⟨(some k32), (.mov (.t k0)), none⟩,
  ⟨(some k33), (.callF 36 [(.t k32), (.v (.str 1 123))]), none⟩]
def f81r9 : List POper := [⟨(some k5), (.mov (.v (.bool true))), none⟩]
def f81r10 : List POper := [⟨(some k34), (.mov (.t k5)), none⟩,
  ⟨(some k35), (.mov (.t k34)), none⟩,
  ⟨(some k36), (.mov (.t k0)), (some (k35, false))⟩,
  ⟨(some k37), (.callF 34 [(.t k36), (.v (.str 1 59))]), (some (k35, false))⟩,
  ⟨(some k38), (.pick (.t k35) (.v (.bool true)) (.t k37)), none⟩]
def f81r11 : List SItem := [.L 0 ⟨(some k39), (.fieldA 2 (.t k4)), none⟩,
  .L 1 ⟨(some k40), (.load false 1 (.t k39)), none⟩,
  .L 2 ⟨(some k41), (.mov (.t k0)), none⟩,
  .H 3 ⟨(some k42), (.callF 42 [(.t k41)]), none⟩ [],
  .R [(1, ⟨(some k40), (.load false 1 (.t k39)), none⟩)],
  .A 4 ⟨(some k43), (.bslice 1 1 [(.int .i64 (.lit 0))] [(0, 1, (.t k42))]), none⟩,
  .H 5 ⟨(some k44), (.append 1 (.t k40) (.t k43)), none⟩ [4],
  .R [],
  .L 6 ⟨(some k45), (.fieldA 2 (.t k4)), none⟩,
  .H 7 ⟨none, (.store 1 (.t k45) (.t k44)), none⟩ [4],
  .R []]
def f81r12 : List POper := [⟨(some k46), (.mov (.t k0)), none⟩,
  ⟨(some k47), (.callF 36 [(.t k46), (.v (.str 1 58))]), none⟩]
def f81r13 : List SItem := [.L 0 ⟨(some k48), (.fieldA 4 (.t k4)), none⟩,
  .L 1 ⟨(some k49), (.load false 1 (.t k48)), none⟩,
  .L 2 ⟨(some k50), (.mov (.t k0)), none⟩,
  .H 3 ⟨(some k51), (.callF 43 [(.t k50)]), none⟩ [],
  .R [(1, ⟨(some k49), (.load false 1 (.t k48)), none⟩)],
  .A 4 ⟨(some k52), (.bslice 6 1 [(.int .i64 (.lit 0)), (.str 0 0), .nils, .nils, .nils, (.int .i64 (.lit 0))] [(0, 6, (.t k51))]), none⟩,
  .H 5 ⟨(some k53), (.append 6 (.t k49) (.t k52)), none⟩ [4],
  .R [],
  .L 6 ⟨(some k54), (.fieldA 4 (.t k4)), none⟩,
  .H 7 ⟨none, (.store 1 (.t k54) (.t k53)), none⟩ [4],
  .R []]
def f81r14 : List POper := [⟨(some k5), (.mov (.v (.bool false))), none⟩]
def f81l0 : PCode := (.seq (.seq (.ops f81r10)
 (.cond (.t k38)
 .skip
 (.exit 1)))
 (.seq (.block 2 (.seq (.staged f81r11 ⟨[k39, k40, k41, k42, k43, k44, k45], []⟩)
 (.seq (.ops f81r12)
 (.staged f81r13 ⟨[k48, k49, k50, k51, k52, k53, k54], []⟩))))
 (.ops f81r14)))
def f81r15 : List POper := [⟨(some k55), (.mov (.t k0)), none⟩,
  ⟨(some k56), (.callF 36 [(.t k55), (.v (.str 1 125))]), none⟩]
def f81r16 : List POper := [⟨(some k57), (.load true 6 (.t k4)), none⟩,
  ⟨none, (.store 6 (.t k2) (.t k57)), none⟩]
def f81r17 : List POper := [⟨(some k59), (.mov (.t k0)), none⟩,
  ⟨(some k60), (.callF 34 [(.t k59), (.v (.str 4 1953720684))]), none⟩,
  ⟨(some k58), (.mov (.t k60)), none⟩]
def f81r18 : List POper := [⟨(some k61), (.mov (.t k3)), none⟩,
  ⟨(some k62), (.mov (.t k0)), none⟩,
  ⟨(some k63), (.callF 134 [(.t k62)]), none⟩,
  ⟨(some k64), (.build [(.int .i64 (.lit 0)), (.str 0 0), .nils, .nils, .nils, (.int .i64 (.lit 0))] [(0, 1, (.v (.int .i64 (.lit 3)))), (5, 1, (.t k61)), (3, 1, (.t k63))]), none⟩,
  ⟨(some k6), (.new [(.int .i64 (.lit 0)), (.str 0 0), .nils, .nils, .nils, (.int .i64 (.lit 0))]), none⟩,
  ⟨none, (.store 6 (.t k6) (.t k64)), none⟩]
def f81r19 : List POper := [⟨(some k65), (.mov (.t k0)), none⟩,
  ⟨(some k66), (.callF 36 [(.t k65), (.v (.str 2 26223))]), none⟩]
def f81r20 : List POper := [⟨(some k67), (.mov (.t k0)), none⟩,
  ⟨(some k68), (.callF 81 [(.t k67)]), none⟩,
  ⟨(some k69), (.bslice 6 1 [(.int .i64 (.lit 0)), (.str 0 0), .nils, .nils, .nils, (.int .i64 (.lit 0))] [(0, 6, (.t k68))]), none⟩,
  ⟨(some k70), (.fieldA 4 (.t k6)), none⟩,
  ⟨none, (.store 1 (.t k70) (.t k69)), none⟩]
def f81r21 : List POper := [⟨(some k71), (.load true 6 (.t k6)), none⟩,
  ⟨none, (.store 6 (.t k2) (.t k71)), none⟩]
def f81r22 : List POper := [⟨(some k73), (.mov (.t k0)), none⟩,
  ⟨(some k74), (.callF 34 [(.t k73), (.v (.str 4 1701536109))]), none⟩,
  ⟨(some k72), (.mov (.t k74)), none⟩]
def f81r23 : List POper := [⟨(some k75), (.mov (.t k3)), none⟩,
  ⟨(some k76), (.mov (.t k0)), none⟩,
  ⟨(some k77), (.callF 35 [(.t k76)]), none⟩,
  ⟨(some k78), (.build [(.int .i64 (.lit 0)), (.str 0 0), .nils, .nils, .nils, (.int .i64 (.lit 0))] [(0, 1, (.v (.int .i64 (.lit 4)))), (5, 1, (.t k75)), (1, 1, (.t k77))]), none⟩,
  ⟨(some k7), (.new [(.int .i64 (.lit 0)), (.str 0 0), .nils, .nils, .nils, (.int .i64 (.lit 0))]), none⟩,
  ⟨none, (.store 6 (.t k7) (.t k78)), none⟩]
def f81r24 : List POper := [⟨(some k79), (.mov (.t k0)), none⟩,
  ⟨(some k80), (.callF 36 [(.t k79), (.v (.str 1 40))]), none⟩]
def f81r25 : List POper := [⟨(some k81), (.mov (.t k0)), none⟩,
  ⟨(some k82), (.mov (.t k0)), none⟩,
  ⟨(some k83), (.mkfn 43 [(.t k82)] []), none⟩,
  ⟨(some k84), (.callF 135 [(.t k81), (.v (.str 1 41)), (.t k83)]), none⟩,
  ⟨(some k85), (.fieldA 4 (.t k7)), none⟩,
  ⟨none, (.store 1 (.t k85) (.t k84)), none⟩]
def f81r26 : List POper := [⟨(some k86), (.load true 6 (.t k7)), none⟩,
  ⟨none, (.store 6 (.t k2) (.t k86)), none⟩]
def f81r27 : List POper := [⟨(some k88), (.mov (.t k0)), none⟩,
  ⟨(some k89), (.callF 34 [(.t k88), (.v (.str 1 40))]), none⟩,
  ⟨(some k87), (.mov (.t k89)), none⟩]
def f81r28 : List POper := [⟨(some k90), (.mov (.t k0)), none⟩,
  ⟨(some k91), (.callF 43 [(.t k90)]), none⟩,
  ⟨(some k8), (.new [(.int .i64 (.lit 0)), (.str 0 0), .nils, .nils, .nils, (.int .i64 (.lit 0))]), none⟩,
  ⟨none, (.store 6 (.t k8) (.t k91)), none⟩]
def f81r29 : List POper := [⟨(some k92), (.mov (.t k0)), none⟩,
  ⟨(some k93), (.callF 36 [(.t k92), (.v (.str 1 41))]), none⟩]
def f81r30 : List POper := [⟨(some k94), (.load true 6 (.t k8)), none⟩,
  ⟨none, (.store 6 (.t k2) (.t k94)), none⟩]
def f81r31 : List POper := [⟨(some k95), (.mov (.t k3)), none⟩,
  ⟨(some k96), (.mov (.t k0)), none⟩,
  ⟨(some k97), (.callF 39 [(.t k96)]), none⟩,
  ⟨(some k98), (.build [(.int .i64 (.lit 0)), (.str 0 0), .nils, .nils, .nils, (.int .i64 (.lit 0))] [(0, 1, (.v (.int .i64 (.lit 7)))), (5, 1, (.t k95)), (1, 1, (.t k97))]), none⟩,
  ⟨(some k9), (.new [(.int .i64 (.lit 0)), (.str 0 0), .nils, .nils, .nils, (.int .i64 (.lit 0))]), none⟩,
  ⟨none, (.store 6 (.t k9) (.t k98)), none⟩]
def f81r32 : List POper := [⟨(some k99), (.mov (.t k0)), none⟩,
  ⟨(some k100), (.callF 36 [(.t k99), (.v (.str 1 40))]), none⟩]
def f81r33 : List POper := [⟨(some k101), (.mov (.t k0)), none⟩,
  ⟨(some k102), (.mov (.t k0)), none⟩,
  ⟨(some k103), (.mkfn 41 [(.t k102)] []), none⟩,
  ⟨(some k104), (.callF 136 [(.t k101), (.v (.str 1 41)), (.t k103)]), none⟩,
  ⟨(some k105), (.fieldA 3 (.t k9)), none⟩,
  ⟨none, (.store 1 (.t k105) (.t k104)), none⟩]
def f81r34 : List POper := [⟨(some k106), (.load true 6 (.t k9)), none⟩,
  ⟨none, (.store 6 (.t k2) (.t k106)), none⟩]
def f81 : PFn := ⟨(.seq (.ops f81r0)
 (.seq (.ops f81r1)
 (.seq (.block 0 (.seq (.ops f81r2)
 (.cond (.t k12)
 (.seq (.ops f81r3)
 .ret)
 (.seq (.ops f81r4)
 (.cond (.t k20)
 (.seq (.ops f81r5)
 .ret)
 (.seq (.ops f81r6)
 (.cond (.t k27)
 (.seq (.ops f81r7)
 (.seq (.ops f81r8)
 (.seq (.seq (.ops f81r9)
 (.block 1 (.loop f81l0)))
 (.seq (.ops f81r15)
 (.seq (.ops f81r16)
 .ret)))))
 (.seq (.ops f81r17)
 (.cond (.t k58)
 (.seq (.ops f81r18)
 (.seq (.ops f81r19)
 (.seq (.ops f81r20)
 (.seq (.ops f81r21)
 .ret))))
 (.seq (.ops f81r22)
 (.cond (.t k72)
 (.seq (.ops f81r23)
 (.seq (.ops f81r24)
 (.seq (.ops f81r25)
 (.seq (.ops f81r26)
 .ret))))
 (.seq (.ops f81r27)
 (.cond (.t k87)
 (.seq (.ops f81r28)
 (.seq (.ops f81r29)
 (.seq (.ops f81r30)
 .ret)))
 .skip)))))))))))))
 (.seq (.ops f81r31)
 (.seq (.ops f81r32)
 (.seq (.ops f81r33)
 (.seq (.ops f81r34)
 .ret))))))),
 [.cell k2 true 6]⟩
/- refuter/parser.list[refuter/api.Draw] -/
def f82r0 : List POper := [⟨(some k6), (.mov (.v .nils)), none⟩]
def f82r1 : List POper := [⟨(some k8), (.mov (.t k0)), none⟩,
  ⟨(some k9), (.mov (.t k1)), none⟩,
  ⟨(some k10), (.callF 34 [(.t k8), (.t k9)]), none⟩]
def f82r2 : List POper := [⟨(some k6), (.mov (.v .nils)), none⟩]
def f82r3 : List POper := [⟨(some k11), (.mov (.t k0)), none⟩,
  ⟨(some k12), (.mov (.t k2)), none⟩,
  ⟨(some k13), (.callF 137 [(.t k11), (.v (.str 1 44)), (.t k12)]), none⟩,
  ⟨(some k7), (.mov (.t k13)), none⟩]
def f82r4 : List POper := [⟨(some k14), (.mov (.t k0)), none⟩,
  ⟨(some k15), (.mov (.t k1)), none⟩,
  ⟨(some k16), (.callF 36 [(.t k14), (.t k15)]), none⟩]
def f82r5 : List POper := [⟨(some k17), (.mov (.t k7)), none⟩,
  ⟨(some k6), (.mov (.t k17)), none⟩]
def f82 : PFn := ⟨(.seq (.ops f82r0)
 (.seq (.seq (.ops f82r1)
 (.cond (.t k10)
 (.seq (.ops f82r2)
 .ret)
 .skip))
 (.seq (.ops f82r3)
 (.seq (.ops f82r4)
 (.seq (.ops f82r5)
 .ret))))),
 [.tmp k6]⟩
/- (*refuter/parser.reader).draw -/
def f83r0 : List POper := [⟨(some k2), (.new [(.str 0 0), (.int .i64 (.lit 0)), (.str 0 0), .nils, (.int .i64 (.lit 0)), (.str 0 0), .nils, .nils, .nils, (.int .i64 (.lit 0)), (.bool false)]), none⟩]
def f83r1 : List POper := [⟨(some k4), (.mov (.t k0)), none⟩,
  ⟨(some k5), (.callF 138 [(.t k4)]), none⟩,
  ⟨(some k3), (.new [(.str 0 0), (.int .i64 (.lit 0)), (.str 0 0), .nils, (.int .i64 (.lit 0)), (.str 0 0), .nils, .nils, .nils, (.int .i64 (.lit 0)), (.bool false)]), none⟩,
  ⟨none, (.store 11 (.t k3) (.t k5)), none⟩]
def f83r2 : List POper := [⟨(some k6), (.mov (.t k0)), none⟩,
  ⟨(some k7), (.callF 43 [(.t k6)]), none⟩,
  ⟨(some k8), (.fieldA 4 (.t k3)), none⟩,
  ⟨none, (.store 6 (.t k8) (.t k7)), none⟩]
def f83r3 : List POper := [⟨(some k9), (.load true 11 (.t k3)), none⟩,
  ⟨none, (.store 11 (.t k2) (.t k9)), none⟩]
def f83 : PFn := ⟨(.seq (.ops f83r0)
 (.seq (.ops f83r1)
 (.seq (.ops f83r2)
 (.seq (.ops f83r3)
 .ret)))),
 [.cell k2 true 11]⟩
/- (*refuter/parser.reader).check -/
def f84r0 : List POper := [⟨(some k2), (.new [(.str 0 0), (.int .i64 (.lit 0)), (.str 0 0), (.int .i64 (.lit 0)), .nils, .nils, .nils, (.int .i64 (.lit 0))]), none⟩]
def f84r1 : List POper := [⟨(some k4), (.mov (.t k0)), none⟩,
  ⟨(some k5), (.callF 39 [(.t k4)]), none⟩,
  ⟨(some k6), (.build [(.str 0 0), (.int .i64 (.lit 0)), (.str 0 0), (.int .i64 (.lit 0)), .nils, .nils, .nils, (.int .i64 (.lit 0))] [(0, 1, (.t k5))]), none⟩,
  ⟨(some k3), (.new [(.str 0 0), (.int .i64 (.lit 0)), (.str 0 0), (.int .i64 (.lit 0)), .nils, .nils, .nils, (.int .i64 (.lit 0))]), none⟩,
  ⟨none, (.store 8 (.t k3) (.t k6)), none⟩]
def f84r2 : List POper := [⟨(some k7), (.mov (.t k0)), none⟩,
  ⟨(some k8), (.callF 36 [(.t k7), (.v (.str 1 58))]), none⟩]
def f84r3 : List POper := [⟨(some k9), (.mov (.t k0)), none⟩,
  ⟨(some k10), (.callF 41 [(.t k9)]), none⟩,
  ⟨(some k11), (.fieldA 1 (.t k3)), none⟩,
  ⟨none, (.store 7 (.t k11) (.t k10)), none⟩]
def f84r4 : List POper := [⟨(some k12), (.load true 8 (.t k3)), none⟩,
  ⟨none, (.store 8 (.t k2) (.t k12)), none⟩]
def f84 : PFn := ⟨(.seq (.ops f84r0)
 (.seq (.ops f84r1)
 (.seq (.ops f84r2)
 (.seq (.ops f84r3)
 (.seq (.ops f84r4)
 .ret))))),
 [.cell k2 true 8]⟩
/- (*refuter/parser.reader).arg -/
def f85r0 : List POper := [⟨(some k2), (.new [(.str 0 0), (.int .i64 (.lit 0)), (.str 0 0), .nils, (.int .i64 (.lit 0)), (.str 0 0), .nils, .nils, .nils, (.int .i64 (.lit 0)), (.bool false)]), none⟩]
def f85r1 : List POper := [⟨(some k4), (.mov (.t k0)), none⟩,
  ⟨(some k5), (.callF 138 [(.t k4)]), none⟩,
  ⟨(some k3), (.new [(.str 0 0), (.int .i64 (.lit 0)), (.str 0 0), .nils, (.int .i64 (.lit 0)), (.str 0 0), .nils, .nils, .nils, (.int .i64 (.lit 0)), (.bool false)]), none⟩,
  ⟨none, (.store 11 (.t k3) (.t k5)), none⟩]
def f85r2 : List POper := [⟨(some k6), (.mov (.t k0)), none⟩,
  ⟨(some k7), (.callF 34 [(.t k6), (.v (.str 6 128009175786866))]), none⟩]
def f85r3 : List POper := [⟨(some k8), (.fieldA 10 (.t k3)), none⟩,
  ⟨none, (.store 1 (.t k8) (.v (.bool true))), none⟩]
def f85r4 : List POper := [⟨(some k9), (.mov (.t k0)), none⟩,
  ⟨(some k10), (.callF 43 [(.t k9)]), none⟩,
  ⟨(some k11), (.fieldA 4 (.t k3)), none⟩,
  ⟨none, (.store 6 (.t k11) (.t k10)), none⟩]
def f85r5 : List POper := [⟨(some k12), (.load true 11 (.t k3)), none⟩,
  ⟨none, (.store 11 (.t k2) (.t k12)), none⟩]
def f85 : PFn := ⟨(.seq (.ops f85r0)
 (.seq (.ops f85r1)
 (.seq (.seq (.ops f85r2)
 (.cond (.t k7)
 (.ops f85r3)
 (.ops f85r4)))
 (.seq (.ops f85r5)
 .ret)))),
 [.cell k2 true 11]⟩
/- refuter/parser.until[refuter/api.Action] -/
def f86r0 : List POper := [⟨(some k6), (.mov (.v .nils)), none⟩]
def f86r1 : List POper := [⟨(some k7), (.mov (.v .nils)), none⟩]
def f86r2 : List POper := [⟨(some k8), (.mov (.t k0)), none⟩,
  ⟨(some k9), (.mov (.t k1)), none⟩,
  ⟨(some k10), (.callF 34 [(.t k8), (.t k9)]), none⟩,
  ⟨(some k11), (.un .not (.t k10)), none⟩]
def f86r3 : List POper := [⟨(some k12), (.mov (.t k7)), none⟩,
  ⟨(some k13), (.mov (.t k2)), none⟩,
  ⟨(some k14), (.callV (.t k13) []), none⟩,
  ⟨(some k15), (.bslice 14 1 [(.int .i64 (.lit 0)), (.str 0 0), (.int .i64 (.lit 0)), .nils, .nils, .nils, (.int .i64 (.lit 0)), (.int .i64 (.lit 0)), (.str 0 0), (.int .i64 (.lit 0)), .nils, .nils, .nils, (.int .i64 (.lit 0))] [(0, 14, (.t k14))]), none⟩,
  ⟨(some k16), (.append 14 (.t k12) (.t k15)), none⟩,
  ⟨(some k7), (.mov (.t k16)), none⟩]
def f86l0 : PCode := (.seq (.seq (.ops f86r2)
 (.cond (.t k11)
 .skip
 (.exit 0)))
 (.block 1 (.ops f86r3)))
def f86r4 : List POper := [⟨(some k17), (.mov (.t k7)), none⟩,
  ⟨(some k6), (.mov (.t k17)), none⟩]
def f86 : PFn := ⟨(.seq (.ops f86r0)
 (.seq (.ops f86r1)
 (.seq (.block 0 (.loop f86l0))
 (.seq (.ops f86r4)
 .ret)))),
 [.tmp k6]⟩
/- (*refuter/parser.reader).action -/
def f87r0 : List POper := [⟨(some k2), (.new [(.int .i64 (.lit 0)), (.str 0 0), (.int .i64 (.lit 0)), .nils, .nils, .nils, (.int .i64 (.lit 0)), (.int .i64 (.lit 0)), (.str 0 0), (.int .i64 (.lit 0)), .nils, .nils, .nils, (.int .i64 (.lit 0))]), none⟩]
def f87r1 : List POper := [⟨(some k4), (.mov (.t k0)), none⟩,
  ⟨(some k5), (.callF 36 [(.t k4), (.v (.str 4 1885697139))]), none⟩]
def f87r2 : List POper := [⟨(some k3), (.new [(.int .i64 (.lit 0)), (.str 0 0), (.int .i64 (.lit 0)), .nils, .nils, .nils, (.int .i64 (.lit 0)), (.int .i64 (.lit 0)), (.str 0 0), (.int .i64 (.lit 0)), .nils, .nils, .nils, (.int .i64 (.lit 0))]), none⟩]
def f87r3 : List POper := [⟨(some k6), (.mov (.t k0)), none⟩,
  ⟨(some k7), (.callF 41 [(.t k6)]), none⟩,
  ⟨(some k8), (.fieldA 0 (.t k3)), none⟩,
  ⟨none, (.store 7 (.t k8) (.t k7)), none⟩]
def f87r4 : List POper := [⟨(some k9), (.mov (.t k0)), none⟩,
  ⟨(some k10), (.callF 36 [(.t k9), (.v (.str 1 44))]), none⟩]
def f87r5 : List POper := [⟨(some k11), (.mov (.t k0)), none⟩,
  ⟨(some k12), (.callF 41 [(.t k11)]), none⟩,
  ⟨(some k13), (.fieldA 7 (.t k3)), none⟩,
  ⟨none, (.store 7 (.t k13) (.t k12)), none⟩]
def f87r6 : List POper := [⟨(some k14), (.mov (.t k0)), none⟩,
  ⟨(some k15), (.callF 36 [(.t k14), (.v (.str 1 59))]), none⟩]
def f87r7 : List POper := [⟨(some k16), (.load true 14 (.t k3)), none⟩,
  ⟨none, (.store 14 (.t k2) (.t k16)), none⟩]
def f87 : PFn := ⟨(.seq (.ops f87r0)
 (.seq (.ops f87r1)
 (.seq (.ops f87r2)
 (.seq (.ops f87r3)
 (.seq (.ops f87r4)
 (.seq (.ops f87r5)
 (.seq (.ops f87r6)
 (.seq (.ops f87r7)
 .ret)))))))),
 [.cell k2 true 14]⟩
/- (*refuter/parser.checker).unused$1 -/
def f88r0 : List POper := [⟨(some k3), (.mov (.v (.bool false))), none⟩]
def f88r1 : List POper := [⟨(some k6), (.mov (.t k0)), none⟩,
  ⟨(some k7), (.lenL (.t k6)), none⟩,
  ⟨(some k8), (.mov (.v (.int .i64 (.lit 0)))), none⟩]
def f88r2 : List POper := [⟨(some k9), (.bin .lss (.t k8) (.t k7)), none⟩]
def f88r3 : List POper := [⟨(some k10), (.indexL 1 (.t k6) (.t k8)), none⟩,
  ⟨(some k11), (.load false 1 (.t k10)), none⟩,
  ⟨(some k5), (.mov (.t k11)), none⟩]
def f88r4 : List POper := [⟨(some k12), (.fieldA 0 (.t k1)), none⟩,
  ⟨(some k13), (.load false 1 (.t k12)), none⟩,
  ⟨(some k14), (.mov (.t k5)), none⟩,
  ⟨(some k15), (.bin .eql (.t k13) (.t k14)), none⟩]
def f88r5 : List POper := [⟨(some k3), (.mov (.v (.bool true))), none⟩]
def f88r6 : List POper := [⟨(some k16), (.bin .add (.t k8) (.v (.int .i64 (.lit 1)))), none⟩,
  ⟨(some k8), (.mov (.t k16)), none⟩]
def f88l0 : PCode := (.seq (.ops f88r2)
 (.seq (.cond (.t k9)
 .skip
 (.exit 0))
 (.seq (.block 1 (.seq (.ops f88r3)
 (.seq (.ops f88r4)
 (.cond (.t k15)
 (.seq (.ops f88r5)
 .ret)
 .skip))))
 (.ops f88r6))))
def f88r7 : List POper := [⟨(some k3), (.mov (.v (.bool false))), none⟩]
def f88 : PFn := ⟨(.seq (.ops f88r0)
 (.seq (.seq (.ops f88r1)
 (.block 0 (.loop f88l0)))
 (.seq (.ops f88r7)
 .ret))),
 [.tmp k3]⟩
/- refuter/parser.zeroType -/
def f89r0 : List POper := [⟨(some k1), (.box (.t k0)), none⟩,
  ⟨(some k2), (.mov (.v (.bool false))), none⟩]
def f89r1 : List POper := [⟨(some k3), (.fieldA 0 (.t k1)), none⟩,
  ⟨(some k4), (.load false 1 (.t k3)), none⟩,
  ⟨(some k5), (.bin .eql (.t k4) (.v (.int .i64 (.lit 0)))), none⟩,
  ⟨(some k6), (.mov (.t k5)), none⟩,
  ⟨(some k7), (.fieldA 1 (.t k1)), (some (k6, true))⟩,
  ⟨(some k8), (.load false 1 (.t k7)), (some (k6, true))⟩,
  ⟨(some k9), (.bin .eql (.t k8) (.v (.str 0 0))), (some (k6, true))⟩,
  ⟨(some k10), (.pick (.t k6) (.t k9) (.v (.bool false))), none⟩,
  ⟨(some k11), (.mov (.t k10)), none⟩,
  ⟨(some k12), (.fieldA 2 (.t k1)), (some (k11, true))⟩,
  ⟨(some k13), (.load false 1 (.t k12)), (some (k11, true))⟩,
  ⟨(some k14), (.lenL (.t k13)), (some (k11, true))⟩,
  ⟨(some k15), (.bin .eql (.t k14) (.v (.int .i64 (.lit 0)))), (some (k11, true))⟩,
  ⟨(some k16), (.pick (.t k11) (.t k15) (.v (.bool false))), none⟩,
  ⟨(some k2), (.mov (.t k16)), none⟩]
def f89 : PFn := ⟨(.seq (.ops f89r0)
 (.seq (.ops f89r1)
 .ret)),
 [.tmp k2]⟩
/- refuter/parser.zeroExpr -/
def f90r0 : List POper := [⟨(some k1), (.box (.t k0)), none⟩,
  ⟨(some k2), (.mov (.v (.bool false))), none⟩]
def f90r1 : List POper := [⟨(some k3), (.fieldA 0 (.t k1)), none⟩,
  ⟨(some k4), (.load false 1 (.t k3)), none⟩,
  ⟨(some k5), (.bin .eql (.t k4) (.v (.int .i64 (.lit 0)))), none⟩,
  ⟨(some k6), (.mov (.t k5)), none⟩,
  ⟨(some k7), (.fieldA 1 (.t k1)), (some (k6, true))⟩,
  ⟨(some k8), (.load false 1 (.t k7)), (some (k6, true))⟩,
  ⟨(some k9), (.bin .eql (.t k8) (.v (.str 0 0))), (some (k6, true))⟩,
  ⟨(some k10), (.pick (.t k6) (.t k9) (.v (.bool false))), none⟩,
  ⟨(some k11), (.mov (.t k10)), none⟩,
  ⟨(some k12), (.fieldA 2 (.t k1)), (some (k11, true))⟩,
  ⟨(some k13), (.load false 1 (.t k12)), (some (k11, true))⟩,
  ⟨(some k14), (.bin .eql (.t k13) (.v (.int .i64 (.lit 0)))), (some (k11, true))⟩,
  ⟨(some k15), (.pick (.t k11) (.t k14) (.v (.bool false))), none⟩,
  ⟨(some k16), (.mov (.t k15)), none⟩,
  ⟨(some k17), (.fieldA 3 (.t k1)), (some (k16, true))⟩,
  ⟨(some k18), (.load false 1 (.t k17)), (some (k16, true))⟩,
  ⟨(some k19), (.lenL (.t k18)), (some (k16, true))⟩,
  ⟨(some k20), (.bin .eql (.t k19) (.v (.int .i64 (.lit 0)))), (some (k16, true))⟩,
  ⟨(some k21), (.pick (.t k16) (.t k20) (.v (.bool false))), none⟩,
  ⟨(some k22), (.mov (.t k21)), none⟩,
  ⟨(some k23), (.fieldA 4 (.t k1)), (some (k22, true))⟩,
  ⟨(some k24), (.load false 1 (.t k23)), (some (k22, true))⟩,
  ⟨(some k25), (.lenL (.t k24)), (some (k22, true))⟩,
  ⟨(some k26), (.bin .eql (.t k25) (.v (.int .i64 (.lit 0)))), (some (k22, true))⟩,
  ⟨(some k27), (.pick (.t k22) (.t k26) (.v (.bool false))), none⟩,
  ⟨(some k28), (.mov (.t k27)), none⟩,
  ⟨(some k29), (.fieldA 5 (.t k1)), (some (k28, true))⟩,
  ⟨(some k30), (.load false 1 (.t k29)), (some (k28, true))⟩,
  ⟨(some k31), (.lenL (.t k30)), (some (k28, true))⟩,
  ⟨(some k32), (.bin .eql (.t k31) (.v (.int .i64 (.lit 0)))), (some (k28, true))⟩,
  ⟨(some k33), (.pick (.t k28) (.t k32) (.v (.bool false))), none⟩,
  ⟨(some k2), (.mov (.t k33)), none⟩]
def f90 : PFn := ⟨(.seq (.ops f90r0)
 (.seq (.ops f90r1)
 .ret)),
 [.tmp k2]⟩
/- refuter/parser.zeroGen -/
def f91r0 : List POper := [⟨(some k1), (.box (.t k0)), none⟩,
  ⟨(some k2), (.mov (.v (.bool false))), none⟩]
def f91r1 : List POper := [⟨(some k3), (.fieldA 0 (.t k1)), none⟩,
  ⟨(some k4), (.load false 1 (.t k3)), none⟩,
  ⟨(some k5), (.bin .eql (.t k4) (.v (.int .i64 (.lit 0)))), none⟩,
  ⟨(some k6), (.mov (.t k5)), none⟩,
  ⟨(some k7), (.fieldA 1 (.t k1)), (some (k6, true))⟩,
  ⟨(some k8), (.load false 1 (.t k7)), (some (k6, true))⟩,
  ⟨(some k9), (.bin .eql (.t k8) (.v (.str 0 0))), (some (k6, true))⟩,
  ⟨(some k10), (.pick (.t k6) (.t k9) (.v (.bool false))), none⟩,
  ⟨(some k11), (.mov (.t k10)), none⟩,
  ⟨(some k12), (.fieldA 2 (.t k1)), (some (k11, true))⟩,
  ⟨(some k13), (.load false 1 (.t k12)), (some (k11, true))⟩,
  ⟨(some k14), (.lenL (.t k13)), (some (k11, true))⟩,
  ⟨(some k15), (.bin .eql (.t k14) (.v (.int .i64 (.lit 0)))), (some (k11, true))⟩,
  ⟨(some k16), (.pick (.t k11) (.t k15) (.v (.bool false))), none⟩,
  ⟨(some k17), (.mov (.t k16)), none⟩,
  ⟨(some k18), (.fieldA 3 (.t k1)), (some (k17, true))⟩,
  ⟨(some k19), (.load false 1 (.t k18)), (some (k17, true))⟩,
  ⟨(some k20), (.lenL (.t k19)), (some (k17, true))⟩,
  ⟨(some k21), (.bin .eql (.t k20) (.v (.int .i64 (.lit 0)))), (some (k17, true))⟩,
  ⟨(some k22), (.pick (.t k17) (.t k21) (.v (.bool false))), none⟩,
  ⟨(some k23), (.mov (.t k22)), none⟩,
  ⟨(some k24), (.fieldA 4 (.t k1)), (some (k23, true))⟩,
  ⟨(some k25), (.load false 1 (.t k24)), (some (k23, true))⟩,
  ⟨(some k26), (.lenL (.t k25)), (some (k23, true))⟩,
  ⟨(some k27), (.bin .eql (.t k26) (.v (.int .i64 (.lit 0)))), (some (k23, true))⟩,
  ⟨(some k28), (.pick (.t k23) (.t k27) (.v (.bool false))), none⟩,
  ⟨(some k2), (.mov (.t k28)), none⟩]
def f91 : PFn := ⟨(.seq (.ops f91r0)
 (.seq (.ops f91r1)
 .ret)),
 [.tmp k2]⟩
/- refuter/parser.single -/
def f92r0 : List POper := [⟨(some k4), (.mov (.v (.bool false))), none⟩]
def f92r1 : List POper := [⟨(some k8), (.mov (.t k0)), none⟩,
  ⟨(some k9), (.lenS (.t k8)), none⟩,
  ⟨(some k10), (.bin .gtr (.t k9) (.v (.int .i64 (.lit 16)))), none⟩]
def f92r2 : List POper := [⟨(some k4), (.mov (.v (.bool false))), none⟩]
def f92r3 : List POper := [⟨(some k12), (.mov (.t k0)), none⟩,
  ⟨(some k13), (.callF 20 [(.t k12)]), none⟩,
  ⟨(some k11), (.mov (.t k13)), none⟩,
  ⟨(some k14), (.extract (.t k11) 0), none⟩,
  ⟨(some k15), (.extract (.t k11) 1), none⟩,
  ⟨(some k16), (.extract (.t k11) 2), none⟩,
  ⟨(some k5), (.mov (.t k14)), none⟩,
  ⟨(some k6), (.mov (.t k15)), none⟩,
  ⟨(some k7), (.mov (.t k16)), none⟩]
def f92r4 : List POper := [⟨(some k17), (.mov (.t k7)), none⟩,
  ⟨(some k18), (.bin .eql (.t k17) (.v (.int .i64 (.lit 0)))), none⟩,
  ⟨(some k19), (.mov (.t k18)), none⟩,
  ⟨(some k20), (.mov (.t k5)), (some (k19, true))⟩,
  ⟨(some k21), (.lenL (.t k20)), (some (k19, true))⟩,
  ⟨(some k22), (.bin .eql (.t k21) (.v (.int .i64 (.lit 1)))), (some (k19, true))⟩,
  ⟨(some k23), (.pick (.t k19) (.t k22) (.v (.bool false))), none⟩,
  ⟨(some k24), (.mov (.t k23)), none⟩,
  ⟨(some k25), (.mov (.t k5)), (some (k24, true))⟩,
  ⟨(some k26), (.indexL 4 (.t k25) (.v (.int .i64 (.lit 0)))), (some (k24, true))⟩,
  ⟨(some k27), (.fieldA 0 (.t k26)), (some (k24, true))⟩,
  ⟨(some k28), (.load false 1 (.t k27)), (some (k24, true))⟩,
  ⟨(some k29), (.mov (.t k1)), (some (k24, true))⟩,
  ⟨(some k30), (.bin .eql (.t k28) (.t k29)), (some (k24, true))⟩,
  ⟨(some k31), (.pick (.t k24) (.t k30) (.v (.bool false))), none⟩,
  ⟨(some k32), (.mov (.t k31)), none⟩,
  ⟨(some k33), (.mov (.t k5)), (some (k32, true))⟩,
  ⟨(some k34), (.indexL 4 (.t k33) (.v (.int .i64 (.lit 0)))), (some (k32, true))⟩,
  ⟨(some k35), (.fieldA 3 (.t k34)), (some (k32, true))⟩,
  ⟨(some k36), (.load false 1 (.t k35)), (some (k32, true))⟩,
  ⟨(some k37), (.mov (.t k0)), (some (k32, true))⟩,
  ⟨(some k38), (.bin .eql (.t k36) (.t k37)), (some (k32, true))⟩,
  ⟨(some k39), (.pick (.t k32) (.t k38) (.v (.bool false))), none⟩,
  ⟨(some k4), (.mov (.t k39)), none⟩]
def f92 : PFn := ⟨(.seq (.ops f92r0)
 (.seq (.seq (.ops f92r1)
 (.cond (.t k10)
 (.seq (.ops f92r2)
 .ret)
 .skip))
 (.seq (.ops f92r3)
 (.seq (.ops f92r4)
 .ret)))),
 [.tmp k4]⟩
/- (*refuter/parser.checker).typeDepth -/
def f93r0 : List POper := [⟨(some k3), (.box (.t k1)), none⟩,
  ⟨(some k4), (.mov (.v (.int .i64 (.lit 0)))), none⟩]
def f93r1 : List POper := [⟨(some k5), (.mov (.v (.int .i64 (.lit 0)))), none⟩]
def f93r2 : List POper := [⟨(some k8), (.fieldA 2 (.t k3)), none⟩,
  ⟨(some k9), (.load false 1 (.t k8)), none⟩,
  ⟨(some k10), (.lenL (.t k9)), none⟩,
  ⟨(some k11), (.mov (.v (.int .i64 (.lit 0)))), none⟩]
def f93r3 : List POper := [⟨(some k12), (.bin .lss (.t k11) (.t k10)), none⟩]
def f93r4 : List POper := [⟨(some k13), (.indexL 3 (.t k9) (.t k11)), none⟩,
  ⟨(some k14), (.load true 3 (.t k13)), none⟩,
  ⟨(some k7), (.new [(.int .i64 (.lit 0)), (.str 0 0), .nils]), none⟩,
  ⟨none, (.store 3 (.t k7) (.t k14)), none⟩]
def f93r5 : List POper := [⟨(some k15), (.mov (.t k5)), none⟩,
  ⟨(some k16), (.mov (.t k0)), none⟩,
  ⟨(some k17), (.load true 3 (.t k7)), none⟩,
  ⟨(some k18), (.callF 93 [(.t k16), (.t k17)]), none⟩,
  ⟨(some k19), (.mx true (.t k15) (.t k18)), none⟩,
  ⟨(some k5), (.mov (.t k19)), none⟩]
def f93r6 : List POper := [⟨(some k20), (.bin .add (.t k11) (.v (.int .i64 (.lit 1)))), none⟩,
  ⟨(some k11), (.mov (.t k20)), none⟩]
def f93l0 : PCode := (.seq (.ops f93r3)
 (.seq (.cond (.t k12)
 .skip
 (.exit 0))
 (.seq (.block 1 (.seq (.ops f93r4)
 (.ops f93r5)))
 (.ops f93r6))))
def f93r7 : List POper := [⟨(some k21), (.fieldA 0 (.t k3)), none⟩,
  ⟨(some k22), (.load false 1 (.t k21)), none⟩]
def f93r8 : List POper := [⟨(some k26), (.bin .eql (.t k22) (.v (.int .i64 (.lit 0)))), none⟩,
  ⟨(some k25), (.mov (.t k26)), none⟩]
def f93r9 : List POper := [⟨(some k27), (.bin .eql (.t k22) (.v (.int .i64 (.lit 1)))), none⟩,
  ⟨(some k25), (.mov (.t k27)), none⟩]
def f93r10 : List POper := [⟨(some k28), (.mov (.t k0)), none⟩,
  ⟨(some k29), (.fieldA 1 (.t k3)), none⟩,
  ⟨(some k30), (.load false 1 (.t k29)), none⟩,
  ⟨(some k31), (.bin .eql (.t k30) (.v (.str 0 0))), none⟩,
  ⟨(some k32), (.mov (.t k31)), none⟩,
  ⟨(some k33), (.fieldA 2 (.t k3)), (some (k32, true))⟩,
  ⟨(some k34), (.load false 1 (.t k33)), (some (k32, true))⟩,
  ⟨(some k35), (.lenL (.t k34)), (some (k32, true))⟩,
  ⟨(some k36), (.bin .eql (.t k35) (.v (.int .i64 (.lit 0)))), (some (k32, true))⟩,
  ⟨(some k37), (.pick (.t k32) (.t k36) (.v (.bool false))), none⟩,
  ⟨(some k38), (.callF 52 [(.t k28), (.t k37)]), none⟩]
def f93r11 : List POper := [⟨(some k40), (.bin .eql (.t k22) (.v (.int .i64 (.lit 2)))), none⟩,
  ⟨(some k39), (.mov (.t k40)), none⟩]
def f93r12 : List POper := [⟨(some k41), (.mov (.t k0)), none⟩,
  ⟨(some k42), (.fieldA 1 (.t k3)), none⟩,
  ⟨(some k43), (.load false 1 (.t k42)), none⟩,
  ⟨(some k44), (.bin .eql (.t k43) (.v (.str 0 0))), none⟩,
  ⟨(some k45), (.mov (.t k44)), none⟩,
  ⟨(some k46), (.fieldA 2 (.t k3)), (some (k45, true))⟩,
  ⟨(some k47), (.load false 1 (.t k46)), (some (k45, true))⟩,
  ⟨(some k48), (.lenL (.t k47)), (some (k45, true))⟩,
  ⟨(some k49), (.bin .eql (.t k48) (.v (.int .i64 (.lit 1)))), (some (k45, true))⟩,
  ⟨(some k50), (.pick (.t k45) (.t k49) (.v (.bool false))), none⟩,
  ⟨(some k51), (.callF 52 [(.t k41), (.t k50)]), none⟩]
def f93r13 : List POper := [⟨(some k53), (.bin .eql (.t k22) (.v (.int .i64 (.lit 3)))), none⟩,
  ⟨(some k52), (.mov (.t k53)), none⟩]
def f93r14 : List POper := [⟨(some k54), (.mov (.t k0)), none⟩,
  ⟨(some k55), (.fieldA 2 (.t k3)), none⟩,
  ⟨(some k56), (.load false 1 (.t k55)), none⟩,
  ⟨(some k57), (.lenL (.t k56)), none⟩,
  ⟨(some k58), (.bin .eql (.t k57) (.v (.int .i64 (.lit 0)))), none⟩,
  ⟨(some k59), (.callF 52 [(.t k54), (.t k58)]), none⟩]
def f93r15 : List POper := [⟨(some k60), (.mov (.t k0)), none⟩,
  ⟨(some k61), (.fieldA 1 (.t k3)), none⟩,
  ⟨(some k62), (.load false 1 (.t k61)), none⟩,
  ⟨(some k63), (.callF 51 [(.t k60), (.t k62)]), none⟩]
def f93r16 : List POper := [⟨(some k23), (.mov (.t k0)), none⟩,
  ⟨(some k24), (.callF 52 [(.t k23), (.v (.bool false))]), none⟩]
def f93r17 : List POper := [⟨(some k64), (.mov (.t k5)), none⟩,
  ⟨(some k65), (.bin .add (.t k64) (.v (.int .i64 (.lit 1)))), none⟩,
  ⟨(some k4), (.mov (.t k65)), none⟩]
def f93 : PFn := ⟨(.seq (.ops f93r0)
 (.seq (.ops f93r1)
 (.seq (.seq (.ops f93r2)
 (.block 0 (.loop f93l0)))
 (.seq (.seq (.ops f93r7)
 (.block 2 (.seq (.seq (.ops f93r8)
 (.cond (.t k25)
 .skip
 (.ops f93r9)))
 (.cond (.t k25)
 (.ops f93r10)
 (.seq (.ops f93r11)
 (.cond (.t k39)
 (.ops f93r12)
 (.seq (.ops f93r13)
 (.cond (.t k52)
 (.seq (.ops f93r14)
 (.ops f93r15))
 (.ops f93r16)))))))))
 (.seq (.ops f93r17)
 .ret))))),
 [.tmp k4]⟩
/- (*refuter/parser.checker).exprDepth -/
def f94r0 : List POper := [⟨(some k3), (.box (.t k1)), none⟩,
  ⟨(some k4), (.mov (.v (.int .i64 (.lit 0)))), none⟩]
def f94r1 : List POper := [⟨(some k5), (.mov (.v (.int .i64 (.lit 0)))), none⟩]
def f94r2 : List POper := [⟨(some k9), (.fieldA 5 (.t k3)), none⟩,
  ⟨(some k10), (.load false 1 (.t k9)), none⟩,
  ⟨(some k11), (.lenL (.t k10)), none⟩,
  ⟨(some k12), (.mov (.v (.int .i64 (.lit 0)))), none⟩]
def f94r3 : List POper := [⟨(some k13), (.bin .lss (.t k12) (.t k11)), none⟩]
def f94r4 : List POper := [⟨(some k14), (.indexL 7 (.t k10) (.t k12)), none⟩,
  ⟨(some k15), (.load true 7 (.t k14)), none⟩,
  ⟨(some k7), (.new [(.int .i64 (.lit 0)), (.str 0 0), (.int .i64 (.lit 0)), .nils, .nils, .nils, (.int .i64 (.lit 0))]), none⟩,
  ⟨none, (.store 7 (.t k7) (.t k15)), none⟩]
def f94r5 : List POper := [⟨(some k16), (.mov (.t k5)), none⟩,
  ⟨(some k17), (.mov (.t k0)), none⟩,
  ⟨(some k18), (.load true 7 (.t k7)), none⟩,
  ⟨(some k19), (.callF 94 [(.t k17), (.t k18)]), none⟩,
  ⟨(some k20), (.mx true (.t k16) (.t k19)), none⟩,
  ⟨(some k5), (.mov (.t k20)), none⟩]
def f94r6 : List POper := [⟨(some k21), (.bin .add (.t k12) (.v (.int .i64 (.lit 1)))), none⟩,
  ⟨(some k12), (.mov (.t k21)), none⟩]
def f94l0 : PCode := (.seq (.ops f94r3)
 (.seq (.cond (.t k13)
 .skip
 (.exit 0))
 (.seq (.block 1 (.seq (.ops f94r4)
 (.ops f94r5)))
 (.ops f94r6))))
def f94r7 : List POper := [⟨(some k22), (.fieldA 5 (.t k3)), none⟩,
  ⟨(some k23), (.load false 1 (.t k22)), none⟩,
  ⟨(some k24), (.lenL (.t k23)), none⟩,
  ⟨(some k8), (.mov (.t k24)), none⟩]
def f94r8 : List POper := [⟨(some k25), (.mov (.t k0)), none⟩,
  ⟨(some k26), (.fieldA 0 (.t k3)), none⟩,
  ⟨(some k27), (.load false 1 (.t k26)), none⟩,
  ⟨(some k28), (.bin .eql (.t k27) (.v (.int .i64 (.lit 8)))), none⟩,
  ⟨(some k29), (.mov (.t k28)), none⟩,
  ⟨(some k30), (.fieldA 3 (.t k3)), (some (k29, false))⟩,
  ⟨(some k31), (.load false 1 (.t k30)), (some (k29, false))⟩,
  ⟨(some k32), (.lenL (.t k31)), (some (k29, false))⟩,
  ⟨(some k33), (.bin .eql (.t k32) (.v (.int .i64 (.lit 0)))), (some (k29, false))⟩,
  ⟨(some k34), (.mov (.t k33)), (some (k29, false))⟩,
  ⟨(some k35), (.fieldA 4 (.t k3)), (some (k34, true))⟩,
  ⟨(some k36), (.load false 1 (.t k35)), (some (k34, true))⟩,
  ⟨(some k37), (.lenL (.t k36)), (some (k34, true))⟩,
  ⟨(some k38), (.bin .eql (.t k37) (.v (.int .i64 (.lit 0)))), (some (k34, true))⟩,
  ⟨(some k39), (.pick (.t k34) (.t k38) (.v (.bool false))), (some (k29, false))⟩,
  ⟨(some k40), (.pick (.t k29) (.v (.bool true)) (.t k39)), none⟩,
  ⟨(some k41), (.callF 52 [(.t k25), (.t k40)]), none⟩]
def f94r9 : List POper := [⟨(some k42), (.mov (.t k0)), none⟩,
  ⟨(some k43), (.fieldA 0 (.t k3)), none⟩,
  ⟨(some k44), (.load false 1 (.t k43)), none⟩,
  ⟨(some k45), (.bin .eql (.t k44) (.v (.int .i64 (.lit 0)))), none⟩,
  ⟨(some k46), (.mov (.t k45)), none⟩,
  ⟨(some k47), (.fieldA 0 (.t k3)), (some (k46, false))⟩,
  ⟨(some k48), (.load false 1 (.t k47)), (some (k46, false))⟩,
  ⟨(some k49), (.bin .eql (.t k48) (.v (.int .i64 (.lit 1)))), (some (k46, false))⟩,
  ⟨(some k50), (.pick (.t k46) (.v (.bool true)) (.t k49)), none⟩,
  ⟨(some k51), (.mov (.t k50)), none⟩,
  ⟨(some k52), (.fieldA 2 (.t k3)), (some (k51, false))⟩,
  ⟨(some k53), (.load false 1 (.t k52)), (some (k51, false))⟩,
  ⟨(some k54), (.bin .eql (.t k53) (.v (.int .i64 (.lit 0)))), (some (k51, false))⟩,
  ⟨(some k55), (.pick (.t k51) (.v (.bool true)) (.t k54)), none⟩,
  ⟨(some k56), (.callF 52 [(.t k42), (.t k55)]), none⟩]
def f94r10 : List POper := [⟨(some k57), (.fieldA 0 (.t k3)), none⟩,
  ⟨(some k58), (.load false 1 (.t k57)), none⟩]
def f94r11 : List POper := [⟨(some k62), (.bin .eql (.t k58) (.v (.int .i64 (.lit 0)))), none⟩,
  ⟨(some k61), (.mov (.t k62)), none⟩]
def f94r12 : List POper := [⟨(some k63), (.mov (.t k0)), none⟩,
  ⟨(some k64), (.fieldA 1 (.t k3)), none⟩,
  ⟨(some k65), (.load false 1 (.t k64)), none⟩,
  ⟨(some k66), (.bin .eql (.t k65) (.v (.str 0 0))), none⟩,
  ⟨(some k67), (.mov (.t k66)), none⟩,
  ⟨(some k68), (.mov (.t k8)), (some (k67, true))⟩,
  ⟨(some k69), (.bin .eql (.t k68) (.v (.int .i64 (.lit 0)))), (some (k67, true))⟩,
  ⟨(some k70), (.pick (.t k67) (.t k69) (.v (.bool false))), none⟩,
  ⟨(some k71), (.callF 52 [(.t k63), (.t k70)]), none⟩]
def f94r13 : List POper := [⟨(some k72), (.mov (.t k0)), none⟩,
  ⟨(some k73), (.fieldA 2 (.t k3)), none⟩,
  ⟨(some k74), (.load false 1 (.t k73)), none⟩,
  ⟨(some k75), (.callF 56 [(.t k72), (.t k74), (.v (.int .i64 (.lit (-1099511627776)))), (.v (.int .i64 (.lit 1099511627776)))]), none⟩]
def f94r14 : List POper := [⟨(some k77), (.bin .eql (.t k58) (.v (.int .i64 (.lit 1)))), none⟩,
  ⟨(some k76), (.mov (.t k77)), none⟩]
def f94r15 : List POper := [⟨(some k78), (.mov (.t k0)), none⟩,
  ⟨(some k79), (.fieldA 1 (.t k3)), none⟩,
  ⟨(some k80), (.load false 1 (.t k79)), none⟩,
  ⟨(some k81), (.bin .eql (.t k80) (.v (.str 0 0))), none⟩,
  ⟨(some k82), (.mov (.t k81)), none⟩,
  ⟨(some k83), (.mov (.t k8)), (some (k82, true))⟩,
  ⟨(some k84), (.bin .eql (.t k83) (.v (.int .i64 (.lit 0)))), (some (k82, true))⟩,
  ⟨(some k85), (.pick (.t k82) (.t k84) (.v (.bool false))), none⟩,
  ⟨(some k86), (.mov (.t k85)), none⟩,
  ⟨(some k87), (.fieldA 2 (.t k3)), (some (k86, true))⟩,
  ⟨(some k88), (.load false 1 (.t k87)), (some (k86, true))⟩,
  ⟨(some k89), (.bin .eql (.t k88) (.v (.int .i64 (.lit 0)))), (some (k86, true))⟩,
  ⟨(some k90), (.mov (.t k89)), (some (k86, true))⟩,
  ⟨(some k91), (.fieldA 2 (.t k3)), (some (k90, false))⟩,
  ⟨(some k92), (.load false 1 (.t k91)), (some (k90, false))⟩,
  ⟨(some k93), (.bin .eql (.t k92) (.v (.int .i64 (.lit 1)))), (some (k90, false))⟩,
  ⟨(some k94), (.pick (.t k90) (.v (.bool true)) (.t k93)), (some (k86, true))⟩,
  ⟨(some k95), (.pick (.t k86) (.t k94) (.v (.bool false))), none⟩,
  ⟨(some k96), (.callF 52 [(.t k78), (.t k95)]), none⟩]
def f94r16 : List POper := [⟨(some k98), (.bin .eql (.t k58) (.v (.int .i64 (.lit 2)))), none⟩,
  ⟨(some k97), (.mov (.t k98)), none⟩]
def f94r17 : List POper := [⟨(some k99), (.mov (.t k0)), none⟩,
  ⟨(some k100), (.mov (.t k8)), none⟩,
  ⟨(some k101), (.bin .eql (.t k100) (.v (.int .i64 (.lit 0)))), none⟩,
  ⟨(some k102), (.callF 52 [(.t k99), (.t k101)]), none⟩]
def f94r18 : List POper := [⟨(some k103), (.mov (.t k0)), none⟩,
  ⟨(some k104), (.fieldA 1 (.t k3)), none⟩,
  ⟨(some k105), (.load false 1 (.t k104)), none⟩,
  ⟨(some k106), (.callF 60 [(.t k103), (.t k105)]), none⟩]
def f94r19 : List POper := [⟨(some k108), (.bin .eql (.t k58) (.v (.int .i64 (.lit 3)))), none⟩,
  ⟨(some k107), (.mov (.t k108)), none⟩]
def f94r20 : List POper := [⟨(some k109), (.mov (.t k0)), none⟩,
  ⟨(some k110), (.mov (.t k8)), none⟩,
  ⟨(some k111), (.callF 24 [(.t k109), (.t k110), (.v (.int .i64 (.lit 16)))]), none⟩]
def f94r21 : List POper := [⟨(some k112), (.mov (.t k0)), none⟩,
  ⟨(some k113), (.fieldA 1 (.t k3)), none⟩,
  ⟨(some k114), (.load false 1 (.t k113)), none⟩,
  ⟨(some k115), (.callF 60 [(.t k112), (.t k114)]), none⟩]
def f94r22 : List POper := [⟨(some k117), (.bin .eql (.t k58) (.v (.int .i64 (.lit 4)))), none⟩,
  ⟨(some k116), (.mov (.t k117)), none⟩]
def f94r23 : List POper := [⟨(some k118), (.mov (.t k0)), none⟩,
  ⟨(some k119), (.mov (.t k8)), none⟩,
  ⟨(some k120), (.callF 24 [(.t k118), (.t k119), (.v (.int .i64 (.lit 16)))]), none⟩]
def f94r24 : List POper := [⟨(some k121), (.mov (.t k0)), none⟩,
  ⟨(some k122), (.fieldA 1 (.t k3)), none⟩,
  ⟨(some k123), (.load false 1 (.t k122)), none⟩,
  ⟨(some k124), (.callF 51 [(.t k121), (.t k123)]), none⟩]
def f94r25 : List POper := [⟨(some k126), (.bin .eql (.t k58) (.v (.int .i64 (.lit 5)))), none⟩,
  ⟨(some k125), (.mov (.t k126)), none⟩]
def f94r26 : List POper := [⟨(some k127), (.mov (.t k0)), none⟩,
  ⟨(some k128), (.mov (.t k8)), none⟩,
  ⟨(some k129), (.callF 24 [(.t k127), (.t k128), (.v (.int .i64 (.lit 256)))]), none⟩]
def f94r27 : List POper := [⟨(some k130), (.mov (.t k0)), none⟩,
  ⟨(some k131), (.fieldA 1 (.t k3)), none⟩,
  ⟨(some k132), (.load false 1 (.t k131)), none⟩,
  ⟨(some k133), (.bin .eql (.t k132) (.v (.str 0 0))), none⟩,
  ⟨(some k134), (.callF 52 [(.t k130), (.t k133)]), none⟩]
def f94r28 : List POper := [⟨(some k136), (.bin .eql (.t k58) (.v (.int .i64 (.lit 6)))), none⟩,
  ⟨(some k135), (.mov (.t k136)), none⟩]
def f94r29 : List POper := [⟨(some k137), (.mov (.t k0)), none⟩,
  ⟨(some k138), (.fieldA 1 (.t k3)), none⟩,
  ⟨(some k139), (.load false 1 (.t k138)), none⟩,
  ⟨(some k140), (.bin .eql (.t k139) (.v (.str 0 0))), none⟩,
  ⟨(some k141), (.mov (.t k140)), none⟩,
  ⟨(some k142), (.mov (.t k8)), (some (k141, true))⟩,
  ⟨(some k143), (.bin .eql (.t k142) (.v (.int .i64 (.lit 3)))), (some (k141, true))⟩,
  ⟨(some k144), (.pick (.t k141) (.t k143) (.v (.bool false))), none⟩,
  ⟨(some k145), (.callF 52 [(.t k137), (.t k144)]), none⟩]
def f94r30 : List POper := [⟨(some k147), (.bin .eql (.t k58) (.v (.int .i64 (.lit 7)))), none⟩,
  ⟨(some k146), (.mov (.t k147)), none⟩]
def f94r31 : List POper := [⟨(some k148), (.mov (.t k0)), none⟩,
  ⟨(some k149), (.mov (.t k8)), none⟩,
  ⟨(some k150), (.bin .eql (.t k149) (.v (.int .i64 (.lit 2)))), none⟩,
  ⟨(some k151), (.callF 52 [(.t k148), (.t k150)]), none⟩]
def f94r32 : List POper := [⟨(some k152), (.mov (.t k0)), none⟩,
  ⟨(some k153), (.fieldA 1 (.t k3)), none⟩,
  ⟨(some k154), (.load false 1 (.t k153)), none⟩,
  ⟨(some k155), (.callF 60 [(.t k152), (.t k154)]), none⟩]
def f94r33 : List POper := [⟨(some k157), (.bin .eql (.t k58) (.v (.int .i64 (.lit 8)))), none⟩,
  ⟨(some k156), (.mov (.t k157)), none⟩]
def f94r34 : List POper := [⟨(some k158), (.mov (.t k0)), none⟩,
  ⟨(some k159), (.load true 7 (.t k3)), none⟩,
  ⟨(some k160), (.callF 139 [(.t k158), (.t k159)]), none⟩]
def f94r35 : List POper := [⟨(some k162), (.bin .eql (.t k58) (.v (.int .i64 (.lit 9)))), none⟩,
  ⟨(some k161), (.mov (.t k162)), none⟩]
def f94r36 : List POper := [⟨(some k163), (.mov (.t k0)), none⟩,
  ⟨(some k164), (.fieldA 1 (.t k3)), none⟩,
  ⟨(some k165), (.load false 1 (.t k164)), none⟩,
  ⟨(some k166), (.callF 140 [(.t k165)]), none⟩,
  ⟨(some k167), (.bin .eql (.t k166) (.v (.int .i64 (.lit 3)))), none⟩,
  ⟨(some k168), (.mov (.t k167)), none⟩,
  ⟨(some k169), (.mov (.t k8)), (some (k168, true))⟩,
  ⟨(some k170), (.bin .eql (.t k169) (.v (.int .i64 (.lit 1)))), (some (k168, true))⟩,
  ⟨(some k171), (.pick (.t k168) (.t k170) (.v (.bool false))), none⟩,
  ⟨(some k172), (.mov (.t k171)), none⟩,
  ⟨(some k173), (.fieldA 1 (.t k3)), (some (k172, false))⟩,
  ⟨(some k174), (.load false 1 (.t k173)), (some (k172, false))⟩,
  ⟨(some k175), (.callF 140 [(.t k174)]), (some (k172, false))⟩,
  ⟨(some k176), (.bin .gtr (.t k175) (.v (.int .i64 (.lit 0)))), (some (k172, false))⟩,
  ⟨(some k177), (.mov (.t k176)), (some (k172, false))⟩,
  ⟨(some k178), (.fieldA 1 (.t k3)), (some (k177, true))⟩,
  ⟨(some k179), (.load false 1 (.t k178)), (some (k177, true))⟩,
  ⟨(some k180), (.callF 140 [(.t k179)]), (some (k177, true))⟩,
  ⟨(some k181), (.bin .neq (.t k180) (.v (.int .i64 (.lit 3)))), (some (k177, true))⟩,
  ⟨(some k182), (.pick (.t k177) (.t k181) (.v (.bool false))), (some (k172, false))⟩,
  ⟨(some k183), (.mov (.t k182)), (some (k172, false))⟩,
  ⟨(some k184), (.mov (.t k8)), (some (k183, true))⟩,
  ⟨(some k185), (.bin .eql (.t k184) (.v (.int .i64 (.lit 2)))), (some (k183, true))⟩,
  ⟨(some k186), (.pick (.t k183) (.t k185) (.v (.bool false))), (some (k172, false))⟩,
  ⟨(some k187), (.pick (.t k172) (.v (.bool true)) (.t k186)), none⟩,
  ⟨(some k188), (.callF 52 [(.t k163), (.t k187)]), none⟩]
def f94r37 : List POper := [⟨(some k59), (.mov (.t k0)), none⟩,
  ⟨(some k60), (.callF 52 [(.t k59), (.v (.bool false))]), none⟩]
def f94r38 : List POper := [⟨(some k189), (.mov (.t k5)), none⟩,
  ⟨(some k190), (.bin .add (.t k189) (.v (.int .i64 (.lit 1)))), none⟩,
  ⟨(some k4), (.mov (.t k190)), none⟩]
def f94 : PFn := ⟨(.seq (.ops f94r0)
 (.seq (.ops f94r1)
 (.seq (.seq (.ops f94r2)
 (.block 0 (.loop f94l0)))
 (.seq (.ops f94r7)
 (.seq (.ops f94r8)
 (.seq (.ops f94r9)
 (.seq (.seq (.ops f94r10)
 (.block 2 (.seq (.ops f94r11)
 (.cond (.t k61)
 (.seq (.ops f94r12)
 (.ops f94r13))
 (.seq (.ops f94r14)
 (.cond (.t k76)
 (.ops f94r15)
 (.seq (.ops f94r16)
 (.cond (.t k97)
 (.seq (.ops f94r17)
 (.ops f94r18))
 (.seq (.ops f94r19)
 (.cond (.t k107)
 (.seq (.ops f94r20)
 (.ops f94r21))
 (.seq (.ops f94r22)
 (.cond (.t k116)
 (.seq (.ops f94r23)
 (.ops f94r24))
 (.seq (.ops f94r25)
 (.cond (.t k125)
 (.seq (.ops f94r26)
 (.ops f94r27))
 (.seq (.ops f94r28)
 (.cond (.t k135)
 (.ops f94r29)
 (.seq (.ops f94r30)
 (.cond (.t k146)
 (.seq (.ops f94r31)
 (.ops f94r32))
 (.seq (.ops f94r33)
 (.cond (.t k156)
 (.ops f94r34)
 (.seq (.ops f94r35)
 (.cond (.t k161)
 (.ops f94r36)
 (.ops f94r37)))))))))))))))))))))))
 (.seq (.ops f94r38)
 .ret)))))))),
 [.tmp k4]⟩
/- (*refuter/parser.checker).genDepth -/
def f95r0 : List POper := [⟨(some k3), (.box (.t k1)), none⟩,
  ⟨(some k4), (.mov (.v (.int .i64 (.lit 0)))), none⟩]
def f95r1 : List POper := [⟨(some k5), (.mov (.v (.int .i64 (.lit 0)))), none⟩]
def f95r2 : List POper := [⟨(some k14), (.fieldA 3 (.t k3)), none⟩,
  ⟨(some k15), (.load false 1 (.t k14)), none⟩,
  ⟨(some k16), (.lenL (.t k15)), none⟩,
  ⟨(some k17), (.mov (.v (.int .i64 (.lit 0)))), none⟩]
def f95r3 : List POper := [⟨(some k18), (.bin .lss (.t k17) (.t k16)), none⟩]
def f95r4 : List POper := [⟨(some k19), (.indexL 7 (.t k15) (.t k17)), none⟩,
  ⟨(some k20), (.load true 7 (.t k19)), none⟩,
  ⟨(some k7), (.new [(.int .i64 (.lit 0)), (.str 0 0), (.int .i64 (.lit 0)), .nils, .nils, .nils, (.int .i64 (.lit 0))]), none⟩,
  ⟨none, (.store 7 (.t k7) (.t k20)), none⟩]
def f95r5 : List POper := [⟨(some k21), (.mov (.t k5)), none⟩,
  ⟨(some k22), (.mov (.t k0)), none⟩,
  ⟨(some k23), (.load true 7 (.t k7)), none⟩,
  ⟨(some k24), (.callF 94 [(.t k22), (.t k23)]), none⟩,
  ⟨(some k25), (.mx true (.t k21) (.t k24)), none⟩,
  ⟨(some k5), (.mov (.t k25)), none⟩]
def f95r6 : List POper := [⟨(some k26), (.bin .add (.t k17) (.v (.int .i64 (.lit 1)))), none⟩,
  ⟨(some k17), (.mov (.t k26)), none⟩]
def f95l0 : PCode := (.seq (.ops f95r3)
 (.seq (.cond (.t k18)
 .skip
 (.exit 0))
 (.seq (.block 1 (.seq (.ops f95r4)
 (.ops f95r5)))
 (.ops f95r6))))
def f95r7 : List POper := [⟨(some k27), (.fieldA 4 (.t k3)), none⟩,
  ⟨(some k28), (.load false 1 (.t k27)), none⟩,
  ⟨(some k29), (.lenL (.t k28)), none⟩,
  ⟨(some k30), (.mov (.v (.int .i64 (.lit 0)))), none⟩]
def f95r8 : List POper := [⟨(some k31), (.bin .lss (.t k30) (.t k29)), none⟩]
def f95r9 : List POper := [⟨(some k32), (.indexL 6 (.t k28) (.t k30)), none⟩,
  ⟨(some k33), (.load true 6 (.t k32)), none⟩,
  ⟨(some k9), (.new [(.int .i64 (.lit 0)), (.str 0 0), .nils, .nils, .nils, (.int .i64 (.lit 0))]), none⟩,
  ⟨none, (.store 6 (.t k9) (.t k33)), none⟩]
def f95r10 : List POper := [⟨(some k34), (.mov (.t k5)), none⟩,
  ⟨(some k35), (.mov (.t k0)), none⟩,
  ⟨(some k36), (.load true 6 (.t k9)), none⟩,
  ⟨(some k37), (.callF 95 [(.t k35), (.t k36)]), none⟩,
  ⟨(some k38), (.mx true (.t k34) (.t k37)), none⟩,
  ⟨(some k5), (.mov (.t k38)), none⟩]
def f95r11 : List POper := [⟨(some k39), (.bin .add (.t k30) (.v (.int .i64 (.lit 1)))), none⟩,
  ⟨(some k30), (.mov (.t k39)), none⟩]
def f95l1 : PCode := (.seq (.ops f95r8)
 (.seq (.cond (.t k31)
 .skip
 (.exit 2))
 (.seq (.block 3 (.seq (.ops f95r9)
 (.ops f95r10)))
 (.ops f95r11))))
def f95r12 : List SItem := [.L 0 ⟨(some k40), (.fieldA 3 (.t k3)), none⟩,
  .L 1 ⟨(some k41), (.load false 1 (.t k40)), none⟩,
  .L 2 ⟨(some k42), (.lenL (.t k41)), none⟩,
  .L 3 ⟨(some k43), (.fieldA 4 (.t k3)), none⟩,
  .L 4 ⟨(some k44), (.load false 1 (.t k43)), none⟩,
  .L 5 ⟨(some k45), (.lenL (.t k44)), none⟩,
  .L 6 ⟨(some k10), (.mov (.t k42)), none⟩,
  .L 7 ⟨(some k11), (.mov (.t k45)), none⟩]
def f95r13 : List POper := [⟨(some k46), (.mov (.t k0)), none⟩,
  ⟨(some k47), (.fieldA 0 (.t k3)), none⟩,
  ⟨(some k48), (.load false 1 (.t k47)), none⟩,
  ⟨(some k49), (.bin .eql (.t k48) (.v (.int .i64 (.lit 2)))), none⟩,
  ⟨(some k50), (.mov (.t k49)), none⟩,
  ⟨(some k51), (.fieldA 2 (.t k3)), (some (k50, false))⟩,
  ⟨(some k52), (.load false 1 (.t k51)), (some (k50, false))⟩,
  ⟨(some k53), (.lenL (.t k52)), (some (k50, false))⟩,
  ⟨(some k54), (.bin .eql (.t k53) (.v (.int .i64 (.lit 0)))), (some (k50, false))⟩,
  ⟨(some k55), (.pick (.t k50) (.v (.bool true)) (.t k54)), none⟩,
  ⟨(some k56), (.callF 52 [(.t k46), (.t k55)]), none⟩]
def f95r14 : List POper := [⟨(some k57), (.fieldA 0 (.t k3)), none⟩,
  ⟨(some k58), (.load false 1 (.t k57)), none⟩]
def f95r15 : List POper := [⟨(some k62), (.bin .eql (.t k58) (.v (.int .i64 (.lit 0)))), none⟩,
  ⟨(some k61), (.mov (.t k62)), none⟩]
def f95r16 : List POper := [⟨(some k63), (.mov (.t k0)), none⟩,
  ⟨(some k64), (.fieldA 1 (.t k3)), none⟩,
  ⟨(some k65), (.load false 1 (.t k64)), none⟩,
  ⟨(some k66), (.bin .eql (.t k65) (.v (.str 0 0))), none⟩,
  ⟨(some k67), (.mov (.t k66)), none⟩,
  ⟨(some k68), (.mov (.t k10)), (some (k67, true))⟩,
  ⟨(some k69), (.bin .eql (.t k68) (.v (.int .i64 (.lit 1)))), (some (k67, true))⟩,
  ⟨(some k70), (.pick (.t k67) (.t k69) (.v (.bool false))), none⟩,
  ⟨(some k71), (.mov (.t k70)), none⟩,
  ⟨(some k72), (.mov (.t k11)), (some (k71, true))⟩,
  ⟨(some k73), (.bin .eql (.t k72) (.v (.int .i64 (.lit 0)))), (some (k71, true))⟩,
  ⟨(some k74), (.pick (.t k71) (.t k73) (.v (.bool false))), none⟩,
  ⟨(some k75), (.callF 52 [(.t k63), (.t k74)]), none⟩]
def f95r17 : List POper := [⟨(some k77), (.bin .eql (.t k58) (.v (.int .i64 (.lit 1)))), none⟩,
  ⟨(some k76), (.mov (.t k77)), none⟩]
def f95r18 : List POper := [⟨(some k78), (.mov (.t k0)), none⟩,
  ⟨(some k79), (.fieldA 1 (.t k3)), none⟩,
  ⟨(some k80), (.load false 1 (.t k79)), none⟩,
  ⟨(some k81), (.bin .eql (.t k80) (.v (.str 0 0))), none⟩,
  ⟨(some k82), (.mov (.t k81)), none⟩,
  ⟨(some k83), (.mov (.t k10)), (some (k82, true))⟩,
  ⟨(some k84), (.bin .eql (.t k83) (.v (.int .i64 (.lit 2)))), (some (k82, true))⟩,
  ⟨(some k85), (.pick (.t k82) (.t k84) (.v (.bool false))), none⟩,
  ⟨(some k86), (.mov (.t k85)), none⟩,
  ⟨(some k87), (.mov (.t k11)), (some (k86, true))⟩,
  ⟨(some k88), (.bin .eql (.t k87) (.v (.int .i64 (.lit 0)))), (some (k86, true))⟩,
  ⟨(some k89), (.pick (.t k86) (.t k88) (.v (.bool false))), none⟩,
  ⟨(some k90), (.callF 52 [(.t k78), (.t k89)]), none⟩]
def f95r19 : List POper := [⟨(some k92), (.bin .eql (.t k58) (.v (.int .i64 (.lit 2)))), none⟩,
  ⟨(some k91), (.mov (.t k92)), none⟩]
def f95r20 : List POper := [⟨(some k93), (.mov (.t k0)), none⟩,
  ⟨(some k94), (.mov (.t k11)), none⟩,
  ⟨(some k95), (.callF 24 [(.t k93), (.t k94), (.v (.int .i64 (.lit 16)))]), none⟩]
def f95r21 : List POper := [⟨(some k96), (.mov (.t k0)), none⟩,
  ⟨(some k97), (.fieldA 2 (.t k3)), none⟩,
  ⟨(some k98), (.load false 1 (.t k97)), none⟩,
  ⟨(some k99), (.lenL (.t k98)), none⟩,
  ⟨(some k100), (.callF 24 [(.t k96), (.t k99), (.v (.int .i64 (.lit 16)))]), none⟩]
def f95r22 : List POper := [⟨(some k101), (.mov (.t k0)), none⟩,
  ⟨(some k102), (.fieldA 1 (.t k3)), none⟩,
  ⟨(some k103), (.load false 1 (.t k102)), none⟩,
  ⟨(some k104), (.bin .eql (.t k103) (.v (.str 0 0))), none⟩,
  ⟨(some k105), (.mov (.t k104)), none⟩,
  ⟨(some k106), (.mov (.t k10)), (some (k105, true))⟩,
  ⟨(some k107), (.bin .eql (.t k106) (.v (.int .i64 (.lit 0)))), (some (k105, true))⟩,
  ⟨(some k108), (.pick (.t k105) (.t k107) (.v (.bool false))), none⟩,
  ⟨(some k109), (.mov (.t k108)), none⟩,
  ⟨(some k110), (.mov (.t k11)), (some (k109, true))⟩,
  ⟨(some k111), (.bin .geq (.t k110) (.v (.int .i64 (.lit 1)))), (some (k109, true))⟩,
  ⟨(some k112), (.pick (.t k109) (.t k111) (.v (.bool false))), none⟩,
  ⟨(some k113), (.mov (.t k112)), none⟩,
  ⟨(some k114), (.mov (.t k11)), (some (k113, true))⟩,
  ⟨(some k115), (.fieldA 2 (.t k3)), (some (k113, true))⟩,
  ⟨(some k116), (.load false 1 (.t k115)), (some (k113, true))⟩,
  ⟨(some k117), (.lenL (.t k116)), (some (k113, true))⟩,
  ⟨(some k118), (.bin .eql (.t k114) (.t k117)), (some (k113, true))⟩,
  ⟨(some k119), (.pick (.t k113) (.t k118) (.v (.bool false))), none⟩,
  ⟨(some k120), (.callF 52 [(.t k101), (.t k119)]), none⟩]
def f95r23 : List POper := [⟨(some k121), (.fieldA 2 (.t k3)), none⟩,
  ⟨(some k122), (.load false 1 (.t k121)), none⟩,
  ⟨(some k123), (.lenL (.t k122)), none⟩,
  ⟨(some k124), (.mov (.v (.int .i64 (.lit 0)))), none⟩]
def f95r24 : List POper := [⟨(some k125), (.bin .lss (.t k124) (.t k123)), none⟩]
def f95r25 : List POper := [⟨(some k126), (.indexL 1 (.t k122) (.t k124)), none⟩,
  ⟨(some k127), (.load false 1 (.t k126)), none⟩,
  ⟨(some k13), (.mov (.t k127)), none⟩]
def f95r26 : List POper := [⟨(some k128), (.mov (.t k0)), none⟩,
  ⟨(some k129), (.mov (.t k13)), none⟩,
  ⟨(some k130), (.callF 56 [(.t k128), (.t k129), (.v (.int .i64 (.lit 0))), (.v (.int .i64 (.lit 1099511627776)))]), none⟩]
def f95r27 : List POper := [⟨(some k131), (.bin .add (.t k124) (.v (.int .i64 (.lit 1)))), none⟩,
  ⟨(some k124), (.mov (.t k131)), none⟩]
def f95l2 : PCode := (.seq (.ops f95r24)
 (.seq (.cond (.t k125)
 .skip
 (.exit 5))
 (.seq (.block 6 (.seq (.ops f95r25)
 (.ops f95r26)))
 (.ops f95r27))))
def f95r28 : List POper := [⟨(some k133), (.bin .eql (.t k58) (.v (.int .i64 (.lit 3)))), none⟩,
  ⟨(some k132), (.mov (.t k133)), none⟩]
def f95r29 : List POper := [⟨(some k134), (.mov (.t k0)), none⟩,
  ⟨(some k135), (.fieldA 1 (.t k3)), none⟩,
  ⟨(some k136), (.load false 1 (.t k135)), none⟩,
  ⟨(some k137), (.bin .eql (.t k136) (.v (.str 0 0))), none⟩,
  ⟨(some k138), (.mov (.t k137)), none⟩,
  ⟨(some k139), (.mov (.t k10)), (some (k138, true))⟩,
  ⟨(some k140), (.bin .eql (.t k139) (.v (.int .i64 (.lit 2)))), (some (k138, true))⟩,
  ⟨(some k141), (.pick (.t k138) (.t k140) (.v (.bool false))), none⟩,
  ⟨(some k142), (.mov (.t k141)), none⟩,
  ⟨(some k143), (.mov (.t k11)), (some (k142, true))⟩,
  ⟨(some k144), (.bin .eql (.t k143) (.v (.int .i64 (.lit 1)))), (some (k142, true))⟩,
  ⟨(some k145), (.pick (.t k142) (.t k144) (.v (.bool false))), none⟩,
  ⟨(some k146), (.callF 52 [(.t k134), (.t k145)]), none⟩]
def f95r30 : List POper := [⟨(some k148), (.bin .eql (.t k58) (.v (.int .i64 (.lit 4)))), none⟩,
  ⟨(some k147), (.mov (.t k148)), none⟩]
def f95r31 : List POper := [⟨(some k149), (.mov (.t k0)), none⟩,
  ⟨(some k150), (.mov (.t k11)), none⟩,
  ⟨(some k151), (.callF 24 [(.t k149), (.t k150), (.v (.int .i64 (.lit 16)))]), none⟩]
def f95r32 : List POper := [⟨(some k152), (.mov (.t k0)), none⟩,
  ⟨(some k153), (.mov (.t k10)), none⟩,
  ⟨(some k154), (.bin .eql (.t k153) (.v (.int .i64 (.lit 0)))), none⟩,
  ⟨(some k155), (.callF 52 [(.t k152), (.t k154)]), none⟩]
def f95r33 : List POper := [⟨(some k156), (.mov (.t k0)), none⟩,
  ⟨(some k157), (.fieldA 1 (.t k3)), none⟩,
  ⟨(some k158), (.load false 1 (.t k157)), none⟩,
  ⟨(some k159), (.callF 51 [(.t k156), (.t k158)]), none⟩]
def f95r34 : List POper := [⟨(some k161), (.bin .eql (.t k58) (.v (.int .i64 (.lit 5)))), none⟩,
  ⟨(some k160), (.mov (.t k161)), none⟩]
def f95r35 : List POper := [⟨(some k162), (.mov (.t k0)), none⟩,
  ⟨(some k163), (.mov (.t k10)), none⟩,
  ⟨(some k164), (.bin .eql (.t k163) (.v (.int .i64 (.lit 0)))), none⟩,
  ⟨(some k165), (.mov (.t k164)), none⟩,
  ⟨(some k166), (.mov (.t k11)), (some (k165, true))⟩,
  ⟨(some k167), (.bin .eql (.t k166) (.v (.int .i64 (.lit 2)))), (some (k165, true))⟩,
  ⟨(some k168), (.pick (.t k165) (.t k167) (.v (.bool false))), none⟩,
  ⟨(some k169), (.callF 52 [(.t k162), (.t k168)]), none⟩]
def f95r36 : List POper := [⟨(some k170), (.mov (.t k0)), none⟩,
  ⟨(some k171), (.fieldA 1 (.t k3)), none⟩,
  ⟨(some k172), (.load false 1 (.t k171)), none⟩,
  ⟨(some k173), (.callF 60 [(.t k170), (.t k172)]), none⟩]
def f95r37 : List POper := [⟨(some k175), (.bin .eql (.t k58) (.v (.int .i64 (.lit 6)))), none⟩,
  ⟨(some k174), (.mov (.t k175)), none⟩]
def f95r38 : List POper := [⟨(some k176), (.mov (.t k0)), none⟩,
  ⟨(some k177), (.mov (.t k10)), none⟩,
  ⟨(some k178), (.bin .eql (.t k177) (.v (.int .i64 (.lit 1)))), none⟩,
  ⟨(some k179), (.mov (.t k178)), none⟩,
  ⟨(some k180), (.mov (.t k11)), (some (k179, true))⟩,
  ⟨(some k181), (.bin .eql (.t k180) (.v (.int .i64 (.lit 1)))), (some (k179, true))⟩,
  ⟨(some k182), (.pick (.t k179) (.t k181) (.v (.bool false))), none⟩,
  ⟨(some k183), (.callF 52 [(.t k176), (.t k182)]), none⟩]
def f95r39 : List POper := [⟨(some k184), (.mov (.t k0)), none⟩,
  ⟨(some k185), (.fieldA 1 (.t k3)), none⟩,
  ⟨(some k186), (.load false 1 (.t k185)), none⟩,
  ⟨(some k187), (.callF 60 [(.t k184), (.t k186)]), none⟩]
def f95r40 : List POper := [⟨(some k189), (.bin .eql (.t k58) (.v (.int .i64 (.lit 7)))), none⟩,
  ⟨(some k188), (.mov (.t k189)), none⟩]
def f95r41 : List POper := [⟨(some k190), (.mov (.t k0)), none⟩,
  ⟨(some k191), (.mov (.t k10)), none⟩,
  ⟨(some k192), (.callF 24 [(.t k190), (.t k191), (.v (.int .i64 (.lit 16)))]), none⟩]
def f95r42 : List POper := [⟨(some k193), (.mov (.t k0)), none⟩,
  ⟨(some k194), (.mov (.t k11)), none⟩,
  ⟨(some k195), (.bin .eql (.t k194) (.v (.int .i64 (.lit 0)))), none⟩,
  ⟨(some k196), (.callF 52 [(.t k193), (.t k195)]), none⟩]
def f95r43 : List POper := [⟨(some k197), (.mov (.t k0)), none⟩,
  ⟨(some k198), (.fieldA 1 (.t k3)), none⟩,
  ⟨(some k199), (.load false 1 (.t k198)), none⟩,
  ⟨(some k200), (.callF 60 [(.t k197), (.t k199)]), none⟩]
def f95r44 : List POper := [⟨(some k59), (.mov (.t k0)), none⟩,
  ⟨(some k60), (.callF 52 [(.t k59), (.v (.bool false))]), none⟩]
def f95r45 : List POper := [⟨(some k201), (.mov (.t k5)), none⟩,
  ⟨(some k202), (.bin .add (.t k201) (.v (.int .i64 (.lit 1)))), none⟩,
  ⟨(some k4), (.mov (.t k202)), none⟩]
def f95 : PFn := ⟨(.seq (.ops f95r0)
 (.seq (.ops f95r1)
 (.seq (.seq (.ops f95r2)
 (.block 0 (.loop f95l0)))
 (.seq (.seq (.ops f95r7)
 (.block 2 (.loop f95l1)))
 (.seq (.staged f95r12 ⟨[k40, k41, k42, k43, k44, k45, k10, k11], []⟩)
 (.seq (.ops f95r13)
 (.seq (.seq (.ops f95r14)
 (.block 4 (.seq (.ops f95r15)
 (.cond (.t k61)
 (.ops f95r16)
 (.seq (.ops f95r17)
 (.cond (.t k76)
 (.ops f95r18)
 (.seq (.ops f95r19)
 (.cond (.t k91)
 (.seq (.ops f95r20)
 (.seq (.ops f95r21)
 (.seq (.ops f95r22)
 (.seq (.ops f95r23)
 (.block 5 (.loop f95l2))))))
 (.seq (.ops f95r28)
 (.cond (.t k132)
 (.ops f95r29)
 (.seq (.ops f95r30)
 (.cond (.t k147)
 (.seq (.ops f95r31)
 (.seq (.ops f95r32)
 (.ops f95r33)))
 (.seq (.ops f95r34)
 (.cond (.t k160)
 (.seq (.ops f95r35)
 (.ops f95r36))
 (.seq (.ops f95r37)
 (.cond (.t k174)
 (.seq (.ops f95r38)
 (.ops f95r39))
 (.seq (.ops f95r40)
 (.cond (.t k188)
 (.seq (.ops f95r41)
 (.seq (.ops f95r42)
 (.ops f95r43)))
 (.ops f95r44)))))))))))))))))))
 (.seq (.ops f95r45)
 .ret)))))))),
 [.tmp k4]⟩
/- refuter/parser.isReserved -/
def f96r0 : List POper := [⟨(some k2), (.mov (.v (.bool false))), none⟩]
def f96r1 : List POper := [⟨(some k4), (.mov (.v (.int .i64 (.lit 0)))), none⟩]
def f96r2 : List POper := [⟨(some k5), (.bin .lss (.t k4) (.v (.int .i64 (.lit 37)))), none⟩]
def f96r3 : List POper := [⟨(some k6), (.mov (.t k4)), none⟩,
  ⟨(some k3), (.mov (.t k6)), none⟩]
def f96r4 : List POper := [⟨(some k7), (.mov (.t k3)), none⟩,
  ⟨(some k8), (.indexA 37 1 (.v (.ptr k0 0)) (.t k7)), none⟩,
  ⟨(some k9), (.load false 1 (.t k8)), none⟩,
  ⟨(some k10), (.mov (.t k0)), none⟩,
  ⟨(some k11), (.bin .eql (.t k9) (.t k10)), none⟩]
def f96r5 : List POper := [⟨(some k2), (.mov (.v (.bool true))), none⟩]
def f96r6 : List POper := [⟨(some k12), (.bin .add (.t k4) (.v (.int .i64 (.lit 1)))), none⟩,
  ⟨(some k4), (.mov (.t k12)), none⟩]
def f96l0 : PCode := (.seq (.ops f96r2)
 (.seq (.cond (.t k5)
 .skip
 (.exit 0))
 (.seq (.block 1 (.seq (.ops f96r3)
 (.seq (.ops f96r4)
 (.cond (.t k11)
 (.seq (.ops f96r5)
 .ret)
 .skip))))
 (.ops f96r6))))
def f96r7 : List POper := [⟨(some k2), (.mov (.v (.bool false))), none⟩]
def f96 : PFn := ⟨(.seq (.ops f96r0)
 (.seq (.seq (.ops f96r1)
 (.block 0 (.loop f96l0)))
 (.seq (.ops f96r7)
 .ret))),
 [.tmp k2]⟩
/- refuter/eval.builtins$1 -/
def f97r0 : List POper := [⟨(some k4), (.new [(.int .i64 (.lit 0)), (.int .i64 (.lit 0)), (.str 0 0), .nils, (.int .i64 (.lit 0))]), none⟩]
def f97r1 : List POper := [⟨(some k5), (.mov (.t k1)), none⟩,
  ⟨(some k6), (.indexL 5 (.t k5) (.v (.int .i64 (.lit 0)))), none⟩,
  ⟨(some k7), (.load true 5 (.t k6)), none⟩,
  ⟨(some k8), (.callF 99 [(.t k7)]), none⟩,
  ⟨(some k9), (.lenL (.t k8)), none⟩,
  ⟨(some k10), (.callF 98 [(.t k9)]), none⟩,
  ⟨none, (.store 5 (.t k4) (.t k10)), none⟩]
def f97 : PFn := ⟨(.seq (.ops f97r0)
 (.seq (.ops f97r1)
 .ret)),
 [.cell k4 true 5]⟩
/- refuter/eval.number -/
def f98r0 : List POper := [⟨(some k2), (.new [(.int .i64 (.lit 0)), (.int .i64 (.lit 0)), (.str 0 0), .nils, (.int .i64 (.lit 0))]), none⟩]
def f98r1 : List POper := [⟨(some k3), (.mov (.t k0)), none⟩,
  ⟨(some k4), (.build [(.int .i64 (.lit 0)), (.int .i64 (.lit 0)), (.str 0 0), .nils] [(0, 1, (.v (.int .i64 (.lit 0)))), (1, 1, (.t k3))]), none⟩,
  ⟨(some k5), (.build [(.int .i64 (.lit 0)), (.int .i64 (.lit 0)), (.str 0 0), .nils, (.int .i64 (.lit 0))] [(0, 4, (.t k4)), (4, 1, (.v (.int .i64 (.lit 1))))]), none⟩,
  ⟨none, (.store 5 (.t k2) (.t k5)), none⟩]
def f98 : PFn := ⟨(.seq (.ops f98r0)
 (.seq (.ops f98r1)
 .ret)),
 [.cell k2 true 5]⟩
/- refuter/eval.list -/
def f99r0 : List POper := [⟨(some k1), (.box (.t k0)), none⟩,
  ⟨(some k2), (.mov (.v .nils)), none⟩]
def f99r1 : List POper := [⟨(some k3), (.fieldA 0 (.t k1)), none⟩,
  ⟨(some k4), (.fieldA 0 (.t k3)), none⟩,
  ⟨(some k5), (.load false 1 (.t k4)), none⟩,
  ⟨(some k6), (.bin .eql (.t k5) (.v (.int .i64 (.lit 2)))), none⟩,
  ⟨(some k7), (.callF 113 [(.t k6)]), none⟩]
def f99r2 : List POper := [⟨(some k8), (.fieldA 0 (.t k1)), none⟩,
  ⟨(some k9), (.fieldA 3 (.t k8)), none⟩,
  ⟨(some k10), (.load false 1 (.t k9)), none⟩,
  ⟨(some k2), (.mov (.t k10)), none⟩]
def f99 : PFn := ⟨(.seq (.ops f99r0)
 (.seq (.ops f99r1)
 (.seq (.ops f99r2)
 .ret))),
 [.tmp k2]⟩
/- refuter/eval.at -/
def f100r0 : List POper := [⟨(some k4), (.new [(.int .i64 (.lit 0)), (.int .i64 (.lit 0)), (.str 0 0), .nils, (.int .i64 (.lit 0))]), none⟩]
def f100r1 : List POper := [⟨(some k8), (.mov (.t k1)), none⟩,
  ⟨(some k9), (.callF 141 [(.t k8)]), none⟩,
  ⟨(some k7), (.mov (.t k9)), none⟩,
  ⟨(some k10), (.extract (.t k7) 0), none⟩,
  ⟨(some k11), (.extract (.t k7) 1), none⟩,
  ⟨(some k5), (.mov (.t k10)), none⟩,
  ⟨(some k6), (.mov (.t k11)), none⟩]
def f100r2 : List POper := [⟨(some k12), (.mov (.t k5)), none⟩,
  ⟨(some k13), (.mov (.t k6)), none⟩,
  ⟨(some k14), (.indexL 4 (.t k12) (.t k13)), none⟩,
  ⟨(some k15), (.load true 4 (.t k14)), none⟩,
  ⟨(some k16), (.callF 27 [(.t k15)]), none⟩,
  ⟨none, (.store 5 (.t k4) (.t k16)), none⟩]
def f100 : PFn := ⟨(.seq (.ops f100r0)
 (.seq (.ops f100r1)
 (.seq (.ops f100r2)
 .ret))),
 [.cell k4 true 5]⟩
/- refuter/eval.builtins$2 -/
def f101r0 : List POper := [⟨(some k4), (.new [(.int .i64 (.lit 0)), (.int .i64 (.lit 0)), (.str 0 0), .nils, (.int .i64 (.lit 0))]), none⟩]
def f101r1 : List POper := [⟨(some k6), (.bslice 4 0 [(.int .i64 (.lit 0)), (.int .i64 (.lit 0)), (.str 0 0), .nils] []), none⟩,
  ⟨(some k7), (.mov (.t k1)), none⟩,
  ⟨(some k8), (.indexL 5 (.t k7) (.v (.int .i64 (.lit 0)))), none⟩,
  ⟨(some k9), (.load true 5 (.t k8)), none⟩,
  ⟨(some k10), (.callF 99 [(.t k9)]), none⟩,
  ⟨(some k11), (.append 4 (.t k6) (.t k10)), none⟩,
  ⟨(some k5), (.mov (.t k11)), none⟩]
def f101r2 : List SItem := [.L 0 ⟨(some k12), (.mov (.t k5)), none⟩,
  .L 1 ⟨(some k13), (.mov (.t k1)), none⟩,
  .L 2 ⟨(some k14), (.indexL 5 (.t k13) (.v (.int .i64 (.lit 1)))), none⟩,
  .L 3 ⟨(some k15), (.fieldA 0 (.t k14)), none⟩,
  .L 4 ⟨(some k16), (.load true 4 (.t k15)), none⟩,
  .A 5 ⟨(some k17), (.bslice 4 1 [(.int .i64 (.lit 0)), (.int .i64 (.lit 0)), (.str 0 0), .nils] [(0, 4, (.t k16))]), none⟩,
  .L 8 ⟨(some k20), (.mov (.t k1)), none⟩,
  .L 9 ⟨(some k21), (.indexL 5 (.t k20) (.v (.int .i64 (.lit 0)))), none⟩,
  .L 10 ⟨(some k22), (.fieldA 4 (.t k21)), none⟩,
  .L 11 ⟨(some k23), (.load false 1 (.t k22)), none⟩,
  .L 12 ⟨(some k24), (.mov (.t k1)), none⟩,
  .L 13 ⟨(some k25), (.indexL 5 (.t k24) (.v (.int .i64 (.lit 1)))), none⟩,
  .L 14 ⟨(some k26), (.fieldA 4 (.t k25)), none⟩,
  .L 15 ⟨(some k27), (.load false 1 (.t k26)), none⟩,
  .L 16 ⟨(some k28), (.bin .add (.t k23) (.t k27)), none⟩,
  .H 6 ⟨(some k18), (.append 4 (.t k12) (.t k17)), none⟩ [5],
  .R [(11, ⟨(some k23), (.load false 1 (.t k22)), none⟩), (15, ⟨(some k27), (.load false 1 (.t k26)), none⟩)],
  .L 7 ⟨(some k19), (.build [(.int .i64 (.lit 0)), (.int .i64 (.lit 0)), (.str 0 0), .nils] [(0, 1, (.v (.int .i64 (.lit 2)))), (3, 1, (.t k18))]), none⟩,
  .L 17 ⟨(some k29), (.build [(.int .i64 (.lit 0)), (.int .i64 (.lit 0)), (.str 0 0), .nils, (.int .i64 (.lit 0))] [(0, 4, (.t k19)), (4, 1, (.t k28))]), none⟩,
  .H 18 ⟨none, (.store 5 (.t k4) (.t k29)), none⟩ [5],
  .R []]
def f101 : PFn := ⟨(.seq (.ops f101r0)
 (.seq (.ops f101r1)
 (.seq (.staged f101r2 ⟨[k12, k13, k14, k15, k16, k17, k18, k19, k20, k21, k22, k23, k24, k25, k26, k27, k28, k29], []⟩)
 .ret))),
 [.cell k4 true 5]⟩
/- refuter/eval.builtins$3 -/
def f102r0 : List POper := [⟨(some k4), (.new [(.int .i64 (.lit 0)), (.int .i64 (.lit 0)), (.str 0 0), .nils, (.int .i64 (.lit 0))]), none⟩]
def f102r1 : List POper := [⟨(some k8), (.mov (.t k1)), none⟩,
  ⟨(some k9), (.callF 103 [(.t k8)]), none⟩,
  ⟨(some k7), (.mov (.t k9)), none⟩,
  ⟨(some k10), (.extract (.t k7) 0), none⟩,
  ⟨(some k11), (.extract (.t k7) 1), none⟩,
  ⟨(some k5), (.mov (.t k10)), none⟩,
  ⟨(some k6), (.mov (.t k11)), none⟩]
def f102r2 : List POper := [⟨(some k12), (.mov (.t k5)), none⟩,
  ⟨(some k13), (.mov (.t k6)), none⟩,
  ⟨(some k14), (.sliceL 4 (.t k12) none (some (.t k13))), none⟩,
  ⟨(some k15), (.build [(.int .i64 (.lit 0)), (.int .i64 (.lit 0)), (.str 0 0), .nils] [(0, 1, (.v (.int .i64 (.lit 2)))), (3, 1, (.t k14))]), none⟩,
  ⟨(some k16), (.callF 27 [(.t k15)]), none⟩,
  ⟨none, (.store 5 (.t k4) (.t k16)), none⟩]
def f102 : PFn := ⟨(.seq (.ops f102r0)
 (.seq (.ops f102r1)
 (.seq (.ops f102r2)
 .ret))),
 [.cell k4 true 5]⟩
/- refuter/eval.part -/
def f103r0 : List POper := [⟨(some k2), (.mov (.v .nils)), none⟩,
  ⟨(some k3), (.mov (.v (.int .i64 (.lit 0)))), none⟩]
def f103r1 : List SItem := [.L 0 ⟨(some k6), (.mov (.t k0)), none⟩,
  .L 1 ⟨(some k7), (.indexL 5 (.t k6) (.v (.int .i64 (.lit 0)))), none⟩,
  .L 2 ⟨(some k8), (.load true 5 (.t k7)), none⟩,
  .L 4 ⟨(some k10), (.mov (.t k0)), none⟩,
  .L 5 ⟨(some k11), (.indexL 5 (.t k10) (.v (.int .i64 (.lit 1)))), none⟩,
  .L 6 ⟨(some k12), (.load true 5 (.t k11)), none⟩,
  .H 3 ⟨(some k9), (.callF 99 [(.t k8)]), none⟩ [],
  .R [(6, ⟨(some k12), (.load true 5 (.t k11)), none⟩)],
  .H 7 ⟨(some k13), (.callF 142 [(.t k12)]), none⟩ [],
  .R [],
  .L 8 ⟨(some k4), (.mov (.t k9)), none⟩,
  .L 9 ⟨(some k5), (.mov (.t k13)), none⟩]
def f103r2 : List POper := [⟨(some k14), (.mov (.t k4)), none⟩,
  ⟨(some k15), (.mov (.t k5)), none⟩,
  ⟨(some k16), (.mx true (.t k15) (.v (.int .i64 (.lit 0)))), none⟩,
  ⟨(some k17), (.mov (.t k4)), none⟩,
  ⟨(some k18), (.lenL (.t k17)), none⟩,
  ⟨(some k19), (.mx false (.t k16) (.t k18)), none⟩,
  ⟨(some k2), (.mov (.t k14)), none⟩,
  ⟨(some k3), (.mov (.t k19)), none⟩]
def f103 : PFn := ⟨(.seq (.ops f103r0)
 (.seq (.staged f103r1 ⟨[k6, k7, k8, k9, k10, k11, k12, k13, k4, k5], []⟩)
 (.seq (.ops f103r2)
 .ret))),
 [.tmp k2, .tmp k3]⟩
/- refuter/eval.builtins$4 -/
def f104r0 : List POper := [⟨(some k4), (.new [(.int .i64 (.lit 0)), (.int .i64 (.lit 0)), (.str 0 0), .nils, (.int .i64 (.lit 0))]), none⟩]
def f104r1 : List POper := [⟨(some k8), (.mov (.t k1)), none⟩,
  ⟨(some k9), (.callF 103 [(.t k8)]), none⟩,
  ⟨(some k7), (.mov (.t k9)), none⟩,
  ⟨(some k10), (.extract (.t k7) 0), none⟩,
  ⟨(some k11), (.extract (.t k7) 1), none⟩,
  ⟨(some k5), (.mov (.t k10)), none⟩,
  ⟨(some k6), (.mov (.t k11)), none⟩]
def f104r2 : List POper := [⟨(some k12), (.mov (.t k5)), none⟩,
  ⟨(some k13), (.mov (.t k6)), none⟩,
  ⟨(some k14), (.sliceL 4 (.t k12) (some (.t k13)) none), none⟩,
  ⟨(some k15), (.build [(.int .i64 (.lit 0)), (.int .i64 (.lit 0)), (.str 0 0), .nils] [(0, 1, (.v (.int .i64 (.lit 2)))), (3, 1, (.t k14))]), none⟩,
  ⟨(some k16), (.callF 27 [(.t k15)]), none⟩,
  ⟨none, (.store 5 (.t k4) (.t k16)), none⟩]
def f104 : PFn := ⟨(.seq (.ops f104r0)
 (.seq (.ops f104r1)
 (.seq (.ops f104r2)
 .ret))),
 [.cell k4 true 5]⟩
/- refuter/eval.set -/
def f105r0 : List POper := [⟨(some k4), (.new [(.int .i64 (.lit 0)), (.int .i64 (.lit 0)), (.str 0 0), .nils, (.int .i64 (.lit 0))]), none⟩]
def f105r1 : List POper := [⟨(some k9), (.mov (.t k1)), none⟩,
  ⟨(some k10), (.callF 141 [(.t k9)]), none⟩,
  ⟨(some k8), (.mov (.t k10)), none⟩,
  ⟨(some k11), (.extract (.t k8) 0), none⟩,
  ⟨(some k12), (.extract (.t k8) 1), none⟩,
  ⟨(some k5), (.mov (.t k11)), none⟩,
  ⟨(some k6), (.mov (.t k12)), none⟩]
def f105r2 : List POper := [⟨(some k13), (.bslice 4 0 [(.int .i64 (.lit 0)), (.int .i64 (.lit 0)), (.str 0 0), .nils] []), none⟩,
  ⟨(some k14), (.mov (.t k5)), none⟩,
  ⟨(some k15), (.append 4 (.t k13) (.t k14)), none⟩,
  ⟨(some k5), (.mov (.t k15)), none⟩]
def f105r3 : List SItem := [.L 0 ⟨(some k16), (.mov (.t k1)), none⟩,
  .L 1 ⟨(some k17), (.indexL 5 (.t k16) (.v (.int .i64 (.lit 0)))), none⟩,
  .L 2 ⟨(some k18), (.fieldA 4 (.t k17)), none⟩,
  .L 3 ⟨(some k19), (.load false 1 (.t k18)), none⟩,
  .L 4 ⟨(some k20), (.mov (.t k5)), none⟩,
  .L 5 ⟨(some k21), (.mov (.t k6)), none⟩,
  .L 6 ⟨(some k22), (.indexL 4 (.t k20) (.t k21)), none⟩,
  .L 7 ⟨(some k23), (.load true 4 (.t k22)), none⟩,
  .L 11 ⟨(some k27), (.mov (.t k1)), none⟩,
  .L 12 ⟨(some k28), (.indexL 5 (.t k27) (.v (.int .i64 (.lit 2)))), none⟩,
  .L 13 ⟨(some k29), (.fieldA 4 (.t k28)), none⟩,
  .L 14 ⟨(some k30), (.load false 1 (.t k29)), none⟩,
  .H 8 ⟨(some k24), (.callF 27 [(.t k23)]), none⟩ [],
  .R [(3, ⟨(some k19), (.load false 1 (.t k18)), none⟩), (14, ⟨(some k30), (.load false 1 (.t k29)), none⟩)],
  .L 9 ⟨(some k25), (.field false 4 1 (.t k24)), none⟩,
  .L 10 ⟨(some k26), (.bin .sub (.t k19) (.t k25)), none⟩,
  .L 15 ⟨(some k31), (.bin .add (.t k26) (.t k30)), none⟩,
  .L 16 ⟨(some k7), (.mov (.t k31)), none⟩]
def f105r4 : List POper := [⟨(some k32), (.mov (.t k5)), none⟩,
  ⟨(some k33), (.mov (.t k6)), none⟩,
  ⟨(some k34), (.mov (.t k1)), none⟩,
  ⟨(some k35), (.indexL 5 (.t k34) (.v (.int .i64 (.lit 2)))), none⟩,
  ⟨(some k36), (.fieldA 0 (.t k35)), none⟩,
  ⟨(some k37), (.load true 4 (.t k36)), none⟩,
  ⟨(some k38), (.indexL 4 (.t k32) (.t k33)), none⟩,
  ⟨none, (.store 4 (.t k38) (.t k37)), none⟩]
def f105r5 : List POper := [⟨(some k39), (.mov (.t k5)), none⟩,
  ⟨(some k40), (.build [(.int .i64 (.lit 0)), (.int .i64 (.lit 0)), (.str 0 0), .nils] [(0, 1, (.v (.int .i64 (.lit 2)))), (3, 1, (.t k39))]), none⟩,
  ⟨(some k41), (.mov (.t k7)), none⟩,
  ⟨(some k42), (.build [(.int .i64 (.lit 0)), (.int .i64 (.lit 0)), (.str 0 0), .nils, (.int .i64 (.lit 0))] [(0, 4, (.t k40)), (4, 1, (.t k41))]), none⟩,
  ⟨none, (.store 5 (.t k4) (.t k42)), none⟩]
def f105 : PFn := ⟨(.seq (.ops f105r0)
 (.seq (.ops f105r1)
 (.seq (.ops f105r2)
 (.seq (.staged f105r3 ⟨[k16, k17, k18, k19, k20, k21, k22, k23, k24, k25, k26, k27, k28, k29, k30, k31, k7], []⟩)
 (.seq (.ops f105r4)
 (.seq (.ops f105r5)
 .ret)))))),
 [.cell k4 true 5]⟩
/- refuter/eval.builtins$5 -/
def f106r0 : List POper := [⟨(some k4), (.new [(.int .i64 (.lit 0)), (.int .i64 (.lit 0)), (.str 0 0), .nils, (.int .i64 (.lit 0))]), none⟩]
def f106r1 : List POper := [⟨(some k5), (.mov (.t k1)), none⟩,
  ⟨(some k6), (.callF 107 [(.t k5), (.v (.bool true))]), none⟩,
  ⟨none, (.store 5 (.t k4) (.t k6)), none⟩]
def f106 : PFn := ⟨(.seq (.ops f106r0)
 (.seq (.ops f106r1)
 .ret)),
 [.cell k4 true 5]⟩
/- refuter/eval.chosen -/
def f107r0 : List POper := [⟨(some k4), (.new [(.int .i64 (.lit 0)), (.int .i64 (.lit 0)), (.str 0 0), .nils, (.int .i64 (.lit 0))]), none⟩]
def f107r1 : List SItem := [.L 0 ⟨(some k7), (.mov (.t k0)), none⟩,
  .L 1 ⟨(some k8), (.indexL 5 (.t k7) (.v (.int .i64 (.lit 0)))), none⟩,
  .L 2 ⟨(some k9), (.load true 5 (.t k8)), none⟩,
  .L 4 ⟨(some k11), (.mov (.t k0)), none⟩,
  .L 5 ⟨(some k12), (.indexL 5 (.t k11) (.v (.int .i64 (.lit 1)))), none⟩,
  .L 6 ⟨(some k13), (.load true 5 (.t k12)), none⟩,
  .H 3 ⟨(some k10), (.callF 142 [(.t k9)]), none⟩ [],
  .R [(6, ⟨(some k13), (.load true 5 (.t k12)), none⟩)],
  .H 7 ⟨(some k14), (.callF 142 [(.t k13)]), none⟩ [],
  .R [],
  .L 8 ⟨(some k5), (.mov (.t k10)), none⟩,
  .L 9 ⟨(some k6), (.mov (.t k14)), none⟩]
def f107r2 : List POper := [⟨(some k15), (.mov (.t k1)), none⟩]
def f107r3 : List POper := [⟨(some k16), (.mov (.t k5)), none⟩,
  ⟨(some k17), (.mov (.t k6)), none⟩,
  ⟨(some k18), (.mx true (.t k16) (.t k17)), none⟩,
  ⟨(some k19), (.callF 98 [(.t k18)]), none⟩,
  ⟨none, (.store 5 (.t k4) (.t k19)), none⟩]
def f107r4 : List POper := [⟨(some k20), (.mov (.t k5)), none⟩,
  ⟨(some k21), (.mov (.t k6)), none⟩,
  ⟨(some k22), (.mx false (.t k20) (.t k21)), none⟩,
  ⟨(some k23), (.callF 98 [(.t k22)]), none⟩,
  ⟨none, (.store 5 (.t k4) (.t k23)), none⟩]
def f107 : PFn := ⟨(.seq (.ops f107r0)
 (.seq (.staged f107r1 ⟨[k7, k8, k9, k10, k11, k12, k13, k14, k5, k6], []⟩)
 (.seq (.seq (.ops f107r2)
 (.cond (.t k15)
 (.seq (.ops f107r3)
 .ret)
 .skip))
 (.seq (.ops f107r4)
 .ret)))),
 [.cell k4 true 5]⟩
/- refuter/eval.builtins$6 -/
def f108r0 : List POper := [⟨(some k4), (.new [(.int .i64 (.lit 0)), (.int .i64 (.lit 0)), (.str 0 0), .nils, (.int .i64 (.lit 0))]), none⟩]
def f108r1 : List POper := [⟨(some k5), (.mov (.t k1)), none⟩,
  ⟨(some k6), (.callF 107 [(.t k5), (.v (.bool false))]), none⟩,
  ⟨none, (.store 5 (.t k4) (.t k6)), none⟩]
def f108 : PFn := ⟨(.seq (.ops f108r0)
 (.seq (.ops f108r1)
 .ret)),
 [.cell k4 true 5]⟩
/- refuter/eval.flip -/
def f109r0 : List POper := [⟨(some k4), (.new [(.int .i64 (.lit 0)), (.int .i64 (.lit 0)), (.str 0 0), .nils, (.int .i64 (.lit 0))]), none⟩]
def f109r1 : List POper := [⟨(some k7), (.mov (.t k1)), none⟩,
  ⟨(some k8), (.indexL 5 (.t k7) (.v (.int .i64 (.lit 0)))), none⟩,
  ⟨(some k9), (.load true 5 (.t k8)), none⟩,
  ⟨(some k10), (.callF 142 [(.t k9)]), none⟩,
  ⟨(some k5), (.mov (.t k10)), none⟩]
def f109r2 : List POper := [⟨(some k11), (.mov (.t k5)), none⟩,
  ⟨(some k12), (.bin .lss (.t k11) (.v (.int .i64 (.lit 1)))), none⟩,
  ⟨(some k13), (.mov (.t k12)), none⟩,
  ⟨(some k14), (.mov (.t k5)), (some (k13, false))⟩,
  ⟨(some k15), (.bin .gtr (.t k14) (.v (.int .i64 (.lit 1000)))), (some (k13, false))⟩,
  ⟨(some k16), (.pick (.t k13) (.v (.bool true)) (.t k15)), none⟩]
def f109r3 : List POper := [⟨(some k17), (.callF 67 [(.v (.int .i64 (.lit 13)))]), none⟩]
def f109r4 : List POper := [⟨(some k18), (.mov (.t k0)), none⟩,
  ⟨(some k19), (.nilc (.t k18)), none⟩,
  ⟨(some k20), (.fieldA 7 (.t k19)), none⟩,
  ⟨(some k21), (.fieldA 2 (.t k20)), none⟩,
  ⟨(some k22), (.load false 1 (.t k21)), none⟩,
  ⟨(some k6), (.mov (.t k22)), none⟩]
def f109r5 : List POper := [⟨(some k23), (.mov (.t k0)), none⟩,
  ⟨(some k24), (.nilc (.t k23)), none⟩,
  ⟨(some k25), (.fieldA 7 (.t k24)), none⟩,
  ⟨(some k26), (.fieldA 2 (.t k25)), none⟩,
  ⟨(some k27), (.load false 1 (.t k26)), none⟩,
  ⟨(some k28), (.bin .add (.t k27) (.v (.int .i64 (.lit 1)))), none⟩,
  ⟨(some k29), (.nilc (.t k23)), none⟩,
  ⟨(some k30), (.fieldA 7 (.t k29)), none⟩,
  ⟨(some k31), (.fieldA 2 (.t k30)), none⟩,
  ⟨none, (.store 1 (.t k31) (.t k28)), none⟩]
def f109r6 : List POper := [⟨(some k32), (.mov (.t k0)), none⟩,
  ⟨(some k33), (.nilc (.t k32)), none⟩,
  ⟨(some k34), (.fieldA 5 (.t k33)), none⟩,
  ⟨(some k35), (.load true 2 (.t k34)), none⟩,
  ⟨(some k36), (.mov (.t k6)), none⟩,
  ⟨(some k37), (.mov (.t k5)), none⟩,
  ⟨(some k38), (.callF 143 [(.t k35), (.t k36), (.t k37)]), none⟩,
  ⟨(some k39), (.callF 98 [(.t k38)]), none⟩,
  ⟨none, (.store 5 (.t k4) (.t k39)), none⟩]
def f109 : PFn := ⟨(.seq (.ops f109r0)
 (.seq (.ops f109r1)
 (.seq (.seq (.ops f109r2)
 (.cond (.t k16)
 (.ops f109r3)
 .skip))
 (.seq (.ops f109r4)
 (.seq (.ops f109r5)
 (.seq (.ops f109r6)
 .ret)))))),
 [.cell k4 true 5]⟩
/- refuter/values.visit -/
def f110r0 : List POper := [⟨(some k2), (.box (.t k0)), none⟩,
  ⟨(some k3), (.box (.t k1)), none⟩]
def f110r1 : List POper := [⟨(some k4), (.new [.nilf]), none⟩]
def f110r2 : List POper := [⟨(some k5), (.mkfn 144 [] [(.t k3), (.t k4)]), none⟩,
  ⟨none, (.store 1 (.t k4) (.t k5)), none⟩]
def f110r3 : List POper := [⟨(some k6), (.load false 1 (.t k4)), none⟩,
  ⟨(some k7), (.load true 4 (.t k2)), none⟩,
  ⟨(some k8), (.callV (.t k6) [(.t k7), (.v (.int .i64 (.lit 1)))]), none⟩]
def f110 : PFn := ⟨(.seq (.ops f110r0)
 (.seq (.ops f110r1)
 (.seq (.ops f110r2)
 (.ops f110r3)))),
 []⟩
/- refuter/values.Size$1 -/
def f111r0 : List POper := [⟨(some k3), (.box (.t k0)), none⟩,
  ⟨(some k5), (.mov (.v (.bool false))), none⟩]
def f111r1 : List POper := [⟨(some k6), (.load false 1 (.t k2)), none⟩,
  ⟨(some k7), (.bin .add (.t k6) (.v (.int .i64 (.lit 1)))), none⟩,
  ⟨none, (.store 1 (.t k2) (.t k7)), none⟩]
def f111r2 : List POper := [⟨(some k5), (.mov (.v (.bool true))), none⟩]
def f111 : PFn := ⟨(.seq (.ops f111r0)
 (.seq (.ops f111r1)
 (.seq (.ops f111r2)
 .ret))),
 [.tmp k5]⟩
/- refuter/clone.List[refuter/api.Value] -/
def f112r0 : List POper := [⟨(some k4), (.mov (.v .nils)), none⟩]
def f112r1 : List POper := [⟨(some k7), (.mov (.t k0)), none⟩,
  ⟨(some k8), (.lenL (.t k7)), none⟩,
  ⟨(some k9), (.bin .eql (.t k8) (.v (.int .i64 (.lit 0)))), none⟩]
def f112r2 : List POper := [⟨(some k4), (.mov (.v .nils)), none⟩]
def f112r3 : List POper := [⟨(some k10), (.mov (.t k0)), none⟩,
  ⟨(some k11), (.lenL (.t k10)), none⟩,
  ⟨(some k12), (.mkslice 4 [(.int .i64 (.lit 0)), (.int .i64 (.lit 0)), (.str 0 0), .nils] (.t k11) (.t k11)), none⟩,
  ⟨(some k5), (.mov (.t k12)), none⟩]
def f112r4 : List POper := [⟨(some k13), (.mov (.t k0)), none⟩,
  ⟨(some k14), (.lenL (.t k13)), none⟩,
  ⟨(some k15), (.mov (.v (.int .i64 (.lit 0)))), none⟩]
def f112r5 : List POper := [⟨(some k16), (.bin .lss (.t k15) (.t k14)), none⟩]
def f112r6 : List POper := [⟨(some k17), (.mov (.t k15)), none⟩,
  ⟨(some k6), (.mov (.t k17)), none⟩]
def f112r7 : List POper := [⟨(some k18), (.mov (.t k5)), none⟩,
  ⟨(some k19), (.mov (.t k6)), none⟩,
  ⟨(some k20), (.mov (.t k1)), none⟩,
  ⟨(some k21), (.mov (.t k0)), none⟩,
  ⟨(some k22), (.mov (.t k6)), none⟩,
  ⟨(some k23), (.indexL 4 (.t k21) (.t k22)), none⟩,
  ⟨(some k24), (.load true 4 (.t k23)), none⟩,
  ⟨(some k25), (.callV (.t k20) [(.t k24)]), none⟩,
  ⟨(some k26), (.indexL 4 (.t k18) (.t k19)), none⟩,
  ⟨none, (.store 4 (.t k26) (.t k25)), none⟩]
def f112r8 : List POper := [⟨(some k27), (.bin .add (.t k15) (.v (.int .i64 (.lit 1)))), none⟩,
  ⟨(some k15), (.mov (.t k27)), none⟩]
def f112l0 : PCode := (.seq (.ops f112r5)
 (.seq (.cond (.t k16)
 .skip
 (.exit 0))
 (.seq (.block 1 (.seq (.ops f112r6)
 (.ops f112r7)))
 (.ops f112r8))))
def f112r9 : List POper := [⟨(some k28), (.mov (.t k5)), none⟩,
  ⟨(some k4), (.mov (.t k28)), none⟩]
def f112 : PFn := ⟨(.seq (.ops f112r0)
 (.seq (.seq (.ops f112r1)
 (.cond (.t k9)
 (.seq (.ops f112r2)
 .ret)
 .skip))
 (.seq (.ops f112r3)
 (.seq (.seq (.ops f112r4)
 (.block 0 (.loop f112l0)))
 (.seq (.ops f112r9)
 .ret))))),
 [.tmp k4]⟩
/- refuter/eval.need -/
def f113r0 : List POper := [⟨(some k2), (.mov (.t k0)), none⟩,
  ⟨(some k3), (.un .not (.t k2)), none⟩]
def f113r1 : List POper := [⟨(some k4), (.callF 67 [(.v (.int .i64 (.lit 9)))]), none⟩]
def f113 : PFn := ⟨(.seq (.ops f113r0)
 (.cond (.t k3)
 (.ops f113r1)
 .skip)),
 []⟩
/- refuter/eval.truth -/
def f114r0 : List POper := [⟨(some k2), (.new [(.int .i64 (.lit 0)), (.int .i64 (.lit 0)), (.str 0 0), .nils, (.int .i64 (.lit 0))]), none⟩]
def f114r1 : List POper := [⟨(some k4), (.build [(.int .i64 (.lit 0)), (.int .i64 (.lit 0)), (.str 0 0), .nils] [(0, 1, (.v (.int .i64 (.lit 1))))]), none⟩,
  ⟨(some k3), (.new [(.int .i64 (.lit 0)), (.int .i64 (.lit 0)), (.str 0 0), .nils]), none⟩,
  ⟨none, (.store 4 (.t k3) (.t k4)), none⟩]
def f114r2 : List POper := [⟨(some k5), (.mov (.t k0)), none⟩]
def f114r3 : List POper := [⟨(some k6), (.fieldA 1 (.t k3)), none⟩,
  ⟨none, (.store 1 (.t k6) (.v (.int .i64 (.lit 1)))), none⟩]
def f114r4 : List POper := [⟨(some k7), (.load true 4 (.t k3)), none⟩,
  ⟨(some k8), (.build [(.int .i64 (.lit 0)), (.int .i64 (.lit 0)), (.str 0 0), .nils, (.int .i64 (.lit 0))] [(0, 4, (.t k7)), (4, 1, (.v (.int .i64 (.lit 1))))]), none⟩,
  ⟨none, (.store 5 (.t k2) (.t k8)), none⟩]
def f114 : PFn := ⟨(.seq (.ops f114r0)
 (.seq (.ops f114r1)
 (.seq (.seq (.ops f114r2)
 (.cond (.t k5)
 (.ops f114r3)
 .skip))
 (.seq (.ops f114r4)
 .ret)))),
 [.cell k2 true 5]⟩
/- (*refuter/eval.run).apply -/
def f115r0 : List POper := [⟨(some k8), (.new [(.int .i64 (.lit 0)), (.int .i64 (.lit 0)), (.str 0 0), .nils, (.int .i64 (.lit 0))]), none⟩]
def f115r1 : List SItem := [.L 0 ⟨(some k14), (.mov (.t k0)), none⟩,
  .L 1 ⟨(some k15), (.nilc (.t k14)), none⟩,
  .L 2 ⟨(some k16), (.fieldA 2 (.t k15)), none⟩,
  .L 3 ⟨(some k17), (.load false 1 (.t k16)), none⟩,
  .L 4 ⟨(some k18), (.mov (.t k3)), none⟩,
  .L 5 ⟨(some k19), (.nilc (.t k18)), none⟩,
  .L 6 ⟨(some k20), (.fieldA 1 (.t k19)), none⟩,
  .L 7 ⟨(some k21), (.load false 1 (.t k20)), none⟩,
  .L 8 ⟨(some k22), (.lookup true (.agg [(.int .i64 (.lit 0)), .nilf]) true (.t k17) (.t k21)), none⟩,
  .L 9 ⟨(some k13), (.mov (.t k22)), none⟩,
  .L 10 ⟨(some k23), (.extract (.t k13) 0), none⟩,
  .L 11 ⟨(some k24), (.extract (.t k13) 1), none⟩,
  .A 12 ⟨(some k9), (.new [(.int .i64 (.lit 0)), .nilf]), none⟩,
  .H 13 ⟨none, (.store 2 (.t k9) (.t k23)), none⟩ [12],
  .R [],
  .L 14 ⟨(some k10), (.mov (.t k24)), none⟩]
def f115r2 : List POper := [⟨(some k25), (.mov (.t k10)), none⟩]
def f115r3 : List SItem := [.L 0 ⟨(some k26), (.mov (.t k3)), none⟩,
  .L 1 ⟨(some k27), (.nilc (.t k26)), none⟩,
  .L 2 ⟨(some k28), (.fieldA 5 (.t k27)), none⟩,
  .L 3 ⟨(some k29), (.load false 1 (.t k28)), none⟩,
  .L 4 ⟨(some k30), (.lenL (.t k29)), none⟩,
  .L 5 ⟨(some k31), (.fieldA 0 (.t k9)), none⟩,
  .L 6 ⟨(some k32), (.load false 1 (.t k31)), none⟩,
  .L 7 ⟨(some k33), (.bin .eql (.t k30) (.t k32)), none⟩,
  .H 8 ⟨(some k34), (.callF 113 [(.t k33)]), none⟩ [],
  .R []]
def f115r4 : List SItem := [.L 0 ⟨(some k35), (.fieldA 1 (.t k9)), none⟩,
  .L 1 ⟨(some k36), (.load false 1 (.t k35)), none⟩,
  .L 2 ⟨(some k37), (.mov (.t k0)), none⟩,
  .L 3 ⟨(some k38), (.mov (.t k0)), none⟩,
  .L 4 ⟨(some k39), (.mov (.t k1)), none⟩,
  .L 5 ⟨(some k40), (.mov (.t k2)), none⟩,
  .L 6 ⟨(some k41), (.mov (.t k3)), none⟩,
  .L 7 ⟨(some k42), (.nilc (.t k41)), none⟩,
  .L 8 ⟨(some k43), (.fieldA 5 (.t k42)), none⟩,
  .L 9 ⟨(some k44), (.load false 1 (.t k43)), none⟩,
  .H 10 ⟨(some k45), (.callF 117 [(.t k38), (.t k39), (.t k40), (.t k44)]), none⟩ [],
  .R [(1, ⟨(some k36), (.load false 1 (.t k35)), none⟩)],
  .H 11 ⟨(some k46), (.callV (.t k36) [(.t k37), (.t k45)]), none⟩ [],
  .R [],
  .H 12 ⟨none, (.store 5 (.t k8) (.t k46)), none⟩ [],
  .R []]
def f115r5 : List SItem := [.L 0 ⟨(some k48), (.mov (.t k0)), none⟩,
  .L 1 ⟨(some k49), (.nilc (.t k48)), none⟩,
  .L 2 ⟨(some k50), (.fieldA 0 (.t k49)), none⟩,
  .L 3 ⟨(some k51), (.load false 1 (.t k50)), none⟩,
  .L 4 ⟨(some k52), (.mov (.t k3)), none⟩,
  .L 5 ⟨(some k53), (.nilc (.t k52)), none⟩,
  .L 6 ⟨(some k54), (.fieldA 1 (.t k53)), none⟩,
  .L 7 ⟨(some k55), (.load false 1 (.t k54)), none⟩,
  .L 8 ⟨(some k56), (.lookup true .nilp true (.t k51) (.t k55)), none⟩,
  .L 9 ⟨(some k47), (.mov (.t k56)), none⟩,
  .L 10 ⟨(some k57), (.extract (.t k47) 0), none⟩,
  .L 11 ⟨(some k58), (.extract (.t k47) 1), none⟩,
  .L 12 ⟨(some k11), (.mov (.t k57)), none⟩,
  .L 13 ⟨(some k12), (.mov (.t k58)), none⟩]
def f115r6 : List POper := [⟨(some k59), (.mov (.t k12)), none⟩,
  ⟨(some k60), (.un .not (.t k59)), none⟩]
def f115r7 : List POper := [⟨(some k61), (.callF 67 [(.v (.int .i64 (.lit 6)))]), none⟩]
def f115r8 : List SItem := [.L 0 ⟨(some k62), (.mov (.t k3)), none⟩,
  .L 1 ⟨(some k63), (.nilc (.t k62)), none⟩,
  .L 2 ⟨(some k64), (.fieldA 5 (.t k63)), none⟩,
  .L 3 ⟨(some k65), (.load false 1 (.t k64)), none⟩,
  .L 4 ⟨(some k66), (.lenL (.t k65)), none⟩,
  .L 5 ⟨(some k67), (.mov (.t k11)), none⟩,
  .L 6 ⟨(some k68), (.nilc (.t k67)), none⟩,
  .L 7 ⟨(some k69), (.fieldA 4 (.t k68)), none⟩,
  .L 8 ⟨(some k70), (.load false 1 (.t k69)), none⟩,
  .L 9 ⟨(some k71), (.lenL (.t k70)), none⟩,
  .L 10 ⟨(some k72), (.bin .eql (.t k66) (.t k71)), none⟩,
  .H 11 ⟨(some k73), (.callF 113 [(.t k72)]), none⟩ [],
  .R []]
def f115r9 : List POper := [⟨(some k74), (.mov (.t k0)), none⟩,
  ⟨(some k75), (.mov (.t k11)), none⟩,
  ⟨(some k76), (.mov (.t k0)), none⟩,
  ⟨(some k77), (.mov (.t k1)), none⟩,
  ⟨(some k78), (.mov (.t k2)), none⟩,
  ⟨(some k79), (.mov (.t k3)), none⟩,
  ⟨(some k80), (.nilc (.t k79)), none⟩,
  ⟨(some k81), (.fieldA 5 (.t k80)), none⟩,
  ⟨(some k82), (.load false 1 (.t k81)), none⟩,
  ⟨(some k83), (.callF 117 [(.t k76), (.t k77), (.t k78), (.t k82)]), none⟩,
  ⟨(some k84), (.callF 145 [(.t k74), (.t k75), (.t k83)]), none⟩,
  ⟨none, (.store 5 (.t k8) (.t k84)), none⟩]
def f115 : PFn := ⟨(.seq (.ops f115r0)
 (.seq (.seq (.staged f115r1 ⟨[k14, k15, k16, k17, k18, k19, k20, k21, k22, k13, k23, k24, k9, k10], []⟩)
 (.seq (.ops f115r2)
 (.cond (.t k25)
 (.seq (.staged f115r3 ⟨[k26, k27, k28, k29, k30, k31, k32, k33, k34], []⟩)
 (.seq (.staged f115r4 ⟨[k35, k36, k37, k38, k39, k40, k41, k42, k43, k44, k45, k46], []⟩)
 .ret))
 .skip)))
 (.seq (.staged f115r5 ⟨[k48, k49, k50, k51, k52, k53, k54, k55, k56, k47, k57, k58, k11, k12], []⟩)
 (.seq (.seq (.ops f115r6)
 (.cond (.t k60)
 (.ops f115r7)
 .skip))
 (.seq (.staged f115r8 ⟨[k62, k63, k64, k65, k66, k67, k68, k69, k70, k71, k72, k73], []⟩)
 (.seq (.ops f115r9)
 .ret)))))),
 [.cell k8 true 5]⟩
/- refuter/eval.joined -/
def f116r0 : List POper := [⟨(some k2), (.box (.t k0)), none⟩,
  ⟨(some k4), (.new [(.int .i64 (.lit 0)), (.int .i64 (.lit 0)), (.str 0 0), .nils, (.int .i64 (.lit 0))]), none⟩]
def f116r1 : List POper := [⟨(some k5), (.mov (.v (.int .i64 (.lit 1)))), none⟩]
def f116r2 : List POper := [⟨(some k8), (.mov (.t k1)), none⟩,
  ⟨(some k9), (.lenL (.t k8)), none⟩,
  ⟨(some k10), (.mkslice 4 [(.int .i64 (.lit 0)), (.int .i64 (.lit 0)), (.str 0 0), .nils] (.t k9) (.t k9)), none⟩,
  ⟨(some k11), (.fieldA 3 (.t k2)), none⟩,
  ⟨none, (.store 1 (.t k11) (.t k10)), none⟩]
def f116r3 : List POper := [⟨(some k12), (.mov (.t k1)), none⟩,
  ⟨(some k13), (.lenL (.t k12)), none⟩,
  ⟨(some k14), (.mov (.v (.int .i64 (.lit 0)))), none⟩]
def f116r4 : List POper := [⟨(some k15), (.bin .lss (.t k14) (.t k13)), none⟩]
def f116r5 : List POper := [⟨(some k16), (.mov (.t k14)), none⟩,
  ⟨(some k17), (.indexL 5 (.t k12) (.t k14)), none⟩,
  ⟨(some k18), (.load true 5 (.t k17)), none⟩,
  ⟨(some k7), (.new [(.int .i64 (.lit 0)), (.int .i64 (.lit 0)), (.str 0 0), .nils, (.int .i64 (.lit 0))]), none⟩,
  ⟨(some k6), (.mov (.t k16)), none⟩,
  ⟨none, (.store 5 (.t k7) (.t k18)), none⟩]
def f116r6 : List POper := [⟨(some k19), (.fieldA 3 (.t k2)), none⟩,
  ⟨(some k20), (.load false 1 (.t k19)), none⟩,
  ⟨(some k21), (.mov (.t k6)), none⟩,
  ⟨(some k22), (.fieldA 0 (.t k7)), none⟩,
  ⟨(some k23), (.load true 4 (.t k22)), none⟩,
  ⟨(some k24), (.indexL 4 (.t k20) (.t k21)), none⟩,
  ⟨none, (.store 4 (.t k24) (.t k23)), none⟩]
def f116r7 : List POper := [⟨(some k25), (.mov (.t k5)), none⟩,
  ⟨(some k26), (.fieldA 4 (.t k7)), none⟩,
  ⟨(some k27), (.load false 1 (.t k26)), none⟩,
  ⟨(some k28), (.bin .add (.t k25) (.t k27)), none⟩,
  ⟨(some k5), (.mov (.t k28)), none⟩]
def f116r8 : List POper := [⟨(some k29), (.bin .add (.t k14) (.v (.int .i64 (.lit 1)))), none⟩,
  ⟨(some k14), (.mov (.t k29)), none⟩]
def f116l0 : PCode := (.seq (.ops f116r4)
 (.seq (.cond (.t k15)
 .skip
 (.exit 0))
 (.seq (.block 1 (.seq (.ops f116r5)
 (.seq (.ops f116r6)
 (.ops f116r7))))
 (.ops f116r8))))
def f116r9 : List POper := [⟨(some k30), (.load true 4 (.t k2)), none⟩,
  ⟨(some k31), (.mov (.t k5)), none⟩,
  ⟨(some k32), (.build [(.int .i64 (.lit 0)), (.int .i64 (.lit 0)), (.str 0 0), .nils, (.int .i64 (.lit 0))] [(0, 4, (.t k30)), (4, 1, (.t k31))]), none⟩,
  ⟨none, (.store 5 (.t k4) (.t k32)), none⟩]
def f116 : PFn := ⟨(.seq (.ops f116r0)
 (.seq (.ops f116r1)
 (.seq (.ops f116r2)
 (.seq (.seq (.ops f116r3)
 (.block 0 (.loop f116l0)))
 (.seq (.ops f116r9)
 .ret))))),
 [.cell k4 true 5]⟩
/- (*refuter/eval.run).all -/
def f117r0 : List POper := [⟨(some k8), (.mov (.v .nils)), none⟩]
def f117r1 : List POper := [⟨(some k11), (.mov (.t k3)), none⟩,
  ⟨(some k12), (.lenL (.t k11)), none⟩,
  ⟨(some k13), (.mkslice 5 [(.int .i64 (.lit 0)), (.int .i64 (.lit 0)), (.str 0 0), .nils, (.int .i64 (.lit 0))] (.t k12) (.t k12)), none⟩,
  ⟨(some k9), (.mov (.t k13)), none⟩]
def f117r2 : List POper := [⟨(some k14), (.mov (.t k3)), none⟩,
  ⟨(some k15), (.lenL (.t k14)), none⟩,
  ⟨(some k16), (.mov (.v (.int .i64 (.lit 0)))), none⟩]
def f117r3 : List POper := [⟨(some k17), (.bin .lss (.t k16) (.t k15)), none⟩]
def f117r4 : List POper := [⟨(some k18), (.mov (.t k16)), none⟩,
  ⟨(some k10), (.mov (.t k18)), none⟩]
def f117r5 : List POper := [⟨(some k19), (.mov (.t k9)), none⟩,
  ⟨(some k20), (.mov (.t k10)), none⟩,
  ⟨(some k21), (.mov (.t k0)), none⟩,
  ⟨(some k22), (.mov (.t k1)), none⟩,
  ⟨(some k23), (.mov (.t k2)), none⟩,
  ⟨(some k24), (.mov (.t k3)), none⟩,
  ⟨(some k25), (.mov (.t k10)), none⟩,
  ⟨(some k26), (.indexL 7 (.t k24) (.t k25)), none⟩,
  ⟨(some k27), (.callF 30 [(.t k21), (.t k22), (.t k23), (.t k26)]), none⟩,
  ⟨(some k28), (.indexL 5 (.t k19) (.t k20)), none⟩,
  ⟨none, (.store 5 (.t k28) (.t k27)), none⟩]
def f117r6 : List POper := [⟨(some k29), (.bin .add (.t k16) (.v (.int .i64 (.lit 1)))), none⟩,
  ⟨(some k16), (.mov (.t k29)), none⟩]
def f117l0 : PCode := (.seq (.ops f117r3)
 (.seq (.cond (.t k17)
 .skip
 (.exit 0))
 (.seq (.block 1 (.seq (.ops f117r4)
 (.ops f117r5)))
 (.ops f117r6))))
def f117r7 : List POper := [⟨(some k30), (.mov (.t k9)), none⟩,
  ⟨(some k8), (.mov (.t k30)), none⟩]
def f117 : PFn := ⟨(.seq (.ops f117r0)
 (.seq (.ops f117r1)
 (.seq (.seq (.ops f117r2)
 (.block 0 (.loop f117l0)))
 (.seq (.ops f117r7)
 .ret)))),
 [.tmp k8]⟩
/- (*refuter/eval.run).truth -/
def f118r0 : List POper := [⟨(some k8), (.mov (.v (.bool false))), none⟩]
def f118r1 : List POper := [⟨(some k10), (.mov (.t k0)), none⟩,
  ⟨(some k11), (.mov (.t k1)), none⟩,
  ⟨(some k12), (.mov (.t k2)), none⟩,
  ⟨(some k13), (.mov (.t k3)), none⟩,
  ⟨(some k14), (.callF 30 [(.t k10), (.t k11), (.t k12), (.t k13)]), none⟩,
  ⟨(some k15), (.field true 0 4 (.t k14)), none⟩,
  ⟨(some k9), (.new [(.int .i64 (.lit 0)), (.int .i64 (.lit 0)), (.str 0 0), .nils]), none⟩,
  ⟨none, (.store 4 (.t k9) (.t k15)), none⟩]
def f118r2 : List POper := [⟨(some k16), (.fieldA 0 (.t k9)), none⟩,
  ⟨(some k17), (.load false 1 (.t k16)), none⟩,
  ⟨(some k18), (.bin .eql (.t k17) (.v (.int .i64 (.lit 1)))), none⟩,
  ⟨(some k19), (.callF 113 [(.t k18)]), none⟩]
def f118r3 : List POper := [⟨(some k20), (.fieldA 1 (.t k9)), none⟩,
  ⟨(some k21), (.load false 1 (.t k20)), none⟩,
  ⟨(some k22), (.bin .eql (.t k21) (.v (.int .i64 (.lit 1)))), none⟩,
  ⟨(some k8), (.mov (.t k22)), none⟩]
def f118 : PFn := ⟨(.seq (.ops f118r0)
 (.seq (.ops f118r1)
 (.seq (.ops f118r2)
 (.seq (.ops f118r3)
 .ret)))),
 [.tmp k8]⟩
/- (*refuter/eval.run).match -/
def f119r0 : List POper := [⟨(some k8), (.new [(.int .i64 (.lit 0)), (.int .i64 (.lit 0)), (.str 0 0), .nils, (.int .i64 (.lit 0))]), none⟩]
def f119r1 : List SItem := [.L 0 ⟨(some k13), (.mov (.t k3)), none⟩,
  .L 1 ⟨(some k14), (.nilc (.t k13)), none⟩,
  .L 2 ⟨(some k15), (.fieldA 5 (.t k14)), none⟩,
  .L 3 ⟨(some k16), (.load false 1 (.t k15)), none⟩,
  .L 4 ⟨(some k17), (.lenL (.t k16)), none⟩,
  .L 5 ⟨(some k18), (.bin .gtr (.t k17) (.v (.int .i64 (.lit 0)))), none⟩,
  .L 6 ⟨(some k19), (.mov (.t k18)), none⟩,
  .L 7 ⟨(some k20), (.mov (.t k3)), (some (k19, true))⟩,
  .L 8 ⟨(some k21), (.nilc (.t k20)), (some (k19, true))⟩,
  .L 9 ⟨(some k22), (.fieldA 3 (.t k21)), (some (k19, true))⟩,
  .L 10 ⟨(some k23), (.load false 1 (.t k22)), (some (k19, true))⟩,
  .L 11 ⟨(some k24), (.lenL (.t k23)), (some (k19, true))⟩,
  .L 12 ⟨(some k25), (.mov (.t k3)), (some (k19, true))⟩,
  .L 13 ⟨(some k26), (.nilc (.t k25)), (some (k19, true))⟩,
  .L 14 ⟨(some k27), (.fieldA 5 (.t k26)), (some (k19, true))⟩,
  .L 15 ⟨(some k28), (.load false 1 (.t k27)), (some (k19, true))⟩,
  .L 16 ⟨(some k29), (.lenL (.t k28)), (some (k19, true))⟩,
  .L 17 ⟨(some k30), (.bin .sub (.t k29) (.v (.int .i64 (.lit 1)))), (some (k19, true))⟩,
  .L 18 ⟨(some k31), (.bin .eql (.t k24) (.t k30)), (some (k19, true))⟩,
  .L 19 ⟨(some k32), (.pick (.t k19) (.t k31) (.v (.bool false))), none⟩,
  .L 20 ⟨(some k33), (.mov (.t k32)), none⟩,
  .L 21 ⟨(some k34), (.mov (.t k3)), (some (k33, true))⟩,
  .L 22 ⟨(some k35), (.nilc (.t k34)), (some (k33, true))⟩,
  .L 23 ⟨(some k36), (.fieldA 4 (.t k35)), (some (k33, true))⟩,
  .L 24 ⟨(some k37), (.load false 1 (.t k36)), (some (k33, true))⟩,
  .L 25 ⟨(some k38), (.lenL (.t k37)), (some (k33, true))⟩,
  .L 26 ⟨(some k39), (.mov (.t k3)), (some (k33, true))⟩,
  .L 27 ⟨(some k40), (.nilc (.t k39)), (some (k33, true))⟩,
  .L 28 ⟨(some k41), (.fieldA 5 (.t k40)), (some (k33, true))⟩,
  .L 29 ⟨(some k42), (.load false 1 (.t k41)), (some (k33, true))⟩,
  .L 30 ⟨(some k43), (.lenL (.t k42)), (some (k33, true))⟩,
  .L 31 ⟨(some k44), (.bin .sub (.t k43) (.v (.int .i64 (.lit 1)))), (some (k33, true))⟩,
  .L 32 ⟨(some k45), (.bin .eql (.t k38) (.t k44)), (some (k33, true))⟩,
  .L 33 ⟨(some k46), (.pick (.t k33) (.t k45) (.v (.bool false))), none⟩,
  .H 34 ⟨(some k47), (.callF 113 [(.t k46)]), none⟩ [],
  .R []]
def f119r2 : List POper := [⟨(some k48), (.mov (.t k0)), none⟩,
  ⟨(some k49), (.mov (.t k1)), none⟩,
  ⟨(some k50), (.mov (.t k2)), none⟩,
  ⟨(some k51), (.mov (.t k3)), none⟩,
  ⟨(some k52), (.nilc (.t k51)), none⟩,
  ⟨(some k53), (.fieldA 5 (.t k52)), none⟩,
  ⟨(some k54), (.load false 1 (.t k53)), none⟩,
  ⟨(some k55), (.indexL 7 (.t k54) (.v (.int .i64 (.lit 0)))), none⟩,
  ⟨(some k56), (.callF 30 [(.t k48), (.t k49), (.t k50), (.t k55)]), none⟩,
  ⟨(some k57), (.field true 0 4 (.t k56)), none⟩,
  ⟨(some k9), (.new [(.int .i64 (.lit 0)), (.int .i64 (.lit 0)), (.str 0 0), .nils]), none⟩,
  ⟨none, (.store 4 (.t k9) (.t k57)), none⟩]
def f119r3 : List POper := [⟨(some k58), (.fieldA 0 (.t k9)), none⟩,
  ⟨(some k59), (.load false 1 (.t k58)), none⟩,
  ⟨(some k60), (.bin .eql (.t k59) (.v (.int .i64 (.lit 3)))), none⟩,
  ⟨(some k61), (.callF 113 [(.t k60)]), none⟩]
def f119r4 : List POper := [⟨(some k10), (.mov (.v (.int .i64 (.lit 0)))), none⟩]
def f119r5 : List SItem := [.L 0 ⟨(some k62), (.mov (.t k10)), none⟩,
  .L 1 ⟨(some k63), (.mov (.t k3)), none⟩,
  .L 2 ⟨(some k64), (.nilc (.t k63)), none⟩,
  .L 3 ⟨(some k65), (.fieldA 3 (.t k64)), none⟩,
  .L 4 ⟨(some k66), (.load false 1 (.t k65)), none⟩,
  .L 5 ⟨(some k67), (.lenL (.t k66)), none⟩,
  .L 6 ⟨(some k68), (.bin .lss (.t k62) (.t k67)), none⟩,
  .L 7 ⟨(some k69), (.mov (.t k68)), none⟩,
  .L 8 ⟨(some k70), (.mov (.t k3)), (some (k69, true))⟩,
  .L 9 ⟨(some k71), (.nilc (.t k70)), (some (k69, true))⟩,
  .L 10 ⟨(some k72), (.fieldA 3 (.t k71)), (some (k69, true))⟩,
  .L 11 ⟨(some k73), (.load false 1 (.t k72)), (some (k69, true))⟩,
  .L 12 ⟨(some k74), (.mov (.t k10)), (some (k69, true))⟩,
  .L 13 ⟨(some k75), (.indexL 1 (.t k73) (.t k74)), (some (k69, true))⟩,
  .L 14 ⟨(some k76), (.load false 1 (.t k75)), (some (k69, true))⟩,
  .L 15 ⟨(some k77), (.fieldA 2 (.t k9)), (some (k69, true))⟩,
  .L 16 ⟨(some k78), (.load false 1 (.t k77)), (some (k69, true))⟩,
  .L 17 ⟨(some k79), (.bin .neq (.t k76) (.t k78)), (some (k69, true))⟩,
  .L 18 ⟨(some k80), (.pick (.t k69) (.t k79) (.v (.bool false))), none⟩]
def f119r6 : List POper := [⟨(some k81), (.mov (.t k10)), none⟩,
  ⟨(some k82), (.bin .add (.t k81) (.v (.int .i64 (.lit 1)))), none⟩,
  ⟨(some k10), (.mov (.t k82)), none⟩]
def f119l0 : PCode := (.seq (.seq (.staged f119r5 ⟨[k62, k63, k64, k65, k66, k67, k68, k69, k70, k71, k72, k73, k74, k75, k76, k77, k78, k79, k80], []⟩)
 (.cond (.t k80)
 .skip
 (.exit 0)))
 (.block 1 (.ops f119r6)))
def f119r7 : List POper := [⟨(some k83), (.mov (.t k10)), none⟩,
  ⟨(some k84), (.mov (.t k3)), none⟩,
  ⟨(some k85), (.nilc (.t k84)), none⟩,
  ⟨(some k86), (.fieldA 3 (.t k85)), none⟩,
  ⟨(some k87), (.load false 1 (.t k86)), none⟩,
  ⟨(some k88), (.lenL (.t k87)), none⟩,
  ⟨(some k89), (.bin .eql (.t k83) (.t k88)), none⟩]
def f119r8 : List POper := [⟨(some k90), (.callF 67 [(.v (.int .i64 (.lit 14)))]), none⟩]
def f119r9 : List SItem := [.L 0 ⟨(some k91), (.mov (.t k3)), none⟩,
  .L 1 ⟨(some k92), (.nilc (.t k91)), none⟩,
  .L 2 ⟨(some k93), (.fieldA 4 (.t k92)), none⟩,
  .L 3 ⟨(some k94), (.load false 1 (.t k93)), none⟩,
  .L 4 ⟨(some k95), (.mov (.t k10)), none⟩,
  .L 5 ⟨(some k96), (.indexL 1 (.t k94) (.t k95)), none⟩,
  .L 6 ⟨(some k97), (.load false 1 (.t k96)), none⟩,
  .L 7 ⟨(some k98), (.lenL (.t k97)), none⟩,
  .L 8 ⟨(some k99), (.fieldA 3 (.t k9)), none⟩,
  .L 9 ⟨(some k100), (.load false 1 (.t k99)), none⟩,
  .L 10 ⟨(some k101), (.lenL (.t k100)), none⟩,
  .L 11 ⟨(some k102), (.bin .eql (.t k98) (.t k101)), none⟩,
  .H 12 ⟨(some k103), (.callF 113 [(.t k102)]), none⟩ [],
  .R []]
def f119r10 : List SItem := [.L 0 ⟨(some k104), (.mov (.t k0)), none⟩,
  .L 1 ⟨(some k105), (.mov (.t k0)), none⟩,
  .L 2 ⟨(some k106), (.nilc (.t k105)), none⟩,
  .L 3 ⟨(some k107), (.fieldA 11 (.t k106)), none⟩,
  .L 4 ⟨(some k108), (.load false 1 (.t k107)), none⟩,
  .L 5 ⟨(some k109), (.mov (.t k1)), none⟩,
  .L 6 ⟨(some k110), (.mov (.t k3)), none⟩,
  .L 7 ⟨(some k111), (.nilc (.t k110)), none⟩,
  .L 8 ⟨(some k112), (.fieldA 6 (.t k111)), none⟩,
  .L 9 ⟨(some k113), (.load false 1 (.t k112)), none⟩,
  .L 10 ⟨(some k114), (.mov (.t k10)), none⟩,
  .L 11 ⟨(some k115), (.build [(.str 0 0), (.int .i64 (.lit 0)), (.int .i64 (.lit 0))] [(0, 1, (.t k109)), (1, 1, (.t k113)), (2, 1, (.t k114))]), none⟩,
  .A 12 ⟨(some k116), (.bslice 3 1 [(.str 0 0), (.int .i64 (.lit 0)), (.int .i64 (.lit 0))] [(0, 3, (.t k115))]), none⟩,
  .H 13 ⟨(some k117), (.append 3 (.t k108) (.t k116)), none⟩ [12],
  .R [],
  .L 14 ⟨(some k118), (.nilc (.t k104)), none⟩,
  .L 15 ⟨(some k119), (.fieldA 11 (.t k118)), none⟩,
  .H 16 ⟨none, (.store 1 (.t k119) (.t k117)), none⟩ [12],
  .R []]
def f119r11 : List POper := [⟨(some k120), (.mov (.t k3)), none⟩,
  ⟨(some k121), (.nilc (.t k120)), none⟩,
  ⟨(some k122), (.fieldA 4 (.t k121)), none⟩,
  ⟨(some k123), (.load false 1 (.t k122)), none⟩,
  ⟨(some k124), (.mov (.t k10)), none⟩,
  ⟨(some k125), (.indexL 1 (.t k123) (.t k124)), none⟩,
  ⟨(some k126), (.load false 1 (.t k125)), none⟩,
  ⟨(some k127), (.lenL (.t k126)), none⟩,
  ⟨(some k128), (.mov (.v (.int .i64 (.lit 0)))), none⟩]
def f119r12 : List POper := [⟨(some k129), (.bin .lss (.t k128) (.t k127)), none⟩]
def f119r13 : List POper := [⟨(some k130), (.mov (.t k128)), none⟩,
  ⟨(some k131), (.indexL 1 (.t k126) (.t k128)), none⟩,
  ⟨(some k132), (.load false 1 (.t k131)), none⟩,
  ⟨(some k11), (.mov (.t k130)), none⟩,
  ⟨(some k12), (.mov (.t k132)), none⟩]
def f119r14 : List POper := [⟨(some k133), (.mov (.t k12)), none⟩,
  ⟨(some k134), (.fieldA 3 (.t k9)), none⟩,
  ⟨(some k135), (.load false 1 (.t k134)), none⟩,
  ⟨(some k136), (.mov (.t k11)), none⟩,
  ⟨(some k137), (.indexL 4 (.t k135) (.t k136)), none⟩,
  ⟨(some k138), (.load true 4 (.t k137)), none⟩,
  ⟨(some k139), (.callF 27 [(.t k138)]), none⟩,
  ⟨(some k140), (.mov (.t k2)), none⟩,
  ⟨(some k141), (.build [(.str 0 0), (.int .i64 (.lit 0)), (.int .i64 (.lit 0)), (.str 0 0), .nils, (.int .i64 (.lit 0)), .nilp] [(0, 1, (.t k133)), (1, 5, (.t k139)), (6, 1, (.t k140))]), none⟩,
  ⟨(some k142), (.box (.t k141)), none⟩,
  ⟨(some k2), (.mov (.t k142)), none⟩]
def f119r15 : List POper := [⟨(some k143), (.bin .add (.t k128) (.v (.int .i64 (.lit 1)))), none⟩,
  ⟨(some k128), (.mov (.t k143)), none⟩]
def f119l1 : PCode := (.seq (.ops f119r12)
 (.seq (.cond (.t k129)
 .skip
 (.exit 2))
 (.seq (.block 3 (.seq (.ops f119r13)
 (.ops f119r14)))
 (.ops f119r15))))
def f119r16 : List POper := [⟨(some k144), (.mov (.t k0)), none⟩,
  ⟨(some k145), (.mov (.t k1)), none⟩,
  ⟨(some k146), (.mov (.t k2)), none⟩,
  ⟨(some k147), (.mov (.t k3)), none⟩,
  ⟨(some k148), (.nilc (.t k147)), none⟩,
  ⟨(some k149), (.fieldA 5 (.t k148)), none⟩,
  ⟨(some k150), (.load false 1 (.t k149)), none⟩,
  ⟨(some k151), (.mov (.t k10)), none⟩,
  ⟨(some k152), (.bin .add (.t k151) (.v (.int .i64 (.lit 1)))), none⟩,
  ⟨(some k153), (.indexL 7 (.t k150) (.t k152)), none⟩,
  ⟨(some k154), (.callF 30 [(.t k144), (.t k145), (.t k146), (.t k153)]), none⟩,
  ⟨none, (.store 5 (.t k8) (.t k154)), none⟩]
def f119 : PFn := ⟨(.seq (.ops f119r0)
 (.seq (.staged f119r1 ⟨[k13, k14, k15, k16, k17, k18, k19, k20, k21, k22, k23, k24, k25, k26, k27, k28, k29, k30, k31, k32, k33, k34, k35, k36, k37, k38, k39, k40, k41, k42, k43, k44, k45, k46, k47], []⟩)
 (.seq (.ops f119r2)
 (.seq (.ops f119r3)
 (.seq (.ops f119r4)
 (.seq (.block 0 (.loop f119l0))
 (.seq (.seq (.ops f119r7)
 (.cond (.t k89)
 (.ops f119r8)
 .skip))
 (.seq (.staged f119r9 ⟨[k91, k92, k93, k94, k95, k96, k97, k98, k99, k100, k101, k102, k103], []⟩)
 (.seq (.staged f119r10 ⟨[k104, k105, k106, k107, k108, k109, k110, k111, k112, k113, k114, k115, k116, k117, k118, k119], []⟩)
 (.seq (.seq (.ops f119r11)
 (.block 2 (.loop f119l1)))
 (.seq (.ops f119r16)
 .ret))))))))))),
 [.cell k8 true 5]⟩
/- (*refuter/eval.run).op -/
def f120r0 : List POper := [⟨(some k8), (.new [(.int .i64 (.lit 0)), (.int .i64 (.lit 0)), (.str 0 0), .nils, (.int .i64 (.lit 0))]), none⟩]
def f120r1 : List POper := [⟨(some k11), (.mov (.t k3)), none⟩,
  ⟨(some k12), (.nilc (.t k11)), none⟩,
  ⟨(some k13), (.fieldA 1 (.t k12)), none⟩,
  ⟨(some k14), (.load false 1 (.t k13)), none⟩]
def f120r2 : List POper := [⟨(some k17), (.bin .eql (.t k14) (.v (.str 3 7630702))), none⟩,
  ⟨(some k16), (.mov (.t k17)), none⟩]
def f120r3 : List POper := [⟨(some k18), (.mov (.t k3)), none⟩,
  ⟨(some k19), (.nilc (.t k18)), none⟩,
  ⟨(some k20), (.fieldA 5 (.t k19)), none⟩,
  ⟨(some k21), (.load false 1 (.t k20)), none⟩,
  ⟨(some k22), (.lenL (.t k21)), none⟩,
  ⟨(some k23), (.bin .eql (.t k22) (.v (.int .i64 (.lit 1)))), none⟩,
  ⟨(some k24), (.callF 113 [(.t k23)]), none⟩]
def f120r4 : List POper := [⟨(some k25), (.mov (.t k0)), none⟩,
  ⟨(some k26), (.mov (.t k1)), none⟩,
  ⟨(some k27), (.mov (.t k2)), none⟩,
  ⟨(some k28), (.mov (.t k3)), none⟩,
  ⟨(some k29), (.nilc (.t k28)), none⟩,
  ⟨(some k30), (.fieldA 5 (.t k29)), none⟩,
  ⟨(some k31), (.load false 1 (.t k30)), none⟩,
  ⟨(some k32), (.indexL 7 (.t k31) (.v (.int .i64 (.lit 0)))), none⟩,
  ⟨(some k33), (.callF 118 [(.t k25), (.t k26), (.t k27), (.t k32)]), none⟩,
  ⟨(some k34), (.un .not (.t k33)), none⟩,
  ⟨(some k35), (.callF 114 [(.t k34)]), none⟩,
  ⟨none, (.store 5 (.t k8) (.t k35)), none⟩]
def f120r5 : List POper := [⟨(some k37), (.bin .eql (.t k14) (.v (.str 3 6581857))), none⟩,
  ⟨(some k36), (.mov (.t k37)), none⟩]
def f120r6 : List POper := [⟨(some k38), (.bin .eql (.t k14) (.v (.str 2 29295))), none⟩,
  ⟨(some k36), (.mov (.t k38)), none⟩]
def f120r7 : List POper := [⟨(some k39), (.mov (.t k3)), none⟩,
  ⟨(some k40), (.nilc (.t k39)), none⟩,
  ⟨(some k41), (.fieldA 5 (.t k40)), none⟩,
  ⟨(some k42), (.load false 1 (.t k41)), none⟩,
  ⟨(some k43), (.lenL (.t k42)), none⟩,
  ⟨(some k44), (.bin .eql (.t k43) (.v (.int .i64 (.lit 2)))), none⟩,
  ⟨(some k45), (.callF 113 [(.t k44)]), none⟩]
def f120r8 : List SItem := [.L 0 ⟨(some k46), (.mov (.t k0)), none⟩,
  .L 1 ⟨(some k47), (.mov (.t k1)), none⟩,
  .L 2 ⟨(some k48), (.mov (.t k2)), none⟩,
  .L 3 ⟨(some k49), (.mov (.t k3)), none⟩,
  .L 4 ⟨(some k50), (.nilc (.t k49)), none⟩,
  .L 5 ⟨(some k51), (.fieldA 5 (.t k50)), none⟩,
  .L 6 ⟨(some k52), (.load false 1 (.t k51)), none⟩,
  .L 7 ⟨(some k53), (.indexL 7 (.t k52) (.v (.int .i64 (.lit 0)))), none⟩,
  .L 9 ⟨(some k55), (.mov (.t k3)), none⟩,
  .L 10 ⟨(some k56), (.nilc (.t k55)), none⟩,
  .L 11 ⟨(some k57), (.fieldA 1 (.t k56)), none⟩,
  .L 12 ⟨(some k58), (.load false 1 (.t k57)), none⟩,
  .L 13 ⟨(some k59), (.bin .eql (.t k58) (.v (.str 2 29295))), none⟩,
  .H 8 ⟨(some k54), (.callF 118 [(.t k46), (.t k47), (.t k48), (.t k53)]), none⟩ [],
  .R [(12, ⟨(some k58), (.load false 1 (.t k57)), none⟩)],
  .L 14 ⟨(some k60), (.eq false .bool (.t k54) (.t k59)), none⟩]
def f120r9 : List POper := [⟨(some k61), (.mov (.t k3)), none⟩,
  ⟨(some k62), (.nilc (.t k61)), none⟩,
  ⟨(some k63), (.fieldA 1 (.t k62)), none⟩,
  ⟨(some k64), (.load false 1 (.t k63)), none⟩,
  ⟨(some k65), (.bin .eql (.t k64) (.v (.str 2 29295))), none⟩,
  ⟨(some k66), (.callF 114 [(.t k65)]), none⟩,
  ⟨none, (.store 5 (.t k8) (.t k66)), none⟩]
def f120r10 : List POper := [⟨(some k67), (.mov (.t k0)), none⟩,
  ⟨(some k68), (.mov (.t k1)), none⟩,
  ⟨(some k69), (.mov (.t k2)), none⟩,
  ⟨(some k70), (.mov (.t k3)), none⟩,
  ⟨(some k71), (.nilc (.t k70)), none⟩,
  ⟨(some k72), (.fieldA 5 (.t k71)), none⟩,
  ⟨(some k73), (.load false 1 (.t k72)), none⟩,
  ⟨(some k74), (.indexL 7 (.t k73) (.v (.int .i64 (.lit 1)))), none⟩,
  ⟨(some k75), (.callF 118 [(.t k67), (.t k68), (.t k69), (.t k74)]), none⟩,
  ⟨(some k76), (.callF 114 [(.t k75)]), none⟩,
  ⟨none, (.store 5 (.t k8) (.t k76)), none⟩]
def f120r11 : List POper := [⟨(some k78), (.bin .eql (.t k14) (.v (.str 1 43))), none⟩,
  ⟨(some k77), (.mov (.t k78)), none⟩]
def f120r12 : List POper := [⟨(some k79), (.bin .eql (.t k14) (.v (.str 1 45))), none⟩,
  ⟨(some k77), (.mov (.t k79)), none⟩]
def f120r13 : List POper := [⟨(some k80), (.bin .eql (.t k14) (.v (.str 1 42))), none⟩,
  ⟨(some k77), (.mov (.t k80)), none⟩]
def f120r14 : List POper := [⟨(some k81), (.bin .eql (.t k14) (.v (.str 1 60))), none⟩,
  ⟨(some k77), (.mov (.t k81)), none⟩]
def f120r15 : List POper := [⟨(some k82), (.bin .eql (.t k14) (.v (.str 2 15676))), none⟩,
  ⟨(some k77), (.mov (.t k82)), none⟩]
def f120r16 : List POper := [⟨(some k83), (.bin .eql (.t k14) (.v (.str 2 15677))), none⟩,
  ⟨(some k77), (.mov (.t k83)), none⟩]
def f120r17 : List POper := [⟨(some k84), (.bin .eql (.t k14) (.v (.str 2 15649))), none⟩,
  ⟨(some k77), (.mov (.t k84)), none⟩]
def f120r18 : List POper := [⟨(some k85), (.mov (.t k3)), none⟩,
  ⟨(some k86), (.nilc (.t k85)), none⟩,
  ⟨(some k87), (.fieldA 5 (.t k86)), none⟩,
  ⟨(some k88), (.load false 1 (.t k87)), none⟩,
  ⟨(some k89), (.lenL (.t k88)), none⟩,
  ⟨(some k90), (.bin .eql (.t k89) (.v (.int .i64 (.lit 2)))), none⟩,
  ⟨(some k91), (.callF 113 [(.t k90)]), none⟩]
def f120r19 : List POper := [⟨(some k15), (.callF 67 [(.v (.int .i64 (.lit 9)))]), none⟩]
def f120r20 : List POper := [⟨(some k92), (.mov (.t k0)), none⟩,
  ⟨(some k93), (.mov (.t k1)), none⟩,
  ⟨(some k94), (.mov (.t k2)), none⟩,
  ⟨(some k95), (.mov (.t k3)), none⟩,
  ⟨(some k96), (.nilc (.t k95)), none⟩,
  ⟨(some k97), (.fieldA 5 (.t k96)), none⟩,
  ⟨(some k98), (.load false 1 (.t k97)), none⟩,
  ⟨(some k99), (.indexL 7 (.t k98) (.v (.int .i64 (.lit 0)))), none⟩,
  ⟨(some k100), (.callF 30 [(.t k92), (.t k93), (.t k94), (.t k99)]), none⟩,
  ⟨(some k101), (.field true 0 4 (.t k100)), none⟩,
  ⟨(some k9), (.new [(.int .i64 (.lit 0)), (.int .i64 (.lit 0)), (.str 0 0), .nils]), none⟩,
  ⟨none, (.store 4 (.t k9) (.t k101)), none⟩]
def f120r21 : List POper := [⟨(some k102), (.mov (.t k0)), none⟩,
  ⟨(some k103), (.mov (.t k1)), none⟩,
  ⟨(some k104), (.mov (.t k2)), none⟩,
  ⟨(some k105), (.mov (.t k3)), none⟩,
  ⟨(some k106), (.nilc (.t k105)), none⟩,
  ⟨(some k107), (.fieldA 5 (.t k106)), none⟩,
  ⟨(some k108), (.load false 1 (.t k107)), none⟩,
  ⟨(some k109), (.indexL 7 (.t k108) (.v (.int .i64 (.lit 1)))), none⟩,
  ⟨(some k110), (.callF 30 [(.t k102), (.t k103), (.t k104), (.t k109)]), none⟩,
  ⟨(some k111), (.field true 0 4 (.t k110)), none⟩,
  ⟨(some k10), (.new [(.int .i64 (.lit 0)), (.int .i64 (.lit 0)), (.str 0 0), .nils]), none⟩,
  ⟨none, (.store 4 (.t k10) (.t k111)), none⟩]
def f120r22 : List POper := [⟨(some k112), (.mov (.t k3)), none⟩,
  ⟨(some k113), (.nilc (.t k112)), none⟩,
  ⟨(some k114), (.fieldA 1 (.t k113)), none⟩,
  ⟨(some k115), (.load false 1 (.t k114)), none⟩]
def f120r23 : List POper := [⟨(some k117), (.bin .eql (.t k115) (.v (.str 2 15677))), none⟩,
  ⟨(some k116), (.mov (.t k117)), none⟩]
def f120r24 : List POper := [⟨(some k118), (.load true 4 (.t k9)), none⟩,
  ⟨(some k119), (.load true 4 (.t k10)), none⟩,
  ⟨(some k120), (.callF 146 [(.t k118), (.t k119)]), none⟩,
  ⟨(some k121), (.bin .eql (.t k120) (.v (.int .i64 (.lit 0)))), none⟩,
  ⟨(some k122), (.callF 114 [(.t k121)]), none⟩,
  ⟨none, (.store 5 (.t k8) (.t k122)), none⟩]
def f120r25 : List POper := [⟨(some k124), (.bin .eql (.t k115) (.v (.str 2 15649))), none⟩,
  ⟨(some k123), (.mov (.t k124)), none⟩]
def f120r26 : List POper := [⟨(some k125), (.load true 4 (.t k9)), none⟩,
  ⟨(some k126), (.load true 4 (.t k10)), none⟩,
  ⟨(some k127), (.callF 146 [(.t k125), (.t k126)]), none⟩,
  ⟨(some k128), (.bin .neq (.t k127) (.v (.int .i64 (.lit 0)))), none⟩,
  ⟨(some k129), (.callF 114 [(.t k128)]), none⟩,
  ⟨none, (.store 5 (.t k8) (.t k129)), none⟩]
def f120r27 : List POper := [⟨(some k130), (.fieldA 0 (.t k9)), none⟩,
  ⟨(some k131), (.load false 1 (.t k130)), none⟩,
  ⟨(some k132), (.bin .eql (.t k131) (.v (.int .i64 (.lit 0)))), none⟩,
  ⟨(some k133), (.mov (.t k132)), none⟩,
  ⟨(some k134), (.fieldA 0 (.t k10)), (some (k133, true))⟩,
  ⟨(some k135), (.load false 1 (.t k134)), (some (k133, true))⟩,
  ⟨(some k136), (.bin .eql (.t k135) (.v (.int .i64 (.lit 0)))), (some (k133, true))⟩,
  ⟨(some k137), (.pick (.t k133) (.t k136) (.v (.bool false))), none⟩,
  ⟨(some k138), (.callF 113 [(.t k137)]), none⟩]
def f120r28 : List POper := [⟨(some k139), (.mov (.t k3)), none⟩,
  ⟨(some k140), (.nilc (.t k139)), none⟩,
  ⟨(some k141), (.fieldA 1 (.t k140)), none⟩,
  ⟨(some k142), (.load false 1 (.t k141)), none⟩]
def f120r29 : List POper := [⟨(some k144), (.bin .eql (.t k142) (.v (.str 1 43))), none⟩,
  ⟨(some k143), (.mov (.t k144)), none⟩]
def f120r30 : List POper := [⟨(some k145), (.fieldA 1 (.t k9)), none⟩,
  ⟨(some k146), (.load false 1 (.t k145)), none⟩,
  ⟨(some k147), (.fieldA 1 (.t k10)), none⟩,
  ⟨(some k148), (.load false 1 (.t k147)), none⟩,
  ⟨(some k149), (.bin .add (.t k146) (.t k148)), none⟩,
  ⟨(some k150), (.callF 98 [(.t k149)]), none⟩,
  ⟨none, (.store 5 (.t k8) (.t k150)), none⟩]
def f120r31 : List POper := [⟨(some k152), (.bin .eql (.t k142) (.v (.str 1 45))), none⟩,
  ⟨(some k151), (.mov (.t k152)), none⟩]
def f120r32 : List POper := [⟨(some k153), (.fieldA 1 (.t k9)), none⟩,
  ⟨(some k154), (.load false 1 (.t k153)), none⟩,
  ⟨(some k155), (.fieldA 1 (.t k10)), none⟩,
  ⟨(some k156), (.load false 1 (.t k155)), none⟩,
  ⟨(some k157), (.bin .sub (.t k154) (.t k156)), none⟩,
  ⟨(some k158), (.callF 98 [(.t k157)]), none⟩,
  ⟨none, (.store 5 (.t k8) (.t k158)), none⟩]
def f120r33 : List POper := [⟨(some k160), (.bin .eql (.t k142) (.v (.str 1 42))), none⟩,
  ⟨(some k159), (.mov (.t k160)), none⟩]
def f120r34 : List POper := [⟨(some k161), (.fieldA 1 (.t k9)), none⟩,
  ⟨(some k162), (.load false 1 (.t k161)), none⟩,
  ⟨(some k163), (.fieldA 1 (.t k10)), none⟩,
  ⟨(some k164), (.load false 1 (.t k163)), none⟩,
  ⟨(some k165), (.bin .mul (.t k162) (.t k164)), none⟩,
  ⟨(some k166), (.callF 98 [(.t k165)]), none⟩,
  ⟨none, (.store 5 (.t k8) (.t k166)), none⟩]
def f120r35 : List POper := [⟨(some k168), (.bin .eql (.t k142) (.v (.str 1 60))), none⟩,
  ⟨(some k167), (.mov (.t k168)), none⟩]
def f120r36 : List POper := [⟨(some k169), (.fieldA 1 (.t k9)), none⟩,
  ⟨(some k170), (.load false 1 (.t k169)), none⟩,
  ⟨(some k171), (.fieldA 1 (.t k10)), none⟩,
  ⟨(some k172), (.load false 1 (.t k171)), none⟩,
  ⟨(some k173), (.bin .lss (.t k170) (.t k172)), none⟩,
  ⟨(some k174), (.callF 114 [(.t k173)]), none⟩,
  ⟨none, (.store 5 (.t k8) (.t k174)), none⟩]
def f120r37 : List POper := [⟨(some k175), (.fieldA 1 (.t k9)), none⟩,
  ⟨(some k176), (.load false 1 (.t k175)), none⟩,
  ⟨(some k177), (.fieldA 1 (.t k10)), none⟩,
  ⟨(some k178), (.load false 1 (.t k177)), none⟩,
  ⟨(some k179), (.bin .leq (.t k176) (.t k178)), none⟩,
  ⟨(some k180), (.callF 114 [(.t k179)]), none⟩,
  ⟨none, (.store 5 (.t k8) (.t k180)), none⟩]
def f120 : PFn := ⟨(.seq (.ops f120r0)
 (.seq (.seq (.ops f120r1)
 (.block 0 (.seq (.ops f120r2)
 (.cond (.t k16)
 (.seq (.ops f120r3)
 (.seq (.ops f120r4)
 .ret))
 (.seq (.seq (.ops f120r5)
 (.cond (.t k36)
 .skip
 (.ops f120r6)))
 (.cond (.t k36)
 (.seq (.ops f120r7)
 (.seq (.seq (.staged f120r8 ⟨[k46, k47, k48, k49, k50, k51, k52, k53, k54, k55, k56, k57, k58, k59, k60], []⟩)
 (.cond (.t k60)
 (.seq (.ops f120r9)
 .ret)
 .skip))
 (.seq (.ops f120r10)
 .ret)))
 (.seq (.seq (.ops f120r11)
 (.cond (.t k77)
 .skip
 (.seq (.ops f120r12)
 (.cond (.t k77)
 .skip
 (.seq (.ops f120r13)
 (.cond (.t k77)
 .skip
 (.seq (.ops f120r14)
 (.cond (.t k77)
 .skip
 (.seq (.ops f120r15)
 (.cond (.t k77)
 .skip
 (.seq (.ops f120r16)
 (.cond (.t k77)
 .skip
 (.ops f120r17)))))))))))))
 (.cond (.t k77)
 (.ops f120r18)
 (.ops f120r19)))))))))
 (.seq (.ops f120r20)
 (.seq (.ops f120r21)
 (.seq (.seq (.ops f120r22)
 (.block 1 (.seq (.ops f120r23)
 (.cond (.t k116)
 (.seq (.ops f120r24)
 .ret)
 (.seq (.ops f120r25)
 (.cond (.t k123)
 (.seq (.ops f120r26)
 .ret)
 .skip))))))
 (.seq (.ops f120r27)
 (.seq (.seq (.ops f120r28)
 (.block 2 (.seq (.ops f120r29)
 (.cond (.t k143)
 (.seq (.ops f120r30)
 .ret)
 (.seq (.ops f120r31)
 (.cond (.t k151)
 (.seq (.ops f120r32)
 .ret)
 (.seq (.ops f120r33)
 (.cond (.t k159)
 (.seq (.ops f120r34)
 .ret)
 (.seq (.ops f120r35)
 (.cond (.t k167)
 (.seq (.ops f120r36)
 .ret)
 .skip))))))))))
 (.seq (.ops f120r37)
 .ret)))))))),
 [.cell k8 true 5]⟩
/- refuter/lexer.small -/
def f121r0 : List POper := [⟨(some k2), (.mov (.v (.bool false))), none⟩]
def f121r1 : List POper := [⟨(some k3), (.mov (.t k0)), none⟩,
  ⟨(some k4), (.bin .geq (.t k3) (.v (.int .u8 (.lit 97)))), none⟩,
  ⟨(some k5), (.mov (.t k4)), none⟩,
  ⟨(some k6), (.mov (.t k0)), (some (k5, true))⟩,
  ⟨(some k7), (.bin .leq (.t k6) (.v (.int .u8 (.lit 122)))), (some (k5, true))⟩,
  ⟨(some k8), (.pick (.t k5) (.t k7) (.v (.bool false))), none⟩,
  ⟨(some k2), (.mov (.t k8)), none⟩]
def f121 : PFn := ⟨(.seq (.ops f121r0)
 (.seq (.ops f121r1)
 .ret)),
 [.tmp k2]⟩
/- refuter/lexer.span -/
def f122r0 : List POper := [⟨(some k4), (.mov (.v (.str 0 0))), none⟩]
def f122r1 : List POper := [⟨(some k5), (.mov (.v (.int .i64 (.lit 0)))), none⟩]
def f122r2 : List POper := [⟨(some k6), (.mov (.t k5)), none⟩,
  ⟨(some k7), (.mov (.t k0)), none⟩,
  ⟨(some k8), (.lenS (.t k7)), none⟩,
  ⟨(some k9), (.bin .lss (.t k6) (.t k8)), none⟩,
  ⟨(some k10), (.mov (.t k9)), none⟩,
  ⟨(some k11), (.mov (.t k1)), (some (k10, true))⟩,
  ⟨(some k12), (.mov (.t k0)), (some (k10, true))⟩,
  ⟨(some k13), (.mov (.t k5)), (some (k10, true))⟩,
  ⟨(some k14), (.indexS (.t k12) (.t k13)), (some (k10, true))⟩,
  ⟨(some k15), (.callV (.t k11) [(.t k14)]), (some (k10, true))⟩,
  ⟨(some k16), (.pick (.t k10) (.t k15) (.v (.bool false))), none⟩]
def f122r3 : List POper := [⟨(some k17), (.mov (.t k5)), none⟩,
  ⟨(some k18), (.bin .add (.t k17) (.v (.int .i64 (.lit 1)))), none⟩,
  ⟨(some k5), (.mov (.t k18)), none⟩]
def f122l0 : PCode := (.seq (.seq (.ops f122r2)
 (.cond (.t k16)
 .skip
 (.exit 0)))
 (.block 1 (.ops f122r3)))
def f122r4 : List POper := [⟨(some k19), (.mov (.t k0)), none⟩,
  ⟨(some k20), (.mov (.t k5)), none⟩,
  ⟨(some k21), (.sliceS (.t k19) none (some (.t k20))), none⟩,
  ⟨(some k4), (.mov (.t k21)), none⟩]
def f122 : PFn := ⟨(.seq (.ops f122r0)
 (.seq (.ops f122r1)
 (.seq (.block 0 (.loop f122l0))
 (.seq (.ops f122r4)
 .ret)))),
 [.tmp k4]⟩
/- refuter/lexer.inWord -/
def f123r0 : List POper := [⟨(some k2), (.mov (.v (.bool false))), none⟩]
def f123r1 : List POper := [⟨(some k3), (.mov (.t k0)), none⟩,
  ⟨(some k4), (.callF 121 [(.t k3)]), none⟩,
  ⟨(some k5), (.mov (.t k4)), none⟩,
  ⟨(some k6), (.mov (.t k0)), (some (k5, false))⟩,
  ⟨(some k7), (.callF 126 [(.t k6)]), (some (k5, false))⟩,
  ⟨(some k8), (.pick (.t k5) (.v (.bool true)) (.t k7)), none⟩,
  ⟨(some k9), (.mov (.t k8)), none⟩,
  ⟨(some k10), (.mov (.t k0)), (some (k9, false))⟩,
  ⟨(some k11), (.bin .eql (.t k10) (.v (.int .u8 (.lit 95)))), (some (k9, false))⟩,
  ⟨(some k12), (.pick (.t k9) (.v (.bool true)) (.t k11)), none⟩,
  ⟨(some k2), (.mov (.t k12)), none⟩]
def f123 : PFn := ⟨(.seq (.ops f123r0)
 (.seq (.ops f123r1)
 .ret)),
 [.tmp k2]⟩
/- refuter/lexer.great -/
def f124r0 : List POper := [⟨(some k2), (.mov (.v (.bool false))), none⟩]
def f124r1 : List POper := [⟨(some k3), (.mov (.t k0)), none⟩,
  ⟨(some k4), (.bin .geq (.t k3) (.v (.int .u8 (.lit 65)))), none⟩,
  ⟨(some k5), (.mov (.t k4)), none⟩,
  ⟨(some k6), (.mov (.t k0)), (some (k5, true))⟩,
  ⟨(some k7), (.bin .leq (.t k6) (.v (.int .u8 (.lit 90)))), (some (k5, true))⟩,
  ⟨(some k8), (.pick (.t k5) (.t k7) (.v (.bool false))), none⟩,
  ⟨(some k2), (.mov (.t k8)), none⟩]
def f124 : PFn := ⟨(.seq (.ops f124r0)
 (.seq (.ops f124r1)
 .ret)),
 [.tmp k2]⟩
/- refuter/lexer.inCapital -/
def f125r0 : List POper := [⟨(some k2), (.mov (.v (.bool false))), none⟩]
def f125r1 : List POper := [⟨(some k3), (.mov (.t k0)), none⟩,
  ⟨(some k4), (.callF 123 [(.t k3)]), none⟩,
  ⟨(some k5), (.mov (.t k4)), none⟩,
  ⟨(some k6), (.mov (.t k0)), (some (k5, false))⟩,
  ⟨(some k7), (.callF 124 [(.t k6)]), (some (k5, false))⟩,
  ⟨(some k8), (.pick (.t k5) (.v (.bool true)) (.t k7)), none⟩,
  ⟨(some k2), (.mov (.t k8)), none⟩]
def f125 : PFn := ⟨(.seq (.ops f125r0)
 (.seq (.ops f125r1)
 .ret)),
 [.tmp k2]⟩
/- refuter/lexer.digit -/
def f126r0 : List POper := [⟨(some k2), (.mov (.v (.bool false))), none⟩]
def f126r1 : List POper := [⟨(some k3), (.mov (.t k0)), none⟩,
  ⟨(some k4), (.bin .geq (.t k3) (.v (.int .u8 (.lit 48)))), none⟩,
  ⟨(some k5), (.mov (.t k4)), none⟩,
  ⟨(some k6), (.mov (.t k0)), (some (k5, true))⟩,
  ⟨(some k7), (.bin .leq (.t k6) (.v (.int .u8 (.lit 57)))), (some (k5, true))⟩,
  ⟨(some k8), (.pick (.t k5) (.t k7) (.v (.bool false))), none⟩,
  ⟨(some k2), (.mov (.t k8)), none⟩]
def f126 : PFn := ⟨(.seq (.ops f126r0)
 (.seq (.ops f126r1)
 .ret)),
 [.tmp k2]⟩
/- refuter/lexer.number -/
def f127r0 : List POper := [⟨(some k2), (.mov (.v (.int .i64 (.lit 0)))), none⟩]
def f127r1 : List POper := [⟨(some k3), (.mov (.v (.int .i64 (.lit 0)))), none⟩]
def f127r2 : List POper := [⟨(some k4), (.mov (.v (.int .i64 (.lit 0)))), none⟩]
def f127r3 : List POper := [⟨(some k5), (.mov (.t k4)), none⟩,
  ⟨(some k6), (.mov (.t k0)), none⟩,
  ⟨(some k7), (.lenS (.t k6)), none⟩,
  ⟨(some k8), (.bin .lss (.t k5) (.t k7)), none⟩,
  ⟨(some k9), (.mov (.t k8)), none⟩,
  ⟨(some k10), (.mov (.t k3)), (some (k9, true))⟩,
  ⟨(some k11), (.bin .leq (.t k10) (.v (.int .i64 (.lit 1099511627776)))), (some (k9, true))⟩,
  ⟨(some k12), (.pick (.t k9) (.t k11) (.v (.bool false))), none⟩]
def f127r4 : List POper := [⟨(some k15), (.mov (.t k3)), none⟩,
  ⟨(some k16), (.bin .mul (.v (.int .i64 (.lit 10))) (.t k15)), none⟩,
  ⟨(some k17), (.mov (.t k0)), none⟩,
  ⟨(some k18), (.mov (.t k4)), none⟩,
  ⟨(some k19), (.indexS (.t k17) (.t k18)), none⟩,
  ⟨(some k20), (.bin .sub (.t k19) (.v (.int .u8 (.lit 48)))), none⟩,
  ⟨(some k21), (.cint .i64 (.t k20)), none⟩,
  ⟨(some k22), (.bin .add (.t k16) (.t k21)), none⟩,
  ⟨(some k3), (.mov (.t k22)), none⟩]
def f127r5 : List POper := [⟨(some k13), (.mov (.t k4)), none⟩,
  ⟨(some k14), (.bin .add (.t k13) (.v (.int .i64 (.lit 1)))), none⟩,
  ⟨(some k4), (.mov (.t k14)), none⟩]
def f127l0 : PCode := (.seq (.seq (.ops f127r3)
 (.cond (.t k12)
 .skip
 (.exit 0)))
 (.seq (.block 1 (.ops f127r4))
 (.ops f127r5)))
def f127r6 : List POper := [⟨(some k23), (.mov (.t k3)), none⟩,
  ⟨(some k2), (.mov (.t k23)), none⟩]
def f127 : PFn := ⟨(.seq (.ops f127r0)
 (.seq (.ops f127r1)
 (.seq (.seq (.ops f127r2)
 (.block 0 (.loop f127l0)))
 (.seq (.ops f127r6)
 .ret)))),
 [.tmp k2]⟩
/- refuter/lexer.symbol -/
def f128r0 : List POper := [⟨(some k2), (.mov (.v (.str 0 0))), none⟩]
def f128r1 : List POper := [⟨(some k4), (.mov (.v (.int .i64 (.lit 0)))), none⟩]
def f128r2 : List POper := [⟨(some k5), (.bin .lss (.t k4) (.v (.int .i64 (.lit 22)))), none⟩]
def f128r3 : List POper := [⟨(some k6), (.mov (.t k4)), none⟩,
  ⟨(some k3), (.mov (.t k6)), none⟩]
def f128r4 : List POper := [⟨(some k7), (.mov (.t k0)), none⟩,
  ⟨(some k8), (.mov (.t k3)), none⟩,
  ⟨(some k9), (.indexA 22 1 (.v (.ptr k1 0)) (.t k8)), none⟩,
  ⟨(some k10), (.load false 1 (.t k9)), none⟩,
  ⟨(some k11), (.callF 147 [(.t k7), (.t k10)]), none⟩]
def f128r5 : List POper := [⟨(some k12), (.mov (.t k3)), none⟩,
  ⟨(some k13), (.indexA 22 1 (.v (.ptr k1 0)) (.t k12)), none⟩,
  ⟨(some k14), (.load false 1 (.t k13)), none⟩,
  ⟨(some k2), (.mov (.t k14)), none⟩]
def f128r6 : List POper := [⟨(some k15), (.bin .add (.t k4) (.v (.int .i64 (.lit 1)))), none⟩,
  ⟨(some k4), (.mov (.t k15)), none⟩]
def f128l0 : PCode := (.seq (.ops f128r2)
 (.seq (.cond (.t k5)
 .skip
 (.exit 0))
 (.seq (.block 1 (.seq (.ops f128r3)
 (.seq (.ops f128r4)
 (.cond (.t k11)
 (.seq (.ops f128r5)
 .ret)
 .skip))))
 (.ops f128r6))))
def f128r7 : List POper := [⟨(some k2), (.mov (.v (.str 0 0))), none⟩]
def f128 : PFn := ⟨(.seq (.ops f128r0)
 (.seq (.seq (.ops f128r1)
 (.block 0 (.loop f128l0)))
 (.seq (.ops f128r7)
 .ret))),
 [.tmp k2]⟩
/- (*refuter/parser.reader).kind -/
def f129r0 : List POper := [⟨(some k4), (.mov (.v (.bool false))), none⟩]
def f129r1 : List SItem := [.L 0 ⟨(some k5), (.mov (.t k0)), none⟩,
  .L 1 ⟨(some k6), (.nilc (.t k5)), none⟩,
  .L 2 ⟨(some k7), (.fieldA 1 (.t k6)), none⟩,
  .L 3 ⟨(some k8), (.load false 1 (.t k7)), none⟩,
  .L 4 ⟨(some k9), (.mov (.t k0)), none⟩,
  .L 5 ⟨(some k10), (.nilc (.t k9)), none⟩,
  .L 6 ⟨(some k11), (.fieldA 0 (.t k10)), none⟩,
  .L 7 ⟨(some k12), (.load false 1 (.t k11)), none⟩,
  .L 8 ⟨(some k13), (.lenL (.t k12)), none⟩,
  .L 9 ⟨(some k14), (.bin .lss (.t k8) (.t k13)), none⟩,
  .L 10 ⟨(some k15), (.mov (.t k14)), none⟩,
  .L 11 ⟨(some k16), (.mov (.t k0)), (some (k15, true))⟩,
  .L 12 ⟨(some k17), (.nilc (.t k16)), (some (k15, true))⟩,
  .L 13 ⟨(some k18), (.fieldA 0 (.t k17)), (some (k15, true))⟩,
  .L 14 ⟨(some k19), (.load false 1 (.t k18)), (some (k15, true))⟩,
  .L 15 ⟨(some k20), (.mov (.t k0)), (some (k15, true))⟩,
  .L 16 ⟨(some k21), (.nilc (.t k20)), (some (k15, true))⟩,
  .L 17 ⟨(some k22), (.fieldA 1 (.t k21)), (some (k15, true))⟩,
  .L 18 ⟨(some k23), (.load false 1 (.t k22)), (some (k15, true))⟩,
  .L 19 ⟨(some k24), (.indexL 4 (.t k19) (.t k23)), (some (k15, true))⟩,
  .L 20 ⟨(some k25), (.fieldA 0 (.t k24)), (some (k15, true))⟩,
  .L 21 ⟨(some k26), (.load false 1 (.t k25)), (some (k15, true))⟩,
  .L 22 ⟨(some k27), (.mov (.t k1)), (some (k15, true))⟩,
  .L 23 ⟨(some k28), (.bin .eql (.t k26) (.t k27)), (some (k15, true))⟩,
  .L 24 ⟨(some k29), (.pick (.t k15) (.t k28) (.v (.bool false))), none⟩,
  .L 25 ⟨(some k4), (.mov (.t k29)), none⟩]
def f129 : PFn := ⟨(.seq (.ops f129r0)
 (.seq (.staged f129r1 ⟨[k5, k6, k7, k8, k9, k10, k11, k12, k13, k14, k15, k16, k17, k18, k19, k20, k21, k22, k23, k24, k25, k26, k27, k28, k29, k4], []⟩)
 .ret)),
 [.tmp k4]⟩
/- refuter/parser.some[refuter/api.Param] -/
def f130r0 : List POper := [⟨(some k6), (.mov (.v .nils)), none⟩]
def f130r1 : List POper := [⟨(some k8), (.mov (.t k2)), none⟩,
  ⟨(some k9), (.callV (.t k8) []), none⟩,
  ⟨(some k10), (.bslice 4 1 [(.str 0 0), (.int .i64 (.lit 0)), (.str 0 0), .nils] [(0, 4, (.t k9))]), none⟩,
  ⟨(some k7), (.mov (.t k10)), none⟩]
def f130r2 : List POper := [⟨(some k11), (.mov (.t k0)), none⟩,
  ⟨(some k12), (.mov (.t k1)), none⟩,
  ⟨(some k13), (.callF 34 [(.t k11), (.t k12)]), none⟩]
def f130r3 : List POper := [⟨(some k14), (.mov (.t k7)), none⟩,
  ⟨(some k15), (.mov (.t k2)), none⟩,
  ⟨(some k16), (.callV (.t k15) []), none⟩,
  ⟨(some k17), (.bslice 4 1 [(.str 0 0), (.int .i64 (.lit 0)), (.str 0 0), .nils] [(0, 4, (.t k16))]), none⟩,
  ⟨(some k18), (.append 4 (.t k14) (.t k17)), none⟩,
  ⟨(some k7), (.mov (.t k18)), none⟩]
def f130l0 : PCode := (.seq (.seq (.ops f130r2)
 (.cond (.t k13)
 .skip
 (.exit 0)))
 (.block 1 (.ops f130r3)))
def f130r4 : List POper := [⟨(some k19), (.mov (.t k7)), none⟩,
  ⟨(some k6), (.mov (.t k19)), none⟩]
def f130 : PFn := ⟨(.seq (.ops f130r0)
 (.seq (.ops f130r1)
 (.seq (.block 0 (.loop f130l0))
 (.seq (.ops f130r4)
 .ret)))),
 [.tmp k6]⟩
/- refuter/parser.some[string] -/
def f131r0 : List POper := [⟨(some k6), (.mov (.v .nils)), none⟩]
def f131r1 : List POper := [⟨(some k8), (.mov (.t k2)), none⟩,
  ⟨(some k9), (.callV (.t k8) []), none⟩,
  ⟨(some k10), (.bslice 1 1 [(.str 0 0)] [(0, 1, (.t k9))]), none⟩,
  ⟨(some k7), (.mov (.t k10)), none⟩]
def f131r2 : List POper := [⟨(some k11), (.mov (.t k0)), none⟩,
  ⟨(some k12), (.mov (.t k1)), none⟩,
  ⟨(some k13), (.callF 34 [(.t k11), (.t k12)]), none⟩]
def f131r3 : List POper := [⟨(some k14), (.mov (.t k7)), none⟩,
  ⟨(some k15), (.mov (.t k2)), none⟩,
  ⟨(some k16), (.callV (.t k15) []), none⟩,
  ⟨(some k17), (.bslice 1 1 [(.str 0 0)] [(0, 1, (.t k16))]), none⟩,
  ⟨(some k18), (.append 1 (.t k14) (.t k17)), none⟩,
  ⟨(some k7), (.mov (.t k18)), none⟩]
def f131l0 : PCode := (.seq (.seq (.ops f131r2)
 (.cond (.t k13)
 .skip
 (.exit 0)))
 (.block 1 (.ops f131r3)))
def f131r4 : List POper := [⟨(some k19), (.mov (.t k7)), none⟩,
  ⟨(some k6), (.mov (.t k19)), none⟩]
def f131 : PFn := ⟨(.seq (.ops f131r0)
 (.seq (.ops f131r1)
 (.seq (.block 0 (.loop f131l0))
 (.seq (.ops f131r4)
 .ret)))),
 [.tmp k6]⟩
/- (*refuter/parser.reader).grouped -/
def f132r0 : List POper := [⟨(some k6), (.new [(.int .i64 (.lit 0)), (.str 0 0), (.int .i64 (.lit 0)), .nils, .nils, .nils, (.int .i64 (.lit 0))]), none⟩]
def f132r1 : List POper := [⟨(some k10), (.mov (.t k0)), none⟩,
  ⟨(some k11), (.callF 32 [(.t k10)]), none⟩,
  ⟨(some k7), (.mov (.t k11)), none⟩]
def f132r2 : List POper := [⟨(some k12), (.mov (.t k1)), none⟩,
  ⟨(some k13), (.callV (.t k12) []), none⟩,
  ⟨(some k8), (.new [(.int .i64 (.lit 0)), (.str 0 0), (.int .i64 (.lit 0)), .nils, .nils, .nils, (.int .i64 (.lit 0))]), none⟩,
  ⟨none, (.store 7 (.t k8) (.t k13)), none⟩]
def f132r3 : List POper := [⟨(some k14), (.mov (.t k0)), none⟩,
  ⟨(some k15), (.mov (.t k2)), none⟩,
  ⟨(some k16), (.callF 148 [(.t k14), (.t k15)]), none⟩,
  ⟨(some k9), (.mov (.t k16)), none⟩]
def f132r4 : List POper := [⟨(some k17), (.mov (.t k9)), none⟩,
  ⟨(some k18), (.bin .eql (.t k17) (.v (.str 0 0))), none⟩]
def f132r5 : List POper := [⟨(some k19), (.load true 7 (.t k8)), none⟩,
  ⟨none, (.store 7 (.t k6) (.t k19)), none⟩]
def f132r6 : List SItem := [.L 0 ⟨(some k20), (.mov (.t k9)), none⟩,
  .L 1 ⟨(some k21), (.mov (.t k7)), none⟩,
  .L 2 ⟨(some k22), (.load true 7 (.t k8)), none⟩,
  .L 3 ⟨(some k23), (.mov (.t k1)), none⟩,
  .H 4 ⟨(some k24), (.callV (.t k23) []), none⟩ [],
  .R [(2, ⟨(some k22), (.load true 7 (.t k8)), none⟩)],
  .A 5 ⟨(some k25), (.bslice 7 2 [(.int .i64 (.lit 0)), (.str 0 0), (.int .i64 (.lit 0)), .nils, .nils, .nils, (.int .i64 (.lit 0))] [(0, 7, (.t k22)), (7, 7, (.t k24))]), none⟩,
  .L 6 ⟨(some k26), (.build [(.int .i64 (.lit 0)), (.str 0 0), (.int .i64 (.lit 0)), .nils, .nils, .nils, (.int .i64 (.lit 0))] [(0, 1, (.v (.int .i64 (.lit 9)))), (1, 1, (.t k20)), (6, 1, (.t k21)), (5, 1, (.t k25))]), none⟩,
  .H 7 ⟨none, (.store 7 (.t k8) (.t k26)), none⟩ [5],
  .R []]
def f132l0 : PCode := (.block 1 (.seq (.ops f132r3)
 (.seq (.seq (.ops f132r4)
 (.cond (.t k18)
 (.seq (.ops f132r5)
 .ret)
 .skip))
 (.staged f132r6 ⟨[k20, k21, k22, k23, k24, k25, k26], []⟩))))
def f132 : PFn := ⟨(.seq (.ops f132r0)
 (.seq (.ops f132r1)
 (.seq (.ops f132r2)
 (.block 0 (.loop f132l0))))),
 [.cell k6 true 7]⟩
/- (*refuter/parser.reader).and -/
def f133r0 : List POper := [⟨(some k2), (.new [(.int .i64 (.lit 0)), (.str 0 0), (.int .i64 (.lit 0)), .nils, .nils, .nils, (.int .i64 (.lit 0))]), none⟩]
def f133r1 : List POper := [⟨(some k3), (.mov (.t k0)), none⟩,
  ⟨(some k4), (.mov (.t k0)), none⟩,
  ⟨(some k5), (.mkfn 149 [(.t k4)] []), none⟩,
  ⟨(some k6), (.bslice 1 1 [(.str 0 0)] [(0, 1, (.v (.str 3 6581857)))]), none⟩,
  ⟨(some k7), (.callF 132 [(.t k3), (.t k5), (.t k6)]), none⟩,
  ⟨none, (.store 7 (.t k2) (.t k7)), none⟩]
def f133 : PFn := ⟨(.seq (.ops f133r0)
 (.seq (.ops f133r1)
 .ret)),
 [.cell k2 true 7]⟩
/- (*refuter/parser.reader).bounds -/
def f134r0 : List POper := [⟨(some k2), (.mov (.v .nils)), none⟩]
def f134r1 : List POper := [⟨(some k4), (.mov (.t k0)), none⟩,
  ⟨(some k5), (.callF 41 [(.t k4)]), none⟩,
  ⟨(some k3), (.new [(.int .i64 (.lit 0)), (.str 0 0), (.int .i64 (.lit 0)), .nils, .nils, .nils, (.int .i64 (.lit 0))]), none⟩,
  ⟨none, (.store 7 (.t k3) (.t k5)), none⟩]
def f134r2 : List POper := [⟨(some k6), (.mov (.t k0)), none⟩,
  ⟨(some k7), (.callF 36 [(.t k6), (.v (.str 2 11822))]), none⟩]
def f134r3 : List SItem := [.L 0 ⟨(some k8), (.load true 7 (.t k3)), none⟩,
  .L 1 ⟨(some k9), (.mov (.t k0)), none⟩,
  .H 2 ⟨(some k10), (.callF 41 [(.t k9)]), none⟩ [],
  .R [(0, ⟨(some k8), (.load true 7 (.t k3)), none⟩)],
  .A 3 ⟨(some k11), (.bslice 7 2 [(.int .i64 (.lit 0)), (.str 0 0), (.int .i64 (.lit 0)), .nils, .nils, .nils, (.int .i64 (.lit 0))] [(0, 7, (.t k8)), (7, 7, (.t k10))]), none⟩,
  .L 4 ⟨(some k2), (.mov (.t k11)), none⟩]
def f134 : PFn := ⟨(.seq (.ops f134r0)
 (.seq (.ops f134r1)
 (.seq (.ops f134r2)
 (.seq (.staged f134r3 ⟨[k8, k9, k10, k11, k2], []⟩)
 .ret)))),
 [.tmp k2]⟩
/- refuter/parser.list[refuter/api.Gen] -/
def f135r0 : List POper := [⟨(some k6), (.mov (.v .nils)), none⟩]
def f135r1 : List POper := [⟨(some k8), (.mov (.t k0)), none⟩,
  ⟨(some k9), (.mov (.t k1)), none⟩,
  ⟨(some k10), (.callF 34 [(.t k8), (.t k9)]), none⟩]
def f135r2 : List POper := [⟨(some k6), (.mov (.v .nils)), none⟩]
def f135r3 : List POper := [⟨(some k11), (.mov (.t k0)), none⟩,
  ⟨(some k12), (.mov (.t k2)), none⟩,
  ⟨(some k13), (.callF 150 [(.t k11), (.v (.str 1 44)), (.t k12)]), none⟩,
  ⟨(some k7), (.mov (.t k13)), none⟩]
def f135r4 : List POper := [⟨(some k14), (.mov (.t k0)), none⟩,
  ⟨(some k15), (.mov (.t k1)), none⟩,
  ⟨(some k16), (.callF 36 [(.t k14), (.t k15)]), none⟩]
def f135r5 : List POper := [⟨(some k17), (.mov (.t k7)), none⟩,
  ⟨(some k6), (.mov (.t k17)), none⟩]
def f135 : PFn := ⟨(.seq (.ops f135r0)
 (.seq (.seq (.ops f135r1)
 (.cond (.t k10)
 (.seq (.ops f135r2)
 .ret)
 .skip))
 (.seq (.ops f135r3)
 (.seq (.ops f135r4)
 (.seq (.ops f135r5)
 .ret))))),
 [.tmp k6]⟩
/- refuter/parser.list[refuter/api.Expr] -/
def f136r0 : List POper := [⟨(some k6), (.mov (.v .nils)), none⟩]
def f136r1 : List POper := [⟨(some k8), (.mov (.t k0)), none⟩,
  ⟨(some k9), (.mov (.t k1)), none⟩,
  ⟨(some k10), (.callF 34 [(.t k8), (.t k9)]), none⟩]
def f136r2 : List POper := [⟨(some k6), (.mov (.v .nils)), none⟩]
def f136r3 : List POper := [⟨(some k11), (.mov (.t k0)), none⟩,
  ⟨(some k12), (.mov (.t k2)), none⟩,
  ⟨(some k13), (.callF 151 [(.t k11), (.v (.str 1 44)), (.t k12)]), none⟩,
  ⟨(some k7), (.mov (.t k13)), none⟩]
def f136r4 : List POper := [⟨(some k14), (.mov (.t k0)), none⟩,
  ⟨(some k15), (.mov (.t k1)), none⟩,
  ⟨(some k16), (.callF 36 [(.t k14), (.t k15)]), none⟩]
def f136r5 : List POper := [⟨(some k17), (.mov (.t k7)), none⟩,
  ⟨(some k6), (.mov (.t k17)), none⟩]
def f136 : PFn := ⟨(.seq (.ops f136r0)
 (.seq (.seq (.ops f136r1)
 (.cond (.t k10)
 (.seq (.ops f136r2)
 .ret)
 .skip))
 (.seq (.ops f136r3)
 (.seq (.ops f136r4)
 (.seq (.ops f136r5)
 .ret))))),
 [.tmp k6]⟩
/- refuter/parser.some[refuter/api.Draw] -/
def f137r0 : List POper := [⟨(some k6), (.mov (.v .nils)), none⟩]
def f137r1 : List POper := [⟨(some k8), (.mov (.t k2)), none⟩,
  ⟨(some k9), (.callV (.t k8) []), none⟩,
  ⟨(some k10), (.bslice 11 1 [(.str 0 0), (.int .i64 (.lit 0)), (.str 0 0), .nils, (.int .i64 (.lit 0)), (.str 0 0), .nils, .nils, .nils, (.int .i64 (.lit 0)), (.bool false)] [(0, 11, (.t k9))]), none⟩,
  ⟨(some k7), (.mov (.t k10)), none⟩]
def f137r2 : List POper := [⟨(some k11), (.mov (.t k0)), none⟩,
  ⟨(some k12), (.mov (.t k1)), none⟩,
  ⟨(some k13), (.callF 34 [(.t k11), (.t k12)]), none⟩]
def f137r3 : List POper := [⟨(some k14), (.mov (.t k7)), none⟩,
  ⟨(some k15), (.mov (.t k2)), none⟩,
  ⟨(some k16), (.callV (.t k15) []), none⟩,
  ⟨(some k17), (.bslice 11 1 [(.str 0 0), (.int .i64 (.lit 0)), (.str 0 0), .nils, (.int .i64 (.lit 0)), (.str 0 0), .nils, .nils, .nils, (.int .i64 (.lit 0)), (.bool false)] [(0, 11, (.t k16))]), none⟩,
  ⟨(some k18), (.append 11 (.t k14) (.t k17)), none⟩,
  ⟨(some k7), (.mov (.t k18)), none⟩]
def f137l0 : PCode := (.seq (.seq (.ops f137r2)
 (.cond (.t k13)
 .skip
 (.exit 0)))
 (.block 1 (.ops f137r3)))
def f137r4 : List POper := [⟨(some k19), (.mov (.t k7)), none⟩,
  ⟨(some k6), (.mov (.t k19)), none⟩]
def f137 : PFn := ⟨(.seq (.ops f137r0)
 (.seq (.ops f137r1)
 (.seq (.block 0 (.loop f137l0))
 (.seq (.ops f137r4)
 .ret)))),
 [.tmp k6]⟩
/- (*refuter/parser.reader).drawn -/
def f138r0 : List POper := [⟨(some k2), (.new [(.str 0 0), (.int .i64 (.lit 0)), (.str 0 0), .nils, (.int .i64 (.lit 0)), (.str 0 0), .nils, .nils, .nils, (.int .i64 (.lit 0)), (.bool false)]), none⟩]
def f138r1 : List POper := [⟨(some k4), (.mov (.t k0)), none⟩,
  ⟨(some k5), (.callF 78 [(.t k4)]), none⟩,
  ⟨(some k3), (.new [(.str 0 0), (.int .i64 (.lit 0)), (.str 0 0), .nils]), none⟩,
  ⟨none, (.store 4 (.t k3) (.t k5)), none⟩]
def f138r2 : List POper := [⟨(some k6), (.mov (.t k0)), none⟩,
  ⟨(some k7), (.callF 36 [(.t k6), (.v (.str 2 11580))]), none⟩]
def f138r3 : List POper := [⟨(some k8), (.fieldA 0 (.t k3)), none⟩,
  ⟨(some k9), (.load false 1 (.t k8)), none⟩,
  ⟨(some k10), (.fieldA 1 (.t k3)), none⟩,
  ⟨(some k11), (.load true 3 (.t k10)), none⟩,
  ⟨(some k12), (.build [(.str 0 0), (.int .i64 (.lit 0)), (.str 0 0), .nils, (.int .i64 (.lit 0)), (.str 0 0), .nils, .nils, .nils, (.int .i64 (.lit 0)), (.bool false)] [(0, 1, (.t k9)), (1, 3, (.t k11))]), none⟩,
  ⟨none, (.store 11 (.t k2) (.t k12)), none⟩]
def f138 : PFn := ⟨(.seq (.ops f138r0)
 (.seq (.ops f138r1)
 (.seq (.ops f138r2)
 (.seq (.ops f138r3)
 .ret)))),
 [.cell k2 true 11]⟩
/- (*refuter/parser.checker).match -/
def f139r0 : List POper := [⟨(some k3), (.box (.t k1)), none⟩]
def f139r1 : List POper := [⟨(some k11), (.fieldA 5 (.t k3)), none⟩,
  ⟨(some k12), (.load false 1 (.t k11)), none⟩,
  ⟨(some k13), (.lenL (.t k12)), none⟩,
  ⟨(some k14), (.bin .sub (.t k13) (.v (.int .i64 (.lit 1)))), none⟩,
  ⟨(some k4), (.mov (.t k14)), none⟩]
def f139r2 : List POper := [⟨(some k15), (.mov (.t k0)), none⟩,
  ⟨(some k16), (.mov (.t k4)), none⟩,
  ⟨(some k17), (.callF 24 [(.t k15), (.t k16), (.v (.int .i64 (.lit 16)))]), none⟩]
def f139r3 : List POper := [⟨(some k18), (.mov (.t k0)), none⟩,
  ⟨(some k19), (.fieldA 1 (.t k3)), none⟩,
  ⟨(some k20), (.load false 1 (.t k19)), none⟩,
  ⟨(some k21), (.bin .eql (.t k20) (.v (.str 0 0))), none⟩,
  ⟨(some k22), (.mov (.t k21)), none⟩,
  ⟨(some k23), (.mov (.t k4)), (some (k22, true))⟩,
  ⟨(some k24), (.bin .geq (.t k23) (.v (.int .i64 (.lit 1)))), (some (k22, true))⟩,
  ⟨(some k25), (.pick (.t k22) (.t k24) (.v (.bool false))), none⟩,
  ⟨(some k26), (.mov (.t k25)), none⟩,
  ⟨(some k27), (.fieldA 3 (.t k3)), (some (k26, true))⟩,
  ⟨(some k28), (.load false 1 (.t k27)), (some (k26, true))⟩,
  ⟨(some k29), (.lenL (.t k28)), (some (k26, true))⟩,
  ⟨(some k30), (.mov (.t k4)), (some (k26, true))⟩,
  ⟨(some k31), (.bin .eql (.t k29) (.t k30)), (some (k26, true))⟩,
  ⟨(some k32), (.pick (.t k26) (.t k31) (.v (.bool false))), none⟩,
  ⟨(some k33), (.mov (.t k32)), none⟩,
  ⟨(some k34), (.fieldA 4 (.t k3)), (some (k33, true))⟩,
  ⟨(some k35), (.load false 1 (.t k34)), (some (k33, true))⟩,
  ⟨(some k36), (.lenL (.t k35)), (some (k33, true))⟩,
  ⟨(some k37), (.mov (.t k4)), (some (k33, true))⟩,
  ⟨(some k38), (.bin .eql (.t k36) (.t k37)), (some (k33, true))⟩,
  ⟨(some k39), (.pick (.t k33) (.t k38) (.v (.bool false))), none⟩,
  ⟨(some k40), (.callF 52 [(.t k18), (.t k39)]), none⟩]
def f139r4 : List POper := [⟨(some k41), (.fieldA 3 (.t k3)), none⟩,
  ⟨(some k42), (.load false 1 (.t k41)), none⟩,
  ⟨(some k43), (.lenL (.t k42)), none⟩,
  ⟨(some k44), (.mov (.v (.int .i64 (.lit 0)))), none⟩]
def f139r5 : List POper := [⟨(some k45), (.bin .lss (.t k44) (.t k43)), none⟩]
def f139r6 : List POper := [⟨(some k46), (.indexL 1 (.t k42) (.t k44)), none⟩,
  ⟨(some k47), (.load false 1 (.t k46)), none⟩,
  ⟨(some k6), (.mov (.t k47)), none⟩]
def f139r7 : List POper := [⟨(some k48), (.mov (.t k0)), none⟩,
  ⟨(some k49), (.mov (.t k6)), none⟩,
  ⟨(some k50), (.callF 51 [(.t k48), (.t k49)]), none⟩]
def f139r8 : List POper := [⟨(some k51), (.bin .add (.t k44) (.v (.int .i64 (.lit 1)))), none⟩,
  ⟨(some k44), (.mov (.t k51)), none⟩]
def f139l0 : PCode := (.seq (.ops f139r5)
 (.seq (.cond (.t k45)
 .skip
 (.exit 0))
 (.seq (.block 1 (.seq (.ops f139r6)
 (.ops f139r7)))
 (.ops f139r8))))
def f139r9 : List POper := [⟨(some k52), (.fieldA 4 (.t k3)), none⟩,
  ⟨(some k53), (.load false 1 (.t k52)), none⟩,
  ⟨(some k54), (.lenL (.t k53)), none⟩,
  ⟨(some k55), (.mov (.v (.int .i64 (.lit 0)))), none⟩]
def f139r10 : List POper := [⟨(some k56), (.bin .lss (.t k55) (.t k54)), none⟩]
def f139r11 : List POper := [⟨(some k57), (.indexL 1 (.t k53) (.t k55)), none⟩,
  ⟨(some k58), (.load false 1 (.t k57)), none⟩,
  ⟨(some k8), (.mov (.t k58)), none⟩]
def f139r12 : List POper := [⟨(some k59), (.mov (.t k0)), none⟩,
  ⟨(some k60), (.mov (.t k8)), none⟩,
  ⟨(some k61), (.lenL (.t k60)), none⟩,
  ⟨(some k62), (.callF 24 [(.t k59), (.t k61), (.v (.int .i64 (.lit 16)))]), none⟩]
def f139r13 : List POper := [⟨(some k63), (.mov (.t k8)), none⟩,
  ⟨(some k64), (.lenL (.t k63)), none⟩,
  ⟨(some k65), (.mov (.v (.int .i64 (.lit 0)))), none⟩]
def f139r14 : List POper := [⟨(some k66), (.bin .lss (.t k65) (.t k64)), none⟩]
def f139r15 : List POper := [⟨(some k67), (.indexL 1 (.t k63) (.t k65)), none⟩,
  ⟨(some k68), (.load false 1 (.t k67)), none⟩,
  ⟨(some k10), (.mov (.t k68)), none⟩]
def f139r16 : List POper := [⟨(some k69), (.mov (.t k0)), none⟩,
  ⟨(some k70), (.mov (.t k10)), none⟩,
  ⟨(some k71), (.callF 60 [(.t k69), (.t k70)]), none⟩]
def f139r17 : List POper := [⟨(some k72), (.bin .add (.t k65) (.v (.int .i64 (.lit 1)))), none⟩,
  ⟨(some k65), (.mov (.t k72)), none⟩]
def f139l2 : PCode := (.seq (.ops f139r14)
 (.seq (.cond (.t k66)
 .skip
 (.exit 4))
 (.seq (.block 5 (.seq (.ops f139r15)
 (.ops f139r16)))
 (.ops f139r17))))
def f139r18 : List POper := [⟨(some k73), (.bin .add (.t k55) (.v (.int .i64 (.lit 1)))), none⟩,
  ⟨(some k55), (.mov (.t k73)), none⟩]
def f139l1 : PCode := (.seq (.ops f139r10)
 (.seq (.cond (.t k56)
 .skip
 (.exit 2))
 (.seq (.block 3 (.seq (.ops f139r11)
 (.seq (.ops f139r12)
 (.seq (.ops f139r13)
 (.block 4 (.loop f139l2))))))
 (.ops f139r18))))
def f139 : PFn := ⟨(.seq (.ops f139r0)
 (.seq (.ops f139r1)
 (.seq (.ops f139r2)
 (.seq (.ops f139r3)
 (.seq (.seq (.ops f139r4)
 (.block 0 (.loop f139l0)))
 (.seq (.ops f139r9)
 (.block 2 (.loop f139l1)))))))),
 []⟩
/- refuter/parser.rank -/
def f140r0 : List POper := [⟨(some k2), (.mov (.v (.int .i64 (.lit 0)))), none⟩]
def f140r1 : List POper := [⟨(some k3), (.mov (.t k0)), none⟩]
def f140r2 : List POper := [⟨(some k5), (.bin .eql (.t k3) (.v (.str 2 29295))), none⟩,
  ⟨(some k4), (.mov (.t k5)), none⟩]
def f140r3 : List POper := [⟨(some k2), (.mov (.v (.int .i64 (.lit 1)))), none⟩]
def f140r4 : List POper := [⟨(some k7), (.bin .eql (.t k3) (.v (.str 3 6581857))), none⟩,
  ⟨(some k6), (.mov (.t k7)), none⟩]
def f140r5 : List POper := [⟨(some k2), (.mov (.v (.int .i64 (.lit 2)))), none⟩]
def f140r6 : List POper := [⟨(some k9), (.bin .eql (.t k3) (.v (.str 3 7630702))), none⟩,
  ⟨(some k8), (.mov (.t k9)), none⟩]
def f140r7 : List POper := [⟨(some k2), (.mov (.v (.int .i64 (.lit 3)))), none⟩]
def f140r8 : List POper := [⟨(some k11), (.bin .eql (.t k3) (.v (.str 2 15677))), none⟩,
  ⟨(some k10), (.mov (.t k11)), none⟩]
def f140r9 : List POper := [⟨(some k12), (.bin .eql (.t k3) (.v (.str 2 15649))), none⟩,
  ⟨(some k10), (.mov (.t k12)), none⟩]
def f140r10 : List POper := [⟨(some k13), (.bin .eql (.t k3) (.v (.str 1 60))), none⟩,
  ⟨(some k10), (.mov (.t k13)), none⟩]
def f140r11 : List POper := [⟨(some k14), (.bin .eql (.t k3) (.v (.str 2 15676))), none⟩,
  ⟨(some k10), (.mov (.t k14)), none⟩]
def f140r12 : List POper := [⟨(some k2), (.mov (.v (.int .i64 (.lit 4)))), none⟩]
def f140r13 : List POper := [⟨(some k16), (.bin .eql (.t k3) (.v (.str 1 43))), none⟩,
  ⟨(some k15), (.mov (.t k16)), none⟩]
def f140r14 : List POper := [⟨(some k17), (.bin .eql (.t k3) (.v (.str 1 45))), none⟩,
  ⟨(some k15), (.mov (.t k17)), none⟩]
def f140r15 : List POper := [⟨(some k2), (.mov (.v (.int .i64 (.lit 5)))), none⟩]
def f140r16 : List POper := [⟨(some k19), (.bin .eql (.t k3) (.v (.str 1 42))), none⟩,
  ⟨(some k18), (.mov (.t k19)), none⟩]
def f140r17 : List POper := [⟨(some k2), (.mov (.v (.int .i64 (.lit 6)))), none⟩]
def f140r18 : List POper := [⟨(some k2), (.mov (.v (.int .i64 (.lit 0)))), none⟩]
def f140 : PFn := ⟨(.seq (.ops f140r0)
 (.seq (.seq (.ops f140r1)
 (.block 0 (.seq (.ops f140r2)
 (.cond (.t k4)
 (.seq (.ops f140r3)
 .ret)
 (.seq (.ops f140r4)
 (.cond (.t k6)
 (.seq (.ops f140r5)
 .ret)
 (.seq (.ops f140r6)
 (.cond (.t k8)
 (.seq (.ops f140r7)
 .ret)
 (.seq (.seq (.ops f140r8)
 (.cond (.t k10)
 .skip
 (.seq (.ops f140r9)
 (.cond (.t k10)
 .skip
 (.seq (.ops f140r10)
 (.cond (.t k10)
 .skip
 (.ops f140r11)))))))
 (.cond (.t k10)
 (.seq (.ops f140r12)
 .ret)
 (.seq (.seq (.ops f140r13)
 (.cond (.t k15)
 .skip
 (.ops f140r14)))
 (.cond (.t k15)
 (.seq (.ops f140r15)
 .ret)
 (.seq (.ops f140r16)
 (.cond (.t k18)
 (.seq (.ops f140r17)
 .ret)
 .skip))))))))))))))
 (.seq (.ops f140r18)
 .ret))),
 [.tmp k2]⟩
/- refuter/eval.element -/
def f141r0 : List POper := [⟨(some k2), (.mov (.v .nils)), none⟩,
  ⟨(some k3), (.mov (.v (.int .i64 (.lit 0)))), none⟩]
def f141r1 : List SItem := [.L 0 ⟨(some k6), (.mov (.t k0)), none⟩,
  .L 1 ⟨(some k7), (.indexL 5 (.t k6) (.v (.int .i64 (.lit 0)))), none⟩,
  .L 2 ⟨(some k8), (.load true 5 (.t k7)), none⟩,
  .L 4 ⟨(some k10), (.mov (.t k0)), none⟩,
  .L 5 ⟨(some k11), (.indexL 5 (.t k10) (.v (.int .i64 (.lit 1)))), none⟩,
  .L 6 ⟨(some k12), (.load true 5 (.t k11)), none⟩,
  .H 3 ⟨(some k9), (.callF 99 [(.t k8)]), none⟩ [],
  .R [(6, ⟨(some k12), (.load true 5 (.t k11)), none⟩)],
  .H 7 ⟨(some k13), (.callF 142 [(.t k12)]), none⟩ [],
  .R [],
  .L 8 ⟨(some k4), (.mov (.t k9)), none⟩,
  .L 9 ⟨(some k5), (.mov (.t k13)), none⟩]
def f141r2 : List POper := [⟨(some k14), (.mov (.t k5)), none⟩,
  ⟨(some k15), (.bin .lss (.t k14) (.v (.int .i64 (.lit 0)))), none⟩,
  ⟨(some k16), (.mov (.t k15)), none⟩,
  ⟨(some k17), (.mov (.t k5)), (some (k16, false))⟩,
  ⟨(some k18), (.mov (.t k4)), (some (k16, false))⟩,
  ⟨(some k19), (.lenL (.t k18)), (some (k16, false))⟩,
  ⟨(some k20), (.bin .geq (.t k17) (.t k19)), (some (k16, false))⟩,
  ⟨(some k21), (.pick (.t k16) (.v (.bool true)) (.t k20)), none⟩]
def f141r3 : List POper := [⟨(some k22), (.callF 67 [(.v (.int .i64 (.lit 13)))]), none⟩]
def f141r4 : List POper := [⟨(some k23), (.mov (.t k4)), none⟩,
  ⟨(some k24), (.mov (.t k5)), none⟩,
  ⟨(some k2), (.mov (.t k23)), none⟩,
  ⟨(some k3), (.mov (.t k24)), none⟩]
def f141 : PFn := ⟨(.seq (.ops f141r0)
 (.seq (.staged f141r1 ⟨[k6, k7, k8, k9, k10, k11, k12, k13, k4, k5], []⟩)
 (.seq (.seq (.ops f141r2)
 (.cond (.t k21)
 (.ops f141r3)
 .skip))
 (.seq (.ops f141r4)
 .ret)))),
 [.tmp k2, .tmp k3]⟩
/- refuter/eval.integer -/
def f142r0 : List POper := [⟨(some k1), (.box (.t k0)), none⟩,
  ⟨(some k2), (.mov (.v (.int .i64 (.lit 0)))), none⟩]
def f142r1 : List POper := [⟨(some k3), (.fieldA 0 (.t k1)), none⟩,
  ⟨(some k4), (.fieldA 0 (.t k3)), none⟩,
  ⟨(some k5), (.load false 1 (.t k4)), none⟩,
  ⟨(some k6), (.bin .eql (.t k5) (.v (.int .i64 (.lit 0)))), none⟩,
  ⟨(some k7), (.callF 113 [(.t k6)]), none⟩]
def f142r2 : List POper := [⟨(some k8), (.fieldA 0 (.t k1)), none⟩,
  ⟨(some k9), (.fieldA 1 (.t k8)), none⟩,
  ⟨(some k10), (.load false 1 (.t k9)), none⟩,
  ⟨(some k2), (.mov (.t k10)), none⟩]
def f142 : PFn := ⟨(.seq (.ops f142r0)
 (.seq (.ops f142r1)
 (.seq (.ops f142r2)
 .ret))),
 [.tmp k2]⟩
/- refuter/eval.Flip -/
def f143r0 : List POper := [⟨(some k3), (.box (.t k0)), none⟩,
  ⟨(some k6), (.mov (.v (.int .i64 (.lit 0)))), none⟩]
def f143r1 : List POper := [⟨(some k7), (.mov (.t k2)), none⟩,
  ⟨(some k8), (.bin .lss (.t k7) (.v (.int .i64 (.lit 1)))), none⟩]
def f143r2 : List POper := [⟨(some k6), (.mov (.v (.int .i64 (.lit 0)))), none⟩]
def f143r3 : List POper := [⟨(some k9), (.fieldA 0 (.t k3)), none⟩,
  ⟨(some k10), (.load false 1 (.t k9)), none⟩,
  ⟨(some k11), (.fieldA 1 (.t k3)), none⟩,
  ⟨(some k12), (.load false 1 (.t k11)), none⟩,
  ⟨(some k13), (.mov (.t k1)), none⟩,
  ⟨(some k14), (.bslice 1 3 [(.int .i64 (.lit 0))] [(0, 1, (.t k10)), (1, 1, (.t k12)), (2, 1, (.t k13))]), none⟩,
  ⟨(some k15), (.callF 152 [(.v (.str 4 1885957222)), (.t k14)]), none⟩,
  ⟨(some k16), (.mov (.t k2)), none⟩,
  ⟨(some k17), (.cint .u64 (.t k16)), none⟩,
  ⟨(some k18), (.bin .rem (.t k15) (.t k17)), none⟩,
  ⟨(some k19), (.cint .i64 (.t k18)), none⟩,
  ⟨(some k6), (.mov (.t k19)), none⟩]
def f143 : PFn := ⟨(.seq (.ops f143r0)
 (.seq (.seq (.ops f143r1)
 (.cond (.t k8)
 (.seq (.ops f143r2)
 .ret)
 .skip))
 (.seq (.ops f143r3)
 .ret))),
 [.tmp k6]⟩
/- refuter/values.visit$1 -/
def f144r0 : List POper := [⟨(some k4), (.box (.t k0)), none⟩,
  ⟨(some k6), (.mov (.v (.bool false))), none⟩]
def f144r1 : List POper := [⟨(some k9), (.load false 1 (.t k2)), none⟩,
  ⟨(some k10), (.load true 4 (.t k4)), none⟩,
  ⟨(some k11), (.mov (.t k1)), none⟩,
  ⟨(some k12), (.callV (.t k9) [(.t k10), (.t k11)]), none⟩,
  ⟨(some k13), (.un .not (.t k12)), none⟩]
def f144r2 : List POper := [⟨(some k6), (.mov (.v (.bool false))), none⟩]
def f144r3 : List POper := [⟨(some k14), (.fieldA 3 (.t k4)), none⟩,
  ⟨(some k15), (.load false 1 (.t k14)), none⟩,
  ⟨(some k16), (.lenL (.t k15)), none⟩,
  ⟨(some k17), (.mov (.v (.int .i64 (.lit 0)))), none⟩]
def f144r4 : List POper := [⟨(some k18), (.bin .lss (.t k17) (.t k16)), none⟩]
def f144r5 : List POper := [⟨(some k19), (.indexL 4 (.t k15) (.t k17)), none⟩,
  ⟨(some k20), (.load true 4 (.t k19)), none⟩,
  ⟨(some k8), (.new [(.int .i64 (.lit 0)), (.int .i64 (.lit 0)), (.str 0 0), .nils]), none⟩,
  ⟨none, (.store 4 (.t k8) (.t k20)), none⟩]
def f144r6 : List POper := [⟨(some k21), (.load false 1 (.t k3)), none⟩,
  ⟨(some k22), (.load true 4 (.t k8)), none⟩,
  ⟨(some k23), (.mov (.t k1)), none⟩,
  ⟨(some k24), (.bin .add (.t k23) (.v (.int .i64 (.lit 1)))), none⟩,
  ⟨(some k25), (.callV (.t k21) [(.t k22), (.t k24)]), none⟩,
  ⟨(some k26), (.un .not (.t k25)), none⟩]
def f144r7 : List POper := [⟨(some k6), (.mov (.v (.bool false))), none⟩]
def f144r8 : List POper := [⟨(some k27), (.bin .add (.t k17) (.v (.int .i64 (.lit 1)))), none⟩,
  ⟨(some k17), (.mov (.t k27)), none⟩]
def f144l0 : PCode := (.seq (.ops f144r4)
 (.seq (.cond (.t k18)
 .skip
 (.exit 0))
 (.seq (.block 1 (.seq (.ops f144r5)
 (.seq (.ops f144r6)
 (.cond (.t k26)
 (.seq (.ops f144r7)
 .ret)
 .skip))))
 (.ops f144r8))))
def f144r9 : List POper := [⟨(some k6), (.mov (.v (.bool true))), none⟩]
def f144 : PFn := ⟨(.seq (.ops f144r0)
 (.seq (.seq (.ops f144r1)
 (.cond (.t k13)
 (.seq (.ops f144r2)
 .ret)
 .skip))
 (.seq (.seq (.ops f144r3)
 (.block 0 (.loop f144l0)))
 (.seq (.ops f144r9)
 .ret)))),
 [.tmp k6]⟩
/- (*refuter/eval.run).call -/
def f145r0 : List POper := [⟨(some k6), (.new [(.int .i64 (.lit 0)), (.int .i64 (.lit 0)), (.str 0 0), .nils, (.int .i64 (.lit 0))]), none⟩]
def f145r1 : List POper := [⟨(some k11), (.mov (.t k0)), none⟩,
  ⟨(some k12), (.nilc (.t k11)), none⟩,
  ⟨(some k13), (.fieldA 10 (.t k12)), none⟩,
  ⟨(some k14), (.load false 1 (.t k13)), none⟩,
  ⟨(some k15), (.bin .geq (.t k14) (.v (.int .i64 (.lit 256)))), none⟩]
def f145r2 : List POper := [⟨(some k16), (.callF 67 [(.v (.int .i64 (.lit 15)))]), none⟩]
def f145r3 : List POper := [⟨(some k7), (.mov (.v .nilp)), none⟩]
def f145r4 : List POper := [⟨(some k17), (.mov (.t k1)), none⟩,
  ⟨(some k18), (.nilc (.t k17)), none⟩,
  ⟨(some k19), (.fieldA 4 (.t k18)), none⟩,
  ⟨(some k20), (.load false 1 (.t k19)), none⟩,
  ⟨(some k21), (.lenL (.t k20)), none⟩,
  ⟨(some k22), (.mov (.v (.int .i64 (.lit 0)))), none⟩]
def f145r5 : List POper := [⟨(some k23), (.bin .lss (.t k22) (.t k21)), none⟩]
def f145r6 : List POper := [⟨(some k24), (.mov (.t k22)), none⟩,
  ⟨(some k25), (.indexL 4 (.t k20) (.t k22)), none⟩,
  ⟨(some k26), (.load true 4 (.t k25)), none⟩,
  ⟨(some k9), (.new [(.str 0 0), (.int .i64 (.lit 0)), (.str 0 0), .nils]), none⟩,
  ⟨(some k8), (.mov (.t k24)), none⟩,
  ⟨none, (.store 4 (.t k9) (.t k26)), none⟩]
def f145r7 : List SItem := [.L 0 ⟨(some k27), (.fieldA 0 (.t k9)), none⟩,
  .L 1 ⟨(some k28), (.load false 1 (.t k27)), none⟩,
  .L 2 ⟨(some k29), (.mov (.t k2)), none⟩,
  .L 3 ⟨(some k30), (.mov (.t k8)), none⟩,
  .L 4 ⟨(some k31), (.indexL 5 (.t k29) (.t k30)), none⟩,
  .L 5 ⟨(some k32), (.load true 5 (.t k31)), none⟩,
  .L 6 ⟨(some k33), (.mov (.t k7)), none⟩,
  .L 7 ⟨(some k34), (.build [(.str 0 0), (.int .i64 (.lit 0)), (.int .i64 (.lit 0)), (.str 0 0), .nils, (.int .i64 (.lit 0)), .nilp] [(0, 1, (.t k28)), (1, 5, (.t k32)), (6, 1, (.t k33))]), none⟩,
  .A 8 ⟨(some k35), (.box (.t k34)), none⟩,
  .L 9 ⟨(some k7), (.mov (.t k35)), none⟩]
def f145r8 : List POper := [⟨(some k36), (.bin .add (.t k22) (.v (.int .i64 (.lit 1)))), none⟩,
  ⟨(some k22), (.mov (.t k36)), none⟩]
def f145l0 : PCode := (.seq (.ops f145r5)
 (.seq (.cond (.t k23)
 .skip
 (.exit 0))
 (.seq (.block 1 (.seq (.ops f145r6)
 (.staged f145r7 ⟨[k27, k28, k29, k30, k31, k32, k33, k34, k35, k7], []⟩)))
 (.ops f145r8))))
def f145r9 : List POper := [⟨(some k37), (.mov (.t k0)), none⟩,
  ⟨(some k38), (.nilc (.t k37)), none⟩,
  ⟨(some k39), (.fieldA 10 (.t k38)), none⟩,
  ⟨(some k40), (.load false 1 (.t k39)), none⟩,
  ⟨(some k41), (.bin .add (.t k40) (.v (.int .i64 (.lit 1)))), none⟩,
  ⟨(some k42), (.nilc (.t k37)), none⟩,
  ⟨(some k43), (.fieldA 10 (.t k42)), none⟩,
  ⟨none, (.store 1 (.t k43) (.t k41)), none⟩]
def f145r10 : List SItem := [.L 0 ⟨(some k44), (.mov (.t k0)), none⟩,
  .L 1 ⟨(some k45), (.mov (.t k1)), none⟩,
  .L 2 ⟨(some k46), (.nilc (.t k45)), none⟩,
  .L 3 ⟨(some k47), (.fieldA 1 (.t k46)), none⟩,
  .L 4 ⟨(some k48), (.load false 1 (.t k47)), none⟩,
  .L 5 ⟨(some k49), (.mov (.t k7)), none⟩,
  .L 6 ⟨(some k50), (.mov (.t k1)), none⟩,
  .L 7 ⟨(some k51), (.nilc (.t k50)), none⟩,
  .L 8 ⟨(some k52), (.fieldA 8 (.t k51)), none⟩,
  .A 10 ⟨(some k10), (.new [(.int .i64 (.lit 0)), (.int .i64 (.lit 0)), (.str 0 0), .nils, (.int .i64 (.lit 0))]), none⟩,
  .H 9 ⟨(some k53), (.callF 30 [(.t k44), (.t k48), (.t k49), (.t k52)]), none⟩ [],
  .R [],
  .H 11 ⟨none, (.store 5 (.t k10) (.t k53)), none⟩ [10],
  .R []]
def f145r11 : List POper := [⟨(some k54), (.mov (.t k0)), none⟩,
  ⟨(some k55), (.nilc (.t k54)), none⟩,
  ⟨(some k56), (.fieldA 10 (.t k55)), none⟩,
  ⟨(some k57), (.load false 1 (.t k56)), none⟩,
  ⟨(some k58), (.bin .sub (.t k57) (.v (.int .i64 (.lit 1)))), none⟩,
  ⟨(some k59), (.nilc (.t k54)), none⟩,
  ⟨(some k60), (.fieldA 10 (.t k59)), none⟩,
  ⟨none, (.store 1 (.t k60) (.t k58)), none⟩]
def f145r12 : List POper := [⟨(some k61), (.load true 5 (.t k10)), none⟩,
  ⟨none, (.store 5 (.t k6) (.t k61)), none⟩]
def f145 : PFn := ⟨(.seq (.ops f145r0)
 (.seq (.seq (.ops f145r1)
 (.cond (.t k15)
 (.ops f145r2)
 .skip))
 (.seq (.ops f145r3)
 (.seq (.seq (.ops f145r4)
 (.block 0 (.loop f145l0)))
 (.seq (.ops f145r9)
 (.seq (.staged f145r10 ⟨[k44, k45, k46, k47, k48, k49, k50, k51, k52, k53, k10], []⟩)
 (.seq (.ops f145r11)
 (.seq (.ops f145r12)
 .ret)))))))),
 [.cell k6 true 5]⟩
/- refuter/values.Compare -/
def f146r0 : List POper := [⟨(some k2), (.box (.t k0)), none⟩,
  ⟨(some k3), (.box (.t k1)), none⟩,
  ⟨(some k4), (.mov (.v (.int .i64 (.lit 0)))), none⟩]
def f146r1 : List POper := [⟨(some k8), (.fieldA 0 (.t k2)), none⟩,
  ⟨(some k9), (.load false 1 (.t k8)), none⟩,
  ⟨(some k10), (.fieldA 0 (.t k3)), none⟩,
  ⟨(some k11), (.load false 1 (.t k10)), none⟩,
  ⟨(some k12), (.callF 153 [(.t k9), (.t k11)]), none⟩,
  ⟨(some k5), (.mov (.t k12)), none⟩]
def f146r2 : List POper := [⟨(some k13), (.mov (.t k5)), none⟩,
  ⟨(some k14), (.bin .neq (.t k13) (.v (.int .i64 (.lit 0)))), none⟩]
def f146r3 : List POper := [⟨(some k15), (.mov (.t k5)), none⟩,
  ⟨(some k4), (.mov (.t k15)), none⟩]
def f146r4 : List POper := [⟨(some k16), (.fieldA 1 (.t k2)), none⟩,
  ⟨(some k17), (.load false 1 (.t k16)), none⟩,
  ⟨(some k18), (.fieldA 1 (.t k3)), none⟩,
  ⟨(some k19), (.load false 1 (.t k18)), none⟩,
  ⟨(some k20), (.callF 153 [(.t k17), (.t k19)]), none⟩,
  ⟨(some k6), (.mov (.t k20)), none⟩]
def f146r5 : List POper := [⟨(some k21), (.mov (.t k6)), none⟩,
  ⟨(some k22), (.bin .neq (.t k21) (.v (.int .i64 (.lit 0)))), none⟩]
def f146r6 : List POper := [⟨(some k23), (.mov (.t k6)), none⟩,
  ⟨(some k4), (.mov (.t k23)), none⟩]
def f146r7 : List POper := [⟨(some k24), (.fieldA 2 (.t k2)), none⟩,
  ⟨(some k25), (.load false 1 (.t k24)), none⟩,
  ⟨(some k26), (.fieldA 2 (.t k3)), none⟩,
  ⟨(some k27), (.load false 1 (.t k26)), none⟩,
  ⟨(some k28), (.callF 154 [(.t k25), (.t k27)]), none⟩,
  ⟨(some k7), (.mov (.t k28)), none⟩]
def f146r8 : List POper := [⟨(some k29), (.mov (.t k7)), none⟩,
  ⟨(some k30), (.bin .neq (.t k29) (.v (.int .i64 (.lit 0)))), none⟩]
def f146r9 : List POper := [⟨(some k31), (.mov (.t k7)), none⟩,
  ⟨(some k4), (.mov (.t k31)), none⟩]
def f146r10 : List POper := [⟨(some k32), (.fieldA 3 (.t k2)), none⟩,
  ⟨(some k33), (.load false 1 (.t k32)), none⟩,
  ⟨(some k34), (.fieldA 3 (.t k3)), none⟩,
  ⟨(some k35), (.load false 1 (.t k34)), none⟩,
  ⟨(some k36), (.callF 155 [(.t k33), (.t k35), (.v (.fn 146 [] []))]), none⟩,
  ⟨(some k4), (.mov (.t k36)), none⟩]
def f146 : PFn := ⟨(.seq (.ops f146r0)
 (.seq (.seq (.ops f146r1)
 (.seq (.ops f146r2)
 (.cond (.t k14)
 (.seq (.ops f146r3)
 .ret)
 .skip)))
 (.seq (.seq (.ops f146r4)
 (.seq (.ops f146r5)
 (.cond (.t k22)
 (.seq (.ops f146r6)
 .ret)
 .skip)))
 (.seq (.seq (.ops f146r7)
 (.seq (.ops f146r8)
 (.cond (.t k30)
 (.seq (.ops f146r9)
 .ret)
 .skip)))
 (.seq (.ops f146r10)
 .ret))))),
 [.tmp k4]⟩
/- strings.HasPrefix -/
def f147r0 : List POper := [⟨(some k4), (.mov (.v (.bool false))), none⟩]
def f147r1 : List POper := [⟨(some k5), (.mov (.t k0)), none⟩,
  ⟨(some k6), (.mov (.t k1)), none⟩,
  ⟨(some k7), (.callF 156 [(.t k5), (.t k6)]), none⟩,
  ⟨(some k4), (.mov (.t k7)), none⟩]
def f147 : PFn := ⟨(.seq (.ops f147r0)
 (.seq (.ops f147r1)
 .ret)),
 [.tmp k4]⟩
/- (*refuter/parser.reader).operator -/
def f148r0 : List POper := [⟨(some k4), (.mov (.v (.str 0 0))), none⟩]
def f148r1 : List POper := [⟨(some k7), (.mov (.t k1)), none⟩,
  ⟨(some k8), (.lenL (.t k7)), none⟩,
  ⟨(some k9), (.mov (.v (.int .i64 (.lit 0)))), none⟩]
def f148r2 : List POper := [⟨(some k10), (.bin .lss (.t k9) (.t k8)), none⟩]
def f148r3 : List POper := [⟨(some k11), (.indexL 1 (.t k7) (.t k9)), none⟩,
  ⟨(some k12), (.load false 1 (.t k11)), none⟩,
  ⟨(some k6), (.mov (.t k12)), none⟩]
def f148r4 : List POper := [⟨(some k13), (.mov (.t k0)), none⟩,
  ⟨(some k14), (.mov (.t k6)), none⟩,
  ⟨(some k15), (.callF 34 [(.t k13), (.t k14)]), none⟩]
def f148r5 : List POper := [⟨(some k16), (.mov (.t k6)), none⟩,
  ⟨(some k4), (.mov (.t k16)), none⟩]
def f148r6 : List POper := [⟨(some k17), (.bin .add (.t k9) (.v (.int .i64 (.lit 1)))), none⟩,
  ⟨(some k9), (.mov (.t k17)), none⟩]
def f148l0 : PCode := (.seq (.ops f148r2)
 (.seq (.cond (.t k10)
 .skip
 (.exit 0))
 (.seq (.block 1 (.seq (.ops f148r3)
 (.seq (.ops f148r4)
 (.cond (.t k15)
 (.seq (.ops f148r5)
 .ret)
 .skip))))
 (.ops f148r6))))
def f148r7 : List POper := [⟨(some k4), (.mov (.v (.str 0 0))), none⟩]
def f148 : PFn := ⟨(.seq (.ops f148r0)
 (.seq (.seq (.ops f148r1)
 (.block 0 (.loop f148l0)))
 (.seq (.ops f148r7)
 .ret))),
 [.tmp k4]⟩
/- (*refuter/parser.reader).not -/
def f149r0 : List POper := [⟨(some k2), (.new [(.int .i64 (.lit 0)), (.str 0 0), (.int .i64 (.lit 0)), .nils, .nils, .nils, (.int .i64 (.lit 0))]), none⟩]
def f149r1 : List POper := [⟨(some k4), (.mov (.t k0)), none⟩,
  ⟨(some k5), (.callF 32 [(.t k4)]), none⟩,
  ⟨(some k3), (.mov (.t k5)), none⟩]
def f149r2 : List POper := [⟨(some k6), (.mov (.t k0)), none⟩,
  ⟨(some k7), (.callF 34 [(.t k6), (.v (.str 3 7630702))]), none⟩]
def f149r3 : List POper := [⟨(some k8), (.mov (.t k3)), none⟩,
  ⟨(some k9), (.mov (.t k0)), none⟩,
  ⟨(some k10), (.callF 149 [(.t k9)]), none⟩,
  ⟨(some k11), (.bslice 7 1 [(.int .i64 (.lit 0)), (.str 0 0), (.int .i64 (.lit 0)), .nils, .nils, .nils, (.int .i64 (.lit 0))] [(0, 7, (.t k10))]), none⟩,
  ⟨(some k12), (.build [(.int .i64 (.lit 0)), (.str 0 0), (.int .i64 (.lit 0)), .nils, .nils, .nils, (.int .i64 (.lit 0))] [(0, 1, (.v (.int .i64 (.lit 9)))), (1, 1, (.v (.str 3 7630702))), (6, 1, (.t k8)), (5, 1, (.t k11))]), none⟩,
  ⟨none, (.store 7 (.t k2) (.t k12)), none⟩]
def f149r4 : List POper := [⟨(some k13), (.mov (.t k0)), none⟩,
  ⟨(some k14), (.callF 157 [(.t k13)]), none⟩,
  ⟨none, (.store 7 (.t k2) (.t k14)), none⟩]
def f149 : PFn := ⟨(.seq (.ops f149r0)
 (.seq (.ops f149r1)
 (.seq (.seq (.ops f149r2)
 (.cond (.t k7)
 (.seq (.ops f149r3)
 .ret)
 .skip))
 (.seq (.ops f149r4)
 .ret)))),
 [.cell k2 true 7]⟩
/- refuter/parser.some[refuter/api.Gen] -/
def f150r0 : List POper := [⟨(some k6), (.mov (.v .nils)), none⟩]
def f150r1 : List POper := [⟨(some k8), (.mov (.t k2)), none⟩,
  ⟨(some k9), (.callV (.t k8) []), none⟩,
  ⟨(some k10), (.bslice 6 1 [(.int .i64 (.lit 0)), (.str 0 0), .nils, .nils, .nils, (.int .i64 (.lit 0))] [(0, 6, (.t k9))]), none⟩,
  ⟨(some k7), (.mov (.t k10)), none⟩]
def f150r2 : List POper := [⟨(some k11), (.mov (.t k0)), none⟩,
  ⟨(some k12), (.mov (.t k1)), none⟩,
  ⟨(some k13), (.callF 34 [(.t k11), (.t k12)]), none⟩]
def f150r3 : List POper := [⟨(some k14), (.mov (.t k7)), none⟩,
  ⟨(some k15), (.mov (.t k2)), none⟩,
  ⟨(some k16), (.callV (.t k15) []), none⟩,
  ⟨(some k17), (.bslice 6 1 [(.int .i64 (.lit 0)), (.str 0 0), .nils, .nils, .nils, (.int .i64 (.lit 0))] [(0, 6, (.t k16))]), none⟩,
  ⟨(some k18), (.append 6 (.t k14) (.t k17)), none⟩,
  ⟨(some k7), (.mov (.t k18)), none⟩]
def f150l0 : PCode := (.seq (.seq (.ops f150r2)
 (.cond (.t k13)
 .skip
 (.exit 0)))
 (.block 1 (.ops f150r3)))
def f150r4 : List POper := [⟨(some k19), (.mov (.t k7)), none⟩,
  ⟨(some k6), (.mov (.t k19)), none⟩]
def f150 : PFn := ⟨(.seq (.ops f150r0)
 (.seq (.ops f150r1)
 (.seq (.block 0 (.loop f150l0))
 (.seq (.ops f150r4)
 .ret)))),
 [.tmp k6]⟩
/- refuter/parser.some[refuter/api.Expr] -/
def f151r0 : List POper := [⟨(some k6), (.mov (.v .nils)), none⟩]
def f151r1 : List POper := [⟨(some k8), (.mov (.t k2)), none⟩,
  ⟨(some k9), (.callV (.t k8) []), none⟩,
  ⟨(some k10), (.bslice 7 1 [(.int .i64 (.lit 0)), (.str 0 0), (.int .i64 (.lit 0)), .nils, .nils, .nils, (.int .i64 (.lit 0))] [(0, 7, (.t k9))]), none⟩,
  ⟨(some k7), (.mov (.t k10)), none⟩]
def f151r2 : List POper := [⟨(some k11), (.mov (.t k0)), none⟩,
  ⟨(some k12), (.mov (.t k1)), none⟩,
  ⟨(some k13), (.callF 34 [(.t k11), (.t k12)]), none⟩]
def f151r3 : List POper := [⟨(some k14), (.mov (.t k7)), none⟩,
  ⟨(some k15), (.mov (.t k2)), none⟩,
  ⟨(some k16), (.callV (.t k15) []), none⟩,
  ⟨(some k17), (.bslice 7 1 [(.int .i64 (.lit 0)), (.str 0 0), (.int .i64 (.lit 0)), .nils, .nils, .nils, (.int .i64 (.lit 0))] [(0, 7, (.t k16))]), none⟩,
  ⟨(some k18), (.append 7 (.t k14) (.t k17)), none⟩,
  ⟨(some k7), (.mov (.t k18)), none⟩]
def f151l0 : PCode := (.seq (.seq (.ops f151r2)
 (.cond (.t k13)
 .skip
 (.exit 0)))
 (.block 1 (.ops f151r3)))
def f151r4 : List POper := [⟨(some k19), (.mov (.t k7)), none⟩,
  ⟨(some k6), (.mov (.t k19)), none⟩]
def f151 : PFn := ⟨(.seq (.ops f151r0)
 (.seq (.ops f151r1)
 (.seq (.block 0 (.loop f151l0))
 (.seq (.ops f151r4)
 .ret)))),
 [.tmp k6]⟩
/- cmp.Compare[int] -/
def f153r0 : List POper := [⟨(some k4), (.mov (.v (.int .i64 (.lit 0)))), none⟩]
def f153r1 : List POper := [⟨(some k7), (.mov (.t k0)), none⟩,
  ⟨(some k8), (.callF 160 [(.t k7)]), none⟩,
  ⟨(some k5), (.mov (.t k8)), none⟩]
def f153r2 : List POper := [⟨(some k9), (.mov (.t k1)), none⟩,
  ⟨(some k10), (.callF 160 [(.t k9)]), none⟩,
  ⟨(some k6), (.mov (.t k10)), none⟩]
def f153r3 : List POper := [⟨(some k11), (.mov (.t k5)), none⟩]
def f153r4 : List POper := [⟨(some k12), (.mov (.t k6)), none⟩]
def f153r5 : List POper := [⟨(some k4), (.mov (.v (.int .i64 (.lit 0)))), none⟩]
def f153r6 : List POper := [⟨(some k4), (.mov (.v (.int .i64 (.lit (-1))))), none⟩]
def f153r7 : List POper := [⟨(some k13), (.mov (.t k6)), none⟩]
def f153r8 : List POper := [⟨(some k4), (.mov (.v (.int .i64 (.lit 1)))), none⟩]
def f153r9 : List POper := [⟨(some k14), (.mov (.t k0)), none⟩,
  ⟨(some k15), (.mov (.t k1)), none⟩,
  ⟨(some k16), (.bin .lss (.t k14) (.t k15)), none⟩]
def f153r10 : List POper := [⟨(some k4), (.mov (.v (.int .i64 (.lit (-1))))), none⟩]
def f153r11 : List POper := [⟨(some k17), (.mov (.t k0)), none⟩,
  ⟨(some k18), (.mov (.t k1)), none⟩,
  ⟨(some k19), (.bin .gtr (.t k17) (.t k18)), none⟩]
def f153r12 : List POper := [⟨(some k4), (.mov (.v (.int .i64 (.lit 1)))), none⟩]
def f153r13 : List POper := [⟨(some k4), (.mov (.v (.int .i64 (.lit 0)))), none⟩]
def f153 : PFn := ⟨(.seq (.ops f153r0)
 (.seq (.ops f153r1)
 (.seq (.ops f153r2)
 (.seq (.seq (.ops f153r3)
 (.cond (.t k11)
 (.seq (.seq (.ops f153r4)
 (.cond (.t k12)
 (.seq (.ops f153r5)
 .ret)
 .skip))
 (.seq (.ops f153r6)
 .ret))
 .skip))
 (.seq (.seq (.ops f153r7)
 (.cond (.t k13)
 (.seq (.ops f153r8)
 .ret)
 .skip))
 (.seq (.seq (.ops f153r9)
 (.cond (.t k16)
 (.seq (.ops f153r10)
 .ret)
 .skip))
 (.seq (.seq (.ops f153r11)
 (.cond (.t k19)
 (.seq (.ops f153r12)
 .ret)
 .skip))
 (.seq (.ops f153r13)
 .ret)))))))),
 [.tmp k4]⟩
/- cmp.Compare[string] -/
def f154r0 : List POper := [⟨(some k4), (.mov (.v (.int .i64 (.lit 0)))), none⟩]
def f154r1 : List POper := [⟨(some k7), (.mov (.t k0)), none⟩,
  ⟨(some k8), (.callF 161 [(.t k7)]), none⟩,
  ⟨(some k5), (.mov (.t k8)), none⟩]
def f154r2 : List POper := [⟨(some k9), (.mov (.t k1)), none⟩,
  ⟨(some k10), (.callF 161 [(.t k9)]), none⟩,
  ⟨(some k6), (.mov (.t k10)), none⟩]
def f154r3 : List POper := [⟨(some k11), (.mov (.t k5)), none⟩]
def f154r4 : List POper := [⟨(some k12), (.mov (.t k6)), none⟩]
def f154r5 : List POper := [⟨(some k4), (.mov (.v (.int .i64 (.lit 0)))), none⟩]
def f154r6 : List POper := [⟨(some k4), (.mov (.v (.int .i64 (.lit (-1))))), none⟩]
def f154r7 : List POper := [⟨(some k13), (.mov (.t k6)), none⟩]
def f154r8 : List POper := [⟨(some k4), (.mov (.v (.int .i64 (.lit 1)))), none⟩]
def f154r9 : List POper := [⟨(some k14), (.mov (.t k0)), none⟩,
  ⟨(some k15), (.mov (.t k1)), none⟩,
  ⟨(some k16), (.bin .lss (.t k14) (.t k15)), none⟩]
def f154r10 : List POper := [⟨(some k4), (.mov (.v (.int .i64 (.lit (-1))))), none⟩]
def f154r11 : List POper := [⟨(some k17), (.mov (.t k0)), none⟩,
  ⟨(some k18), (.mov (.t k1)), none⟩,
  ⟨(some k19), (.bin .gtr (.t k17) (.t k18)), none⟩]
def f154r12 : List POper := [⟨(some k4), (.mov (.v (.int .i64 (.lit 1)))), none⟩]
def f154r13 : List POper := [⟨(some k4), (.mov (.v (.int .i64 (.lit 0)))), none⟩]
def f154 : PFn := ⟨(.seq (.ops f154r0)
 (.seq (.ops f154r1)
 (.seq (.ops f154r2)
 (.seq (.seq (.ops f154r3)
 (.cond (.t k11)
 (.seq (.seq (.ops f154r4)
 (.cond (.t k12)
 (.seq (.ops f154r5)
 .ret)
 .skip))
 (.seq (.ops f154r6)
 .ret))
 .skip))
 (.seq (.seq (.ops f154r7)
 (.cond (.t k13)
 (.seq (.ops f154r8)
 .ret)
 .skip))
 (.seq (.seq (.ops f154r9)
 (.cond (.t k16)
 (.seq (.ops f154r10)
 .ret)
 .skip))
 (.seq (.seq (.ops f154r11)
 (.cond (.t k19)
 (.seq (.ops f154r12)
 .ret)
 .skip))
 (.seq (.ops f154r13)
 .ret)))))))),
 [.tmp k4]⟩
/- slices.CompareFunc[[]refuter/api.Value,[]refuter/api.Value,refuter/api.Value,refuter/api.Value] -/
def f155r0 : List POper := [⟨(some k6), (.mov (.v (.int .i64 (.lit 0)))), none⟩]
def f155r1 : List POper := [⟨(some k11), (.mov (.t k0)), none⟩,
  ⟨(some k12), (.lenL (.t k11)), none⟩,
  ⟨(some k13), (.mov (.v (.int .i64 (.lit 0)))), none⟩]
def f155r2 : List POper := [⟨(some k14), (.bin .lss (.t k13) (.t k12)), none⟩]
def f155r3 : List POper := [⟨(some k15), (.mov (.t k13)), none⟩,
  ⟨(some k16), (.indexL 4 (.t k11) (.t k13)), none⟩,
  ⟨(some k17), (.load true 4 (.t k16)), none⟩,
  ⟨(some k8), (.new [(.int .i64 (.lit 0)), (.int .i64 (.lit 0)), (.str 0 0), .nils]), none⟩,
  ⟨(some k7), (.mov (.t k15)), none⟩,
  ⟨none, (.store 4 (.t k8) (.t k17)), none⟩]
def f155r4 : List POper := [⟨(some k18), (.mov (.t k7)), none⟩,
  ⟨(some k19), (.mov (.t k1)), none⟩,
  ⟨(some k20), (.lenL (.t k19)), none⟩,
  ⟨(some k21), (.bin .geq (.t k18) (.t k20)), none⟩]
def f155r5 : List POper := [⟨(some k6), (.mov (.v (.int .i64 (.lit 1)))), none⟩]
def f155r6 : List POper := [⟨(some k22), (.mov (.t k1)), none⟩,
  ⟨(some k23), (.mov (.t k7)), none⟩,
  ⟨(some k24), (.indexL 4 (.t k22) (.t k23)), none⟩,
  ⟨(some k25), (.load true 4 (.t k24)), none⟩,
  ⟨(some k9), (.new [(.int .i64 (.lit 0)), (.int .i64 (.lit 0)), (.str 0 0), .nils]), none⟩,
  ⟨none, (.store 4 (.t k9) (.t k25)), none⟩]
def f155r7 : List POper := [⟨(some k26), (.mov (.t k2)), none⟩,
  ⟨(some k27), (.load true 4 (.t k8)), none⟩,
  ⟨(some k28), (.load true 4 (.t k9)), none⟩,
  ⟨(some k29), (.callV (.t k26) [(.t k27), (.t k28)]), none⟩,
  ⟨(some k10), (.mov (.t k29)), none⟩]
def f155r8 : List POper := [⟨(some k30), (.mov (.t k10)), none⟩,
  ⟨(some k31), (.bin .neq (.t k30) (.v (.int .i64 (.lit 0)))), none⟩]
def f155r9 : List POper := [⟨(some k32), (.mov (.t k10)), none⟩,
  ⟨(some k6), (.mov (.t k32)), none⟩]
def f155r10 : List POper := [⟨(some k33), (.bin .add (.t k13) (.v (.int .i64 (.lit 1)))), none⟩,
  ⟨(some k13), (.mov (.t k33)), none⟩]
def f155l0 : PCode := (.seq (.ops f155r2)
 (.seq (.cond (.t k14)
 .skip
 (.exit 0))
 (.seq (.block 1 (.seq (.ops f155r3)
 (.seq (.seq (.ops f155r4)
 (.cond (.t k21)
 (.seq (.ops f155r5)
 .ret)
 .skip))
 (.seq (.ops f155r6)
 (.seq (.ops f155r7)
 (.seq (.ops f155r8)
 (.cond (.t k31)
 (.seq (.ops f155r9)
 .ret)
 .skip)))))))
 (.ops f155r10))))
def f155r11 : List POper := [⟨(some k34), (.mov (.t k0)), none⟩,
  ⟨(some k35), (.lenL (.t k34)), none⟩,
  ⟨(some k36), (.mov (.t k1)), none⟩,
  ⟨(some k37), (.lenL (.t k36)), none⟩,
  ⟨(some k38), (.bin .lss (.t k35) (.t k37)), none⟩]
def f155r12 : List POper := [⟨(some k6), (.mov (.v (.int .i64 (.lit (-1))))), none⟩]
def f155r13 : List POper := [⟨(some k6), (.mov (.v (.int .i64 (.lit 0)))), none⟩]
def f155 : PFn := ⟨(.seq (.ops f155r0)
 (.seq (.seq (.ops f155r1)
 (.block 0 (.loop f155l0)))
 (.seq (.seq (.ops f155r11)
 (.cond (.t k38)
 (.seq (.ops f155r12)
 .ret)
 .skip))
 (.seq (.ops f155r13)
 .ret)))),
 [.tmp k6]⟩
/- internal/stringslite.HasPrefix -/
def f156r0 : List POper := [⟨(some k4), (.mov (.v (.bool false))), none⟩]
def f156r1 : List POper := [⟨(some k5), (.mov (.t k0)), none⟩,
  ⟨(some k6), (.lenS (.t k5)), none⟩,
  ⟨(some k7), (.mov (.t k1)), none⟩,
  ⟨(some k8), (.lenS (.t k7)), none⟩,
  ⟨(some k9), (.bin .geq (.t k6) (.t k8)), none⟩,
  ⟨(some k10), (.mov (.t k9)), none⟩,
  ⟨(some k11), (.mov (.t k0)), (some (k10, true))⟩,
  ⟨(some k12), (.mov (.t k1)), (some (k10, true))⟩,
  ⟨(some k13), (.lenS (.t k12)), (some (k10, true))⟩,
  ⟨(some k14), (.sliceS (.t k11) none (some (.t k13))), (some (k10, true))⟩,
  ⟨(some k15), (.mov (.t k1)), (some (k10, true))⟩,
  ⟨(some k16), (.bin .eql (.t k14) (.t k15)), (some (k10, true))⟩,
  ⟨(some k17), (.pick (.t k10) (.t k16) (.v (.bool false))), none⟩,
  ⟨(some k4), (.mov (.t k17)), none⟩]
def f156 : PFn := ⟨(.seq (.ops f156r0)
 (.seq (.ops f156r1)
 .ret)),
 [.tmp k4]⟩
/- (*refuter/parser.reader).compare -/
def f157r0 : List POper := [⟨(some k2), (.new [(.int .i64 (.lit 0)), (.str 0 0), (.int .i64 (.lit 0)), .nils, .nils, .nils, (.int .i64 (.lit 0))]), none⟩]
def f157r1 : List POper := [⟨(some k6), (.mov (.t k0)), none⟩,
  ⟨(some k7), (.callF 32 [(.t k6)]), none⟩,
  ⟨(some k3), (.mov (.t k7)), none⟩]
def f157r2 : List POper := [⟨(some k8), (.mov (.t k0)), none⟩,
  ⟨(some k9), (.callF 162 [(.t k8)]), none⟩,
  ⟨(some k4), (.new [(.int .i64 (.lit 0)), (.str 0 0), (.int .i64 (.lit 0)), .nils, .nils, .nils, (.int .i64 (.lit 0))]), none⟩,
  ⟨none, (.store 7 (.t k4) (.t k9)), none⟩]
def f157r3 : List POper := [⟨(some k10), (.mov (.t k0)), none⟩,
  ⟨(some k11), (.bslice 1 4 [(.str 0 0)] [(0, 1, (.v (.str 2 15677))), (1, 1, (.v (.str 2 15649))), (2, 1, (.v (.str 1 60))), (3, 1, (.v (.str 2 15676)))]), none⟩,
  ⟨(some k12), (.callF 148 [(.t k10), (.t k11)]), none⟩,
  ⟨(some k5), (.mov (.t k12)), none⟩]
def f157r4 : List POper := [⟨(some k13), (.mov (.t k5)), none⟩,
  ⟨(some k14), (.bin .neq (.t k13) (.v (.str 0 0))), none⟩]
def f157r5 : List SItem := [.L 0 ⟨(some k15), (.mov (.t k5)), none⟩,
  .L 1 ⟨(some k16), (.mov (.t k3)), none⟩,
  .L 2 ⟨(some k17), (.load true 7 (.t k4)), none⟩,
  .L 3 ⟨(some k18), (.mov (.t k0)), none⟩,
  .H 4 ⟨(some k19), (.callF 162 [(.t k18)]), none⟩ [],
  .R [(2, ⟨(some k17), (.load true 7 (.t k4)), none⟩)],
  .A 5 ⟨(some k20), (.bslice 7 2 [(.int .i64 (.lit 0)), (.str 0 0), (.int .i64 (.lit 0)), .nils, .nils, .nils, (.int .i64 (.lit 0))] [(0, 7, (.t k17)), (7, 7, (.t k19))]), none⟩,
  .L 6 ⟨(some k21), (.build [(.int .i64 (.lit 0)), (.str 0 0), (.int .i64 (.lit 0)), .nils, .nils, .nils, (.int .i64 (.lit 0))] [(0, 1, (.v (.int .i64 (.lit 9)))), (1, 1, (.t k15)), (6, 1, (.t k16)), (5, 1, (.t k20))]), none⟩,
  .H 7 ⟨none, (.store 7 (.t k2) (.t k21)), none⟩ [5],
  .R []]
def f157r6 : List POper := [⟨(some k22), (.load true 7 (.t k4)), none⟩,
  ⟨none, (.store 7 (.t k2) (.t k22)), none⟩]
def f157 : PFn := ⟨(.seq (.ops f157r0)
 (.seq (.ops f157r1)
 (.seq (.ops f157r2)
 (.seq (.seq (.ops f157r3)
 (.seq (.ops f157r4)
 (.cond (.t k14)
 (.seq (.staged f157r5 ⟨[k15, k16, k17, k18, k19, k20, k21], []⟩)
 .ret)
 .skip)))
 (.seq (.ops f157r6)
 .ret))))),
 [.cell k2 true 7]⟩
/- refuter/hash.groups -/
def f158r0 : List POper := [⟨(some k1), (.box (.t k0)), none⟩,
  ⟨(some k2), (.mov (.v .nilf)), none⟩]
def f158r1 : List POper := [⟨(some k3), (.mkfn 163 [] [(.t k1)]), none⟩,
  ⟨(some k2), (.mov (.t k3)), none⟩]
def f158 : PFn := ⟨(.seq (.ops f158r0)
 (.seq (.ops f158r1)
 .ret)),
 [.tmp k2]⟩
end Tw
