/- A part of the proof. No condition. -/
import Derived.Test.YtakflcfmbcpjkaaGreatDoorFnsB
namespace Tw
open Go.Sx
/- refuter/hash.mix -/
def f159r0 : List POper := [⟨(some k4), (.mov (.v (.int .u64 (.lit 0)))), none⟩]
def f159r1 : List POper := [⟨(some k6), (.mov (.t k0)), none⟩,
  ⟨(some k7), (.mov (.t k1)), none⟩,
  ⟨(some k8), (.bin .xor (.t k6) (.t k7)), none⟩,
  ⟨(some k9), (.bin .mul (.t k8) (.v (.int .u64 (.lit 11400714819323198485)))), none⟩,
  ⟨(some k5), (.mov (.t k9)), none⟩]
def f159r2 : List POper := [⟨(some k10), (.mov (.t k5)), none⟩,
  ⟨(some k11), (.mov (.t k5)), none⟩,
  ⟨(some k12), (.bin .shr (.t k11) (.v (.int .u64 (.lit 32)))), none⟩,
  ⟨(some k13), (.bin .xor (.t k10) (.t k12)), none⟩,
  ⟨(some k4), (.mov (.t k13)), none⟩]
def f159 : PFn := ⟨(.seq (.ops f159r0)
 (.seq (.ops f159r1)
 (.seq (.ops f159r2)
 .ret))),
 [.tmp k4]⟩
/- cmp.isNaN[int] -/
def f160r0 : List POper := [⟨(some k2), (.mov (.v (.bool false))), none⟩]
def f160r1 : List POper := [⟨(some k3), (.mov (.t k0)), none⟩,
  ⟨(some k4), (.mov (.t k0)), none⟩,
  ⟨(some k5), (.bin .neq (.t k3) (.t k4)), none⟩,
  ⟨(some k2), (.mov (.t k5)), none⟩]
def f160 : PFn := ⟨(.seq (.ops f160r0)
 (.seq (.ops f160r1)
 .ret)),
 [.tmp k2]⟩
/- cmp.isNaN[string] -/
def f161r0 : List POper := [⟨(some k2), (.mov (.v (.bool false))), none⟩]
def f161r1 : List POper := [⟨(some k3), (.mov (.t k0)), none⟩,
  ⟨(some k4), (.mov (.t k0)), none⟩,
  ⟨(some k5), (.bin .neq (.t k3) (.t k4)), none⟩,
  ⟨(some k2), (.mov (.t k5)), none⟩]
def f161 : PFn := ⟨(.seq (.ops f161r0)
 (.seq (.ops f161r1)
 .ret)),
 [.tmp k2]⟩
/- (*refuter/parser.reader).sum -/
def f162r0 : List POper := [⟨(some k2), (.new [(.int .i64 (.lit 0)), (.str 0 0), (.int .i64 (.lit 0)), .nils, .nils, .nils, (.int .i64 (.lit 0))]), none⟩]
def f162r1 : List POper := [⟨(some k3), (.mov (.t k0)), none⟩,
  ⟨(some k4), (.mov (.t k0)), none⟩,
  ⟨(some k5), (.mkfn 164 [(.t k4)] []), none⟩,
  ⟨(some k6), (.bslice 1 2 [(.str 0 0)] [(0, 1, (.v (.str 1 43))), (1, 1, (.v (.str 1 45)))]), none⟩,
  ⟨(some k7), (.callF 132 [(.t k3), (.t k5), (.t k6)]), none⟩,
  ⟨none, (.store 7 (.t k2) (.t k7)), none⟩]
def f162 : PFn := ⟨(.seq (.ops f162r0)
 (.seq (.ops f162r1)
 .ret)),
 [.cell k2 true 7]⟩
/- refuter/hash.groups$1 -/
def f163r0 : List POper := [⟨(some k3), (.mov (.v (.int .i64 (.lit 0)))), none⟩]
def f163r1 : List POper := [⟨(some k6), (.mov (.t k3)), none⟩,
  ⟨(some k7), (.load false 1 (.t k1)), none⟩,
  ⟨(some k8), (.lenL (.t k7)), none⟩,
  ⟨(some k9), (.bin .lss (.t k6) (.t k8)), none⟩]
def f163r2 : List POper := [⟨(some k4), (.mov (.v (.int .u64 (.lit 0)))), none⟩]
def f163r3 : List POper := [⟨(some k12), (.mov (.t k3)), none⟩,
  ⟨(some k13), (.bin .add (.t k12) (.v (.int .i64 (.lit 8)))), none⟩,
  ⟨(some k14), (.load false 1 (.t k1)), none⟩,
  ⟨(some k15), (.lenL (.t k14)), none⟩,
  ⟨(some k16), (.mx false (.t k13) (.t k15)), none⟩,
  ⟨(some k17), (.bin .sub (.t k16) (.v (.int .i64 (.lit 1)))), none⟩,
  ⟨(some k5), (.mov (.t k17)), none⟩]
def f163r4 : List POper := [⟨(some k18), (.mov (.t k5)), none⟩,
  ⟨(some k19), (.mov (.t k3)), none⟩,
  ⟨(some k20), (.bin .geq (.t k18) (.t k19)), none⟩]
def f163r5 : List POper := [⟨(some k23), (.mov (.t k4)), none⟩,
  ⟨(some k24), (.bin .shl (.t k23) (.v (.int .u64 (.lit 8)))), none⟩,
  ⟨(some k25), (.load false 1 (.t k1)), none⟩,
  ⟨(some k26), (.mov (.t k5)), none⟩,
  ⟨(some k27), (.indexL 1 (.t k25) (.t k26)), none⟩,
  ⟨(some k28), (.load false 1 (.t k27)), none⟩,
  ⟨(some k29), (.cint .u64 (.t k28)), none⟩,
  ⟨(some k30), (.bin .or (.t k24) (.t k29)), none⟩,
  ⟨(some k4), (.mov (.t k30)), none⟩]
def f163r6 : List POper := [⟨(some k21), (.mov (.t k5)), none⟩,
  ⟨(some k22), (.bin .sub (.t k21) (.v (.int .i64 (.lit 1)))), none⟩,
  ⟨(some k5), (.mov (.t k22)), none⟩]
def f163l1 : PCode := (.seq (.seq (.ops f163r4)
 (.cond (.t k20)
 .skip
 (.exit 2)))
 (.seq (.block 3 (.ops f163r5))
 (.ops f163r6)))
def f163r7 : List POper := [⟨(some k31), (.mov (.t k0)), none⟩,
  ⟨(some k32), (.mov (.t k4)), none⟩,
  ⟨(some k33), (.callV (.t k31) [(.t k32)]), none⟩,
  ⟨(some k34), (.un .not (.t k33)), none⟩]
def f163r8 : List POper := [⟨(some k10), (.mov (.t k3)), none⟩,
  ⟨(some k11), (.bin .add (.t k10) (.v (.int .i64 (.lit 8)))), none⟩,
  ⟨(some k3), (.mov (.t k11)), none⟩]
def f163l0 : PCode := (.seq (.seq (.ops f163r1)
 (.cond (.t k9)
 .skip
 (.exit 0)))
 (.seq (.block 1 (.seq (.ops f163r2)
 (.seq (.seq (.ops f163r3)
 (.block 2 (.loop f163l1)))
 (.seq (.ops f163r7)
 (.cond (.t k34)
 .ret
 .skip)))))
 (.ops f163r8)))
def f163 : PFn := ⟨(.seq (.ops f163r0)
 (.block 0 (.loop f163l0))),
 []⟩
/- (*refuter/parser.reader).product -/
def f164r0 : List POper := [⟨(some k2), (.new [(.int .i64 (.lit 0)), (.str 0 0), (.int .i64 (.lit 0)), .nils, .nils, .nils, (.int .i64 (.lit 0))]), none⟩]
def f164r1 : List POper := [⟨(some k3), (.mov (.t k0)), none⟩,
  ⟨(some k4), (.mov (.t k0)), none⟩,
  ⟨(some k5), (.mkfn 165 [(.t k4)] []), none⟩,
  ⟨(some k6), (.bslice 1 1 [(.str 0 0)] [(0, 1, (.v (.str 1 42)))]), none⟩,
  ⟨(some k7), (.callF 132 [(.t k3), (.t k5), (.t k6)]), none⟩,
  ⟨none, (.store 7 (.t k2) (.t k7)), none⟩]
def f164 : PFn := ⟨(.seq (.ops f164r0)
 (.seq (.ops f164r1)
 .ret)),
 [.cell k2 true 7]⟩
/- (*refuter/parser.reader).operand -/
def f165r0 : List POper := [⟨(some k2), (.new [(.int .i64 (.lit 0)), (.str 0 0), (.int .i64 (.lit 0)), .nils, .nils, .nils, (.int .i64 (.lit 0))]), none⟩]
def f165r1 : List POper := [⟨(some k7), (.mov (.t k0)), none⟩,
  ⟨(some k8), (.callF 32 [(.t k7)]), none⟩,
  ⟨(some k3), (.mov (.t k8)), none⟩]
def f165r2 : List POper := [⟨(some k10), (.mov (.t k0)), none⟩,
  ⟨(some k11), (.callF 34 [(.t k10), (.v (.str 1 45))]), none⟩,
  ⟨(some k9), (.mov (.t k11)), none⟩]
def f165r3 : List POper := [⟨(some k12), (.mov (.t k3)), none⟩,
  ⟨(some k13), (.mov (.t k0)), none⟩,
  ⟨(some k14), (.callF 42 [(.t k13)]), none⟩,
  ⟨(some k15), (.un .neg (.t k14)), none⟩,
  ⟨(some k16), (.build [(.int .i64 (.lit 0)), (.str 0 0), (.int .i64 (.lit 0)), .nils, .nils, .nils, (.int .i64 (.lit 0))] [(0, 1, (.v (.int .i64 (.lit 0)))), (6, 1, (.t k12)), (2, 1, (.t k15))]), none⟩,
  ⟨none, (.store 7 (.t k2) (.t k16)), none⟩]
def f165r4 : List POper := [⟨(some k18), (.mov (.t k0)), none⟩,
  ⟨(some k19), (.callF 129 [(.t k18), (.v (.int .i64 (.lit 2)))]), none⟩,
  ⟨(some k17), (.mov (.t k19)), none⟩]
def f165r5 : List POper := [⟨(some k20), (.mov (.t k3)), none⟩,
  ⟨(some k21), (.mov (.t k0)), none⟩,
  ⟨(some k22), (.callF 42 [(.t k21)]), none⟩,
  ⟨(some k23), (.build [(.int .i64 (.lit 0)), (.str 0 0), (.int .i64 (.lit 0)), .nils, .nils, .nils, (.int .i64 (.lit 0))] [(0, 1, (.v (.int .i64 (.lit 0)))), (6, 1, (.t k20)), (2, 1, (.t k22))]), none⟩,
  ⟨none, (.store 7 (.t k2) (.t k23)), none⟩]
def f165r6 : List POper := [⟨(some k25), (.mov (.t k0)), none⟩,
  ⟨(some k26), (.callF 34 [(.t k25), (.v (.str 4 1702195828))]), none⟩,
  ⟨(some k24), (.mov (.t k26)), none⟩]
def f165r7 : List POper := [⟨(some k27), (.mov (.t k3)), none⟩,
  ⟨(some k28), (.build [(.int .i64 (.lit 0)), (.str 0 0), (.int .i64 (.lit 0)), .nils, .nils, .nils, (.int .i64 (.lit 0))] [(0, 1, (.v (.int .i64 (.lit 1)))), (6, 1, (.t k27)), (2, 1, (.v (.int .i64 (.lit 1))))]), none⟩,
  ⟨none, (.store 7 (.t k2) (.t k28)), none⟩]
def f165r8 : List POper := [⟨(some k30), (.mov (.t k0)), none⟩,
  ⟨(some k31), (.callF 34 [(.t k30), (.v (.str 5 435728179558))]), none⟩,
  ⟨(some k29), (.mov (.t k31)), none⟩]
def f165r9 : List POper := [⟨(some k32), (.mov (.t k3)), none⟩,
  ⟨(some k33), (.build [(.int .i64 (.lit 0)), (.str 0 0), (.int .i64 (.lit 0)), .nils, .nils, .nils, (.int .i64 (.lit 0))] [(0, 1, (.v (.int .i64 (.lit 1)))), (6, 1, (.t k32))]), none⟩,
  ⟨none, (.store 7 (.t k2) (.t k33)), none⟩]
def f165r10 : List POper := [⟨(some k35), (.mov (.t k0)), none⟩,
  ⟨(some k36), (.callF 34 [(.t k35), (.v (.str 1 91))]), none⟩,
  ⟨(some k34), (.mov (.t k36)), none⟩]
def f165r11 : List POper := [⟨(some k37), (.mov (.t k3)), none⟩,
  ⟨(some k38), (.mov (.t k0)), none⟩,
  ⟨(some k39), (.mov (.t k0)), none⟩,
  ⟨(some k40), (.mkfn 41 [(.t k39)] []), none⟩,
  ⟨(some k41), (.callF 136 [(.t k38), (.v (.str 1 93)), (.t k40)]), none⟩,
  ⟨(some k42), (.build [(.int .i64 (.lit 0)), (.str 0 0), (.int .i64 (.lit 0)), .nils, .nils, .nils, (.int .i64 (.lit 0))] [(0, 1, (.v (.int .i64 (.lit 5)))), (6, 1, (.t k37)), (5, 1, (.t k41))]), none⟩,
  ⟨none, (.store 7 (.t k2) (.t k42)), none⟩]
def f165r12 : List POper := [⟨(some k44), (.mov (.t k0)), none⟩,
  ⟨(some k45), (.callF 34 [(.t k44), (.v (.str 1 40))]), none⟩,
  ⟨(some k43), (.mov (.t k45)), none⟩]
def f165r13 : List POper := [⟨(some k46), (.mov (.t k0)), none⟩,
  ⟨(some k47), (.callF 41 [(.t k46)]), none⟩,
  ⟨(some k4), (.new [(.int .i64 (.lit 0)), (.str 0 0), (.int .i64 (.lit 0)), .nils, .nils, .nils, (.int .i64 (.lit 0))]), none⟩,
  ⟨none, (.store 7 (.t k4) (.t k47)), none⟩]
def f165r14 : List POper := [⟨(some k48), (.mov (.t k0)), none⟩,
  ⟨(some k49), (.callF 36 [(.t k48), (.v (.str 1 41))]), none⟩]
def f165r15 : List POper := [⟨(some k50), (.load true 7 (.t k4)), none⟩,
  ⟨none, (.store 7 (.t k2) (.t k50)), none⟩]
def f165r16 : List POper := [⟨(some k52), (.mov (.t k0)), none⟩,
  ⟨(some k53), (.callF 129 [(.t k52), (.v (.int .i64 (.lit 1)))]), none⟩,
  ⟨(some k51), (.mov (.t k53)), none⟩]
def f165r17 : List POper := [⟨(some k54), (.mov (.t k3)), none⟩,
  ⟨(some k55), (.mov (.t k0)), none⟩,
  ⟨(some k56), (.callF 35 [(.t k55)]), none⟩,
  ⟨(some k57), (.build [(.int .i64 (.lit 0)), (.str 0 0), (.int .i64 (.lit 0)), .nils, .nils, .nils, (.int .i64 (.lit 0))] [(0, 1, (.v (.int .i64 (.lit 4)))), (6, 1, (.t k54)), (1, 1, (.t k56))]), none⟩,
  ⟨(some k5), (.new [(.int .i64 (.lit 0)), (.str 0 0), (.int .i64 (.lit 0)), .nils, .nils, .nils, (.int .i64 (.lit 0))]), none⟩,
  ⟨none, (.store 7 (.t k5) (.t k57)), none⟩]
def f165r18 : List POper := [⟨(some k58), (.mov (.t k0)), none⟩,
  ⟨(some k59), (.callF 34 [(.t k58), (.v (.str 1 40))]), none⟩]
def f165r19 : List POper := [⟨(some k60), (.mov (.t k0)), none⟩,
  ⟨(some k61), (.mov (.t k0)), none⟩,
  ⟨(some k62), (.mkfn 41 [(.t k61)] []), none⟩,
  ⟨(some k63), (.callF 136 [(.t k60), (.v (.str 1 41)), (.t k62)]), none⟩,
  ⟨(some k64), (.fieldA 5 (.t k5)), none⟩,
  ⟨none, (.store 1 (.t k64) (.t k63)), none⟩]
def f165r20 : List POper := [⟨(some k65), (.load true 7 (.t k5)), none⟩,
  ⟨none, (.store 7 (.t k2) (.t k65)), none⟩]
def f165r21 : List POper := [⟨(some k66), (.mov (.t k3)), none⟩,
  ⟨(some k67), (.mov (.t k0)), none⟩,
  ⟨(some k68), (.callF 39 [(.t k67)]), none⟩,
  ⟨(some k69), (.build [(.int .i64 (.lit 0)), (.str 0 0), (.int .i64 (.lit 0)), .nils, .nils, .nils, (.int .i64 (.lit 0))] [(0, 1, (.v (.int .i64 (.lit 2)))), (6, 1, (.t k66)), (1, 1, (.t k68))]), none⟩,
  ⟨(some k6), (.new [(.int .i64 (.lit 0)), (.str 0 0), (.int .i64 (.lit 0)), .nils, .nils, .nils, (.int .i64 (.lit 0))]), none⟩,
  ⟨none, (.store 7 (.t k6) (.t k69)), none⟩]
def f165r22 : List POper := [⟨(some k70), (.mov (.t k0)), none⟩,
  ⟨(some k71), (.callF 34 [(.t k70), (.v (.str 1 40))]), none⟩]
def f165r23 : List POper := [⟨(some k72), (.fieldA 0 (.t k6)), none⟩,
  ⟨none, (.store 1 (.t k72) (.v (.int .i64 (.lit 3)))), none⟩]
def f165r24 : List POper := [⟨(some k73), (.mov (.t k0)), none⟩,
  ⟨(some k74), (.mov (.t k0)), none⟩,
  ⟨(some k75), (.mkfn 41 [(.t k74)] []), none⟩,
  ⟨(some k76), (.callF 136 [(.t k73), (.v (.str 1 41)), (.t k75)]), none⟩,
  ⟨(some k77), (.fieldA 5 (.t k6)), none⟩,
  ⟨none, (.store 1 (.t k77) (.t k76)), none⟩]
def f165r25 : List POper := [⟨(some k78), (.load true 7 (.t k6)), none⟩,
  ⟨none, (.store 7 (.t k2) (.t k78)), none⟩]
def f165 : PFn := ⟨(.seq (.ops f165r0)
 (.seq (.ops f165r1)
 (.seq (.block 0 (.seq (.ops f165r2)
 (.cond (.t k9)
 (.seq (.ops f165r3)
 .ret)
 (.seq (.ops f165r4)
 (.cond (.t k17)
 (.seq (.ops f165r5)
 .ret)
 (.seq (.ops f165r6)
 (.cond (.t k24)
 (.seq (.ops f165r7)
 .ret)
 (.seq (.ops f165r8)
 (.cond (.t k29)
 (.seq (.ops f165r9)
 .ret)
 (.seq (.ops f165r10)
 (.cond (.t k34)
 (.seq (.ops f165r11)
 .ret)
 (.seq (.ops f165r12)
 (.cond (.t k43)
 (.seq (.ops f165r13)
 (.seq (.ops f165r14)
 (.seq (.ops f165r15)
 .ret)))
 (.seq (.ops f165r16)
 (.cond (.t k51)
 (.seq (.ops f165r17)
 (.seq (.seq (.ops f165r18)
 (.cond (.t k59)
 (.ops f165r19)
 .skip))
 (.seq (.ops f165r20)
 .ret)))
 .skip)))))))))))))))
 (.seq (.ops f165r21)
 (.seq (.seq (.ops f165r22)
 (.cond (.t k71)
 (.seq (.ops f165r23)
 (.ops f165r24))
 .skip))
 (.seq (.ops f165r25)
 .ret)))))),
 [.cell k2 true 7]⟩
/- gosem.cut.vars -/
def f186r0 : List POper := [⟨(some k0), (.build [(.str 0 0), (.str 0 0), (.str 0 0), (.str 0 0), (.str 0 0), (.str 0 0), (.str 0 0), (.str 0 0), (.str 0 0), (.str 0 0), (.str 0 0), (.str 0 0), (.str 0 0), (.str 0 0), (.str 0 0), (.str 0 0), (.str 0 0), (.str 0 0), (.str 0 0), (.str 0 0), (.str 0 0), (.str 0 0)] [(0, 1, (.v (.str 2 15917))), (1, 1, (.v (.str 2 11580))), (2, 1, (.v (.str 2 15676))), (3, 1, (.v (.str 2 15677))), (4, 1, (.v (.str 2 15649))), (5, 1, (.v (.str 2 11822))), (6, 1, (.v (.str 1 40))), (7, 1, (.v (.str 1 41))), (8, 1, (.v (.str 1 91))), (9, 1, (.v (.str 1 93))), (10, 1, (.v (.str 1 123))), (11, 1, (.v (.str 1 125))), (12, 1, (.v (.str 1 44))), (13, 1, (.v (.str 1 59))), (14, 1, (.v (.str 1 58))), (15, 1, (.v (.str 1 61))), (16, 1, (.v (.str 1 60))), (17, 1, (.v (.str 1 43))), (18, 1, (.v (.str 1 45))), (19, 1, (.v (.str 1 42))), (20, 1, (.v (.str 1 47))), (21, 1, (.v (.str 1 124)))]), none⟩,
  ⟨none, (.store 22 (.v (.ptr k1 0)) (.t k0)), none⟩]
def f186r1 : List POper := [⟨(some k1), (.build [(.str 0 0), (.str 0 0), (.str 0 0), (.str 0 0), (.str 0 0), (.str 0 0), (.str 0 0), (.str 0 0), (.str 0 0), (.str 0 0), (.str 0 0), (.str 0 0), (.str 0 0), (.str 0 0), (.str 0 0), (.str 0 0), (.str 0 0), (.str 0 0), (.str 0 0), (.str 0 0), (.str 0 0), (.str 0 0), (.str 0 0), (.str 0 0), (.str 0 0), (.str 0 0), (.str 0 0), (.str 0 0), (.str 0 0), (.str 0 0), (.str 0 0), (.str 0 0), (.str 0 0), (.str 0 0), (.str 0 0), (.str 0 0), (.str 0 0)] [(0, 1, (.v (.str 3 6581857))), (1, 1, (.v (.str 4 1819242338))), (2, 1, (.v (.str 5 461229090915))), (3, 1, (.v (.str 5 469919427683))), (4, 1, (.v (.str 5 495857003619))), (5, 1, (.v (.str 7 28268862397837155))), (6, 1, (.v (.str 4 1702063205))), (7, 1, (.v (.str 5 435728179558))), (8, 1, (.v (.str 3 7239014))), (9, 1, (.v (.str 3 7234919))), (10, 1, (.v (.str 2 26217))), (11, 1, (.v (.str 2 28265))), (12, 1, (.v (.str 3 7630441))), (13, 1, (.v (.str 3 7628140))), (14, 1, (.v (.str 4 1953720684))), (15, 1, (.v (.str 4 1701536109))), (16, 1, (.v (.str 5 448345170285))), (17, 1, (.v (.str 5 465557548909))), (18, 1, (.v (.str 4 1954047342))), (19, 1, (.v (.str 3 7630702))), (20, 1, (.v (.str 2 26223))), (21, 1, (.v (.str 3 6647407))), (22, 1, (.v (.str 2 28783))), (23, 1, (.v (.str 2 29295))), (24, 1, (.v (.str 4 1801677168))), (25, 1, (.v (.str 4 1953722224))), (26, 1, (.v (.str 3 6648432))), (27, 1, (.v (.str 4 1886351984))), (28, 1, (.v (.str 7 32199706694346098))), (29, 1, (.v (.str 6 128009175786866))), (30, 1, (.v (.str 6 121437875889522))), (31, 1, (.v (.str 4 1885697139))), (32, 1, (.v (.str 6 120282512849267))), (33, 1, (.v (.str 4 1852139636))), (34, 1, (.v (.str 4 1702195828))), (35, 1, (.v (.str 4 1701869940))), (36, 1, (.v (.str 5 435710945399)))]), none⟩,
  ⟨none, (.store 37 (.v (.ptr k0 0)) (.t k1)), none⟩]
def f186 : PFn := ⟨(.seq (.ops f186r0)
 (.ops f186r1)),
 []⟩
def fns : T PFn := (.node none (.node none (.node (some f3) (.node (some f7) (.node (some f15) (.node (some f31) (.node (some f63) (.node (some f127) .nil .nil) .nil) (.node (some f95) (.node (some f159) .nil .nil) .nil)) (.node (some f47) (.node (some f79) (.node (some f143) .nil .nil) .nil) (.node (some f111) .nil .nil))) (.node (some f23) (.node (some f39) (.node (some f71) (.node (some f135) .nil .nil) .nil) (.node (some f103) .nil .nil)) (.node (some f55) (.node (some f87) (.node (some f151) .nil .nil) .nil) (.node (some f119) .nil .nil)))) (.node (some f11) (.node (some f19) (.node (some f35) (.node (some f67) (.node (some f131) .nil .nil) .nil) (.node (some f99) (.node (some f163) .nil .nil) .nil)) (.node (some f51) (.node (some f83) (.node (some f147) .nil .nil) .nil) (.node (some f115) .nil .nil))) (.node (some f27) (.node (some f43) (.node (some f75) (.node (some f139) .nil .nil) .nil) (.node (some f107) .nil .nil)) (.node (some f59) (.node (some f91) (.node (some f155) .nil .nil) .nil) (.node (some f123) .nil .nil))))) (.node (some f5) (.node (some f9) (.node (some f17) (.node (some f33) (.node (some f65) (.node (some f129) .nil .nil) .nil) (.node (some f97) (.node (some f161) .nil .nil) .nil)) (.node (some f49) (.node (some f81) (.node (some f145) .nil .nil) .nil) (.node (some f113) .nil .nil))) (.node (some f25) (.node (some f41) (.node (some f73) (.node (some f137) .nil .nil) .nil) (.node (some f105) .nil .nil)) (.node (some f57) (.node (some f89) (.node (some f153) .nil .nil) .nil) (.node (some f121) .nil .nil)))) (.node (some f13) (.node (some f21) (.node (some f37) (.node (some f69) (.node (some f133) .nil .nil) .nil) (.node (some f101) (.node (some f165) .nil .nil) .nil)) (.node (some f53) (.node (some f85) (.node (some f149) .nil .nil) .nil) (.node (some f117) .nil .nil))) (.node (some f29) (.node (some f45) (.node (some f77) (.node (some f141) .nil .nil) .nil) (.node (some f109) .nil .nil)) (.node (some f61) (.node (some f93) (.node (some f157) .nil .nil) .nil) (.node (some f125) .nil .nil)))))) (.node none (.node (some f4) (.node (some f8) (.node (some f16) (.node (some f32) (.node (some f64) (.node (some f128) .nil .nil) .nil) (.node (some f96) (.node (some f160) .nil .nil) .nil)) (.node (some f48) (.node (some f80) (.node (some f144) .nil .nil) .nil) (.node (some f112) .nil .nil))) (.node (some f24) (.node (some f40) (.node (some f72) (.node (some f136) .nil .nil) .nil) (.node (some f104) .nil .nil)) (.node (some f56) (.node (some f88) .nil .nil) (.node (some f120) .nil .nil)))) (.node (some f12) (.node (some f20) (.node (some f36) (.node (some f68) (.node (some f132) .nil .nil) .nil) (.node (some f100) (.node (some f164) .nil .nil) .nil)) (.node (some f52) (.node (some f84) (.node (some f148) .nil .nil) .nil) (.node (some f116) .nil .nil))) (.node (some f28) (.node (some f44) (.node (some f76) (.node (some f140) .nil .nil) .nil) (.node (some f108) .nil .nil)) (.node (some f60) (.node (some f92) (.node (some f156) .nil .nil) .nil) (.node (some f124) .nil .nil))))) (.node (some f6) (.node (some f10) (.node (some f18) (.node (some f34) (.node (some f66) (.node (some f130) .nil .nil) .nil) (.node (some f98) (.node (some f162) .nil .nil) .nil)) (.node (some f50) (.node (some f82) (.node (some f146) .nil .nil) .nil) (.node (some f114) .nil .nil))) (.node (some f26) (.node (some f42) (.node (some f74) (.node (some f138) .nil .nil) .nil) (.node (some f106) .nil .nil)) (.node (some f58) (.node (some f90) (.node (some f154) .nil .nil) .nil) (.node (some f122) (.node (some f186) .nil .nil) .nil)))) (.node (some f14) (.node (some f22) (.node (some f38) (.node (some f70) (.node (some f134) .nil .nil) .nil) (.node (some f102) .nil .nil)) (.node (some f54) (.node (some f86) (.node (some f150) .nil .nil) .nil) (.node (some f118) .nil .nil))) (.node (some f30) (.node (some f46) (.node (some f78) (.node (some f142) .nil .nil) .nil) (.node (some f110) .nil .nil)) (.node (some f62) (.node (some f94) (.node (some f158) .nil .nil) .nil) (.node (some f126) .nil .nil)))))))
def fnsL : List (Nat × PFn) := [(3, f3), (4, f4), (5, f5), (6, f6), (7, f7), (8, f8), (9, f9), (10, f10), (11, f11), (12, f12), (13, f13), (14, f14), (15, f15), (16, f16), (17, f17), (18, f18), (19, f19), (20, f20), (21, f21), (22, f22), (23, f23), (24, f24), (25, f25), (26, f26), (27, f27), (28, f28), (29, f29), (30, f30), (31, f31), (32, f32), (33, f33), (34, f34), (35, f35), (36, f36), (37, f37), (38, f38), (39, f39), (40, f40), (41, f41), (42, f42), (43, f43), (44, f44), (45, f45), (46, f46), (47, f47), (48, f48), (49, f49), (50, f50), (51, f51), (52, f52), (53, f53), (54, f54), (55, f55), (56, f56), (57, f57), (58, f58), (59, f59), (60, f60), (61, f61), (62, f62), (63, f63), (64, f64), (65, f65), (66, f66), (67, f67), (68, f68), (69, f69), (70, f70), (71, f71), (72, f72), (73, f73), (74, f74), (75, f75), (76, f76), (77, f77), (78, f78), (79, f79), (80, f80), (81, f81), (82, f82), (83, f83), (84, f84), (85, f85), (86, f86), (87, f87), (88, f88), (89, f89), (90, f90), (91, f91), (92, f92), (93, f93), (94, f94), (95, f95), (96, f96), (97, f97), (98, f98), (99, f99), (100, f100), (101, f101), (102, f102), (103, f103), (104, f104), (105, f105), (106, f106), (107, f107), (108, f108), (109, f109), (110, f110), (111, f111), (112, f112), (113, f113), (114, f114), (115, f115), (116, f116), (117, f117), (118, f118), (119, f119), (120, f120), (121, f121), (122, f122), (123, f123), (124, f124), (125, f125), (126, f126), (127, f127), (128, f128), (129, f129), (130, f130), (131, f131), (132, f132), (133, f133), (134, f134), (135, f135), (136, f136), (137, f137), (138, f138), (139, f139), (140, f140), (141, f141), (142, f142), (143, f143), (144, f144), (145, f145), (146, f146), (147, f147), (148, f148), (149, f149), (150, f150), (151, f151), (153, f153), (154, f154), (155, f155), (156, f156), (157, f157), (158, f158), (159, f159), (160, f160), (161, f161), (162, f162), (163, f163), (164, f164), (165, f165), (186, f186)]
def g0 : List AV := [(.str 3 6581857), (.str 4 1819242338), (.str 5 461229090915), (.str 5 469919427683), (.str 5 495857003619), (.str 7 28268862397837155), (.str 4 1702063205), (.str 5 435728179558), (.str 3 7239014), (.str 3 7234919), (.str 2 26217), (.str 2 28265), (.str 3 7630441), (.str 3 7628140), (.str 4 1953720684), (.str 4 1701536109), (.str 5 448345170285), (.str 5 465557548909), (.str 4 1954047342), (.str 3 7630702), (.str 2 26223), (.str 3 6647407), (.str 2 28783), (.str 2 29295), (.str 4 1801677168), (.str 4 1953722224), (.str 3 6648432), (.str 4 1886351984), (.str 7 32199706694346098), (.str 6 128009175786866), (.str 6 121437875889522), (.str 4 1885697139), (.str 6 120282512849267), (.str 4 1852139636), (.str 4 1702195828), (.str 4 1701869940), (.str 5 435710945399)]
def g1 : List AV := [(.str 2 15917), (.str 2 11580), (.str 2 15676), (.str 2 15677), (.str 2 15649), (.str 2 11822), (.str 1 40), (.str 1 41), (.str 1 91), (.str 1 93), (.str 1 123), (.str 1 125), (.str 1 44), (.str 1 59), (.str 1 58), (.str 1 61), (.str 1 60), (.str 1 43), (.str 1 45), (.str 1 42), (.str 1 47), (.str 1 124)]
def heap0 : T Blk := (.node (some (.cells g0 .ro)) (.node (some (.cells g1 .ro)) .nil .nil) .nil)
end Tw
