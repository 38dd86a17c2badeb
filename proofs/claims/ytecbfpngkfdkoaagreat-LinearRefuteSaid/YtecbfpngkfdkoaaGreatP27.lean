/- A part of the proof. No condition. -/
import Derived.Test.YtecbfpngkfdkoaaGreatP25
import Derived.Test.YtecbfpngkfdkoaaGreatP26
import Derived.KernelRfl
set_option linter.unusedSimpArgs false
set_option linter.unusedVariables false
set_option linter.unusedSectionVars false
namespace Ln
open Go.Sx Go Go.Proofs
theorem aqV:zj Tryz.prog .nil 125 aF vF:=avF anH (by decide) (by kernel_rfl) (Fin.seg _ _ _ ug1 (xC uf))
def aEX:T Es:=one [(aF,vF)]
theorem axl:BA Tryz.prog .nil 125 aEX:=.one ⟨aqV,trivial⟩
def akz:List (Nat×T Es):=(125,aEX) ::awq
theorem avG:l6 Tryz.prog .nil akz:=(cw anH (by decide) axl)
end Ln
/-
 LN: closed runs. No condition.
-/
namespace Ln
open Go.Sx Go Go.Proofs
def vP:AV:=(.tuple [(.agg [(.sl qU 7 45 .any)]),(I 0),(I 0)])
noncomputable def m0:AM:=⟨ae 54 (fx 54) [ai],[],.nil,aQ⟩
noncomputable def m1:AM:=⟨{fn:=54,tm:=E4 [(k2,(.ptr aQ 0)),(k8,(.ptr jU 0)),(k9,(.ptr kV 0))],todo:=[.inLoop (xB (fx 54).body [1,1,1,1,1,0,0,0]),.inBlock 0,.code (xB (fx 54).body [1,1,1,1,1,1])],dfs:=[],mode:=.run,BX:=false,qZ:=none,res:=(fx 54).res},[],E4 [((.e (.o (.o (.e (.o .z))))),(.cells [.nils] .fix)),((.o (.e (.o (.e (.o .z))))),(.cells [ai,(.sl ajS 403 4 .any),(I 73),(.bool false)] .fix)),((.e (.e (.o (.e (.o .z))))),(.cells [(.slice aIv 0 1 45)] .fix)),((.e (.o (.e (.o (.o (.e (.o (.e .z)))))))),(.cells (qU.take 45) .part))],(.o (.e (.e (.o (.o (.e (.o (.e .z))))))))⟩
noncomputable def m2:AM:=⟨{fn:=54,tm:=E4 [(k2,(.ptr aQ 0)),(k8,(.ptr jU 0)),(k9,(.ptr kV 0))],todo:=[.inLoop (xB (fx 54).body [1,1,1,1,1,0,0,0]),.inBlock 0,.code (xB (fx 54).body [1,1,1,1,1,1])],dfs:=[],mode:=.run,BX:=false,qZ:=none,res:=(fx 54).res},[],E4 [((.e (.o (.o (.e (.o .z))))),(.cells [.nils] .fix)),((.o (.e (.o (.e (.o .z))))),(.cells [ai,(.sl ajS 403 4 .any),(I 141),(.bool false)] .fix)),((.e (.e (.o (.e (.o .z))))),(.cells [(.sl (qU.take 90) 2 45 (.tok aIw))] .fix)),((.e (.o (.e (.e (.e (.o (.e (.e (.o .z))))))))),.tok)],(.o (.e (.e (.e (.e (.o (.e (.e (.o .z)))))))))⟩
noncomputable def m3:AM:=⟨{fn:=54,tm:=E4 [(k2,(.ptr aQ 0)),(k8,(.ptr jU 0)),(k9,(.ptr kV 0))],todo:=[.inLoop (xB (fx 54).body [1,1,1,1,1,0,0,0]),.inBlock 0,.code (xB (fx 54).body [1,1,1,1,1,1])],dfs:=[],mode:=.run,BX:=false,qZ:=none,res:=(fx 54).res},[],E4 [((.e (.o (.o (.e (.o .z))))),(.cells [.nils] .fix)),((.o (.e (.o (.e (.o .z))))),(.cells [ai,(.sl ajS 403 4 .any),(I 186),(.bool false)] .fix)),((.e (.e (.o (.e (.o .z))))),(.cells [(.sl (qU.take 135) 3 45 (.tok (.e (.e (.o (.o (.o (.e (.o (.e (.e .z)))))))))))] .fix)),((.e (.e (.o (.o (.o (.e (.o (.e (.e .z))))))))),.tok)],(.o (.o (.e (.o (.o (.e (.o (.e (.e .z)))))))))⟩
noncomputable def m4:AM:=⟨{fn:=54,tm:=E4 [(k2,(.ptr aQ 0)),(k8,(.ptr jU 0)),(k9,(.ptr kV 0))],todo:=[.inLoop (xB (fx 54).body [1,1,1,1,1,0,0,0]),.inBlock 0,.code (xB (fx 54).body [1,1,1,1,1,1])],dfs:=[],mode:=.run,BX:=false,qZ:=none,res:=(fx 54).res},[],E4 [((.e (.o (.o (.e (.o .z))))),(.cells [.nils] .fix)),((.o (.e (.o (.e (.o .z))))),(.cells [ai,(.sl ajS 403 4 .any),(I 243),(.bool false)] .fix)),((.e (.e (.o (.e (.o .z))))),(.cells [(.sl (qU.take 180) 4 45 (.tok (.e (.o (.e (.o (.e (.o (.o (.e (.o (.o .z))))))))))))] .fix)),((.e (.o (.e (.o (.e (.o (.o (.e (.o (.o .z)))))))))),.tok)],(.o (.e (.e (.o (.e (.o (.o (.e (.o (.o .z))))))))))⟩
noncomputable def m5:AM:=⟨{fn:=54,tm:=E4 [(k2,(.ptr aQ 0)),(k8,(.ptr jU 0)),(k9,(.ptr kV 0))],todo:=[.inLoop (xB (fx 54).body [1,1,1,1,1,0,0,0]),.inBlock 0,.code (xB (fx 54).body [1,1,1,1,1,1])],dfs:=[],mode:=.run,BX:=false,qZ:=none,res:=(fx 54).res},[],E4 [((.e (.o (.o (.e (.o .z))))),(.cells [.nils] .fix)),((.o (.e (.o (.e (.o .z))))),(.cells [ai,(.sl ajS 403 4 .any),(I 300),(.bool false)] .fix)),((.e (.e (.o (.e (.o .z))))),(.cells [(.sl (qU.take 225) 5 45 (.tok (.o (.e (.e (.o (.o (.e (.e (.o (.e (.o .z))))))))))))] .fix)),((.o (.e (.e (.o (.o (.e (.e (.o (.e (.o .z)))))))))),.tok)],(.e (.e (.e (.o (.o (.e (.e (.o (.e (.o .z))))))))))⟩
end Ln
