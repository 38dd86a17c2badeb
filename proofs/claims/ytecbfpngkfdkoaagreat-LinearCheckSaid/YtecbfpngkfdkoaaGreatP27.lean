/- A part of the proof. No condition. -/
import Derived.Test.YtecbfpngkfdkoaaGreatP25
import Derived.Test.YtecbfpngkfdkoaaGreatP26
import Derived.KernelRfl
set_option linter.unusedSimpArgs false
set_option linter.unusedVariables false
set_option linter.unusedSectionVars false
namespace Ln
open Go.Sx Go Go.Proofs
theorem aqa:yv Tryz.prog .nil 125 aF vF:=auS amM (by decide) (by kernel_rfl) (Fin.seg _ _ _ ug1 (wT uf))
def aD7:T Es:=one [(aF,vF)]
theorem awm:AU Tryz.prog .nil 125 aD7:=.one ⟨aqa,trivial⟩
def ajK:List (Nat×T Es):=(125,aD7) ::avG
theorem auT:kX Tryz.prog .nil ajK:=(bY amM (by decide) awm)
end Ln
/-
 LN: closed runs. No condition.
-/
namespace Ln
open Go.Sx Go Go.Proofs
def vP:AV:=(.tuple [(.agg [(.sl qd 7 45 .any)]),(I 0),(I 0)])
noncomputable def m0:AM:=⟨ae 54 (fx 54) [ag],[],.nil,aS⟩
noncomputable def m1:AM:=⟨{fn:=54,tm:=Eo [(k2,(.ptr aS 0)),(k8,(.ptr lr 0)),(k9,(.ptr my 0))],todo:=[.inLoop (wS (fx 54).body [1,1,1,1,1,0,0,0]),.inBlock 0,.code (wS (fx 54).body [1,1,1,1,1,1])],dfs:=[],mode:=.run,Bs:=false,sy:=none,res:=(fx 54).res},[],Eo [((.e (.o (.o (.e (.o .z))))),(.cells [.nils] .fix)),((.o (.e (.o (.e (.o .z))))),(.cells [ag,(.sl ai2 403 4 .any),(I 73),(.bool false)] .fix)),((.e (.e (.o (.e (.o .z))))),(.cells [(.slice aHm 0 1 45)] .fix)),((.e (.o (.e (.o (.o (.e (.o (.e .z)))))))),(.cells (qd.take 45) .part))],(.o (.e (.e (.o (.o (.e (.o (.e .z))))))))⟩
noncomputable def m2:AM:=⟨{fn:=54,tm:=Eo [(k2,(.ptr aS 0)),(k8,(.ptr lr 0)),(k9,(.ptr my 0))],todo:=[.inLoop (wS (fx 54).body [1,1,1,1,1,0,0,0]),.inBlock 0,.code (wS (fx 54).body [1,1,1,1,1,1])],dfs:=[],mode:=.run,Bs:=false,sy:=none,res:=(fx 54).res},[],Eo [((.e (.o (.o (.e (.o .z))))),(.cells [.nils] .fix)),((.o (.e (.o (.e (.o .z))))),(.cells [ag,(.sl ai2 403 4 .any),(I 141),(.bool false)] .fix)),((.e (.e (.o (.e (.o .z))))),(.cells [(.sl (qd.take 90) 2 45 (.tok aHn))] .fix)),((.e (.o (.e (.e (.e (.o (.e (.e (.o .z))))))))),.tok)],(.o (.e (.e (.e (.e (.o (.e (.e (.o .z)))))))))⟩
noncomputable def m3:AM:=⟨{fn:=54,tm:=Eo [(k2,(.ptr aS 0)),(k8,(.ptr lr 0)),(k9,(.ptr my 0))],todo:=[.inLoop (wS (fx 54).body [1,1,1,1,1,0,0,0]),.inBlock 0,.code (wS (fx 54).body [1,1,1,1,1,1])],dfs:=[],mode:=.run,Bs:=false,sy:=none,res:=(fx 54).res},[],Eo [((.e (.o (.o (.e (.o .z))))),(.cells [.nils] .fix)),((.o (.e (.o (.e (.o .z))))),(.cells [ag,(.sl ai2 403 4 .any),(I 186),(.bool false)] .fix)),((.e (.e (.o (.e (.o .z))))),(.cells [(.sl (qd.take 135) 3 45 (.tok (.e (.e (.o (.o (.o (.e (.o (.e (.e .z)))))))))))] .fix)),((.e (.e (.o (.o (.o (.e (.o (.e (.e .z))))))))),.tok)],(.o (.o (.e (.o (.o (.e (.o (.e (.e .z)))))))))⟩
noncomputable def m4:AM:=⟨{fn:=54,tm:=Eo [(k2,(.ptr aS 0)),(k8,(.ptr lr 0)),(k9,(.ptr my 0))],todo:=[.inLoop (wS (fx 54).body [1,1,1,1,1,0,0,0]),.inBlock 0,.code (wS (fx 54).body [1,1,1,1,1,1])],dfs:=[],mode:=.run,Bs:=false,sy:=none,res:=(fx 54).res},[],Eo [((.e (.o (.o (.e (.o .z))))),(.cells [.nils] .fix)),((.o (.e (.o (.e (.o .z))))),(.cells [ag,(.sl ai2 403 4 .any),(I 243),(.bool false)] .fix)),((.e (.e (.o (.e (.o .z))))),(.cells [(.sl (qd.take 180) 4 45 (.tok (.e (.o (.e (.o (.e (.o (.o (.e (.o (.o .z))))))))))))] .fix)),((.e (.o (.e (.o (.e (.o (.o (.e (.o (.o .z)))))))))),.tok)],(.o (.e (.e (.o (.e (.o (.o (.e (.o (.o .z))))))))))⟩
noncomputable def m5:AM:=⟨{fn:=54,tm:=Eo [(k2,(.ptr aS 0)),(k8,(.ptr lr 0)),(k9,(.ptr my 0))],todo:=[.inLoop (wS (fx 54).body [1,1,1,1,1,0,0,0]),.inBlock 0,.code (wS (fx 54).body [1,1,1,1,1,1])],dfs:=[],mode:=.run,Bs:=false,sy:=none,res:=(fx 54).res},[],Eo [((.e (.o (.o (.e (.o .z))))),(.cells [.nils] .fix)),((.o (.e (.o (.e (.o .z))))),(.cells [ag,(.sl ai2 403 4 .any),(I 300),(.bool false)] .fix)),((.e (.e (.o (.e (.o .z))))),(.cells [(.sl (qd.take 225) 5 45 (.tok (.o (.e (.e (.o (.o (.e (.e (.o (.e (.o .z))))))))))))] .fix)),((.o (.e (.e (.o (.o (.e (.e (.o (.e (.o .z)))))))))),.tok)],(.e (.e (.e (.o (.o (.e (.e (.o (.e (.o .z))))))))))⟩
end Ln
