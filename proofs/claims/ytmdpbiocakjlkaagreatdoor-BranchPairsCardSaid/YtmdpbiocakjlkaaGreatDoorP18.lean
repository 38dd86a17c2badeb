/- A part of the proof. No condition. -/
import Derived.Test.YtmdpbiocakjlkaaGreatDoorP17
import Derived.Test.YtmdpbiocakjlkaaGreatDoorCards
import Derived.Test.YtmdpbiocakjlkaaGreatDoorTie
import Derived.SevenTiedAt
import Derived.ChangeVars
import Derived.JoinedOf
import Derived.RowKit
import Derived.RowKitTokens
import Derived.LaidHandle
import Derived.Stop.Joined
import Derived.Carry
set_option linter.unusedSimpArgs false
set_option linter.unusedVariables false
set_option linter.unusedSectionVars false
namespace Go.Proofs.YtmdpbiocakjlkaaGreatDoor.branchPairs
open Go.ChangeShapes Go.WideShapes Go.ChangeAt Go.RowKit
def strs(d:DataW Unit):Array Value:=((Sx.UD d).map fun z=>Value.string ⟨z.toArray⟩).toArray
noncomputable def aa6(os:Os):World:=
 let w0:=World.holding Tryz.prog os ⟨#[],#[],[]⟩
 {w0 with heap:=(w0.heap.modify 0 fun
   |.cells _ t frozen=>.cells (strs Rows.laid_refuter_parser_reserved) t frozen
   |o=>o).modify 1 fun
   |.cells _ t frozen=>.cells (strs Rows.laid_refuter_lexer_symbols) t frozen
   |o=>o}
theorem aap(os:Os)(args:Array Value):laidMet Tryz.prog Rows.branchPairsRow.laid ((aa6 os).forCall (fun _ _=>0) ⟨#[],args,[]⟩).memory:=
 laidMet_of_run' 8 (by kernel_rfl) (by kernel_rfl)
theorem aqC{zs:List Int}(h:∀ n∈zs,(Lit.int .i64 n).wf=true):Tb.inR zs:=by
 intro n hn
 have h5:=h n hn
 have e1:IntKind.i64.min=-9223372036854775808:=by decide
 have e2:IntKind.i64.max=9223372036854775807:=by decide
 simp[Lit.wf,e1,e2] at h5
 omega
theorem agV{W:World}{H:Type}{enc:TypeId×Value→H}{ad0:Option Addr}{len cap:Nat}{d:DataW H}{p:List MemPlace}(h0:DataW.Trod enc Tryz.prog W 0 (fun _=>true) true 22 (.slice ad0 len cap) d p):∃ l:List Int,Tb.inR l∧ab9 W (.slice ad0 len cap) l:=by
 obtain⟨fuel,hf⟩:=h0
 rcases open_ints u22 u3 c3 hf with⟨ON,hx⟩|⟨a,aff,aqD,zs,ON,_,hl,hm,hz,hx,Jk,hwz⟩
 ·simp[Value.cells] at ON
  obtain⟨rfl,rfl,rfl⟩:=ON
  exact⟨[],fun n hn=>by simp at hn,.inl ⟨rfl,rfl⟩⟩
 ·simp[Value.cells] at ON
  obtain⟨rfl,rfl,rfl⟩:=ON
  simp only[if_true] at hz
  obtain⟨b,off,spot⟩:=a
  refine⟨zs.take len,aqC fun n hn=>hwz n (List.mem_of_mem_take hn),.inr ⟨⟨b,off,spot⟩,cap,b,off,?_,by simp;omega,?_,?_⟩⟩
  ·rw[List.length_take,Nat.min_eq_left (by omega)]
  ·by_cases hc:cap=0
   ·exact .inl hc
   ·right
    have ajQ:spot=none:=by simpa[Addr.add] using World.cell?_spot (Jk 0 (by omega))
    subst ajQ
    rfl
  ·intro i hi
   have hi2:i<len∧i<zs.length:=by simp at hi;omega
   have hci:=Jk i hi2.2
   have ajQ:spot=none:=by simpa[Addr.add] using World.cell?_spot (Jk 0 (by omega))
   subst ajQ
   rw[add_plain] at hci
   have:=amI hci
   rw[this]
   simp[List.getD,List.getElem?_eq_getElem hi2.2]
set_option maxRecDepth 100000 in
theorem lifted(os:Os)(started:os.Started)(H:Type)(enc:TypeId×Value→H) :
  ReturnsInHanded {} Tryz.checked os 3 .any (fun w args=>(Rows.branchPairsSpec.pre enc Tryz.prog Tryz.f3 [] false w args∧laidMet Tryz.prog Rows.branchPairsRow.laid w)∧sizedMet enc Tryz.prog Tryz.f3 (OpenSpec.ofChange Rows.branchPairsSpec) false w args)
   (Rows.branchPairsSpec.post enc Tryz.prog Tryz.f3 false true false false):=by
 refine returnsInHanded_of_change_and (C:=Tryz.checked) (X:=fun w _=>laidMet Tryz.prog Rows.branchPairsRow.laid w) (fun _ _ _ hh h=>h.of_heap hh) own started (by kernel_rfl) Tryz.func3
  (ChangeSpec.witness_at (enc:=enc) (C:=Tryz.checked) (os:=os) (X:=fun w _=>laidMet Tryz.prog Rows.branchPairsRow.laid w) false (aa6 os) #[.slice none 0 0,.slice none 0 0] 8 rfl (by kernel_rfl) (by kernel_rfl) (by kernel_rfl) (by kernel_rfl) (by kernel_rfl) (aap os _)) ?_
 intro W base args ds gs before aoG hW _ _ hL _
 have adH:∀ (j:Nat) t v,Tryz.f3.params[j]?=some t→args[j]?=some v→Value.okWide Tryz.prog W .any base t v:=aoG
 have hW':=hW
 obtain⟨p,q,hA0,hV,rfl,hfz,VA⟩:=hW
 have hA:DataW.TrodAll enc Tryz.prog W 0 (fun _=>true) true Tryz.f3.params.toList args.toList ds p:=hA0
 rw[Tryz.params3] at hA adH
 obtain⟨v0,vs0,d0,ds0,p0,q0,iv,rfl,rfl,h0,r0⟩:=trodAll_cons hA
 obtain⟨v1,vs1,d1,ds1,p1,q1,rfl,rfl,rfl,h1,r1⟩:=trodAll_cons r0
 obtain⟨rfl,rfl,rfl⟩:=trodAll_nil r1
 obtain rfl:args=#[v0,v1]:=by cases args;simp_all
 obtain⟨rfl,rfl⟩:=trodVars_none hV
 obtain⟨ad0,len,cap,rfl⟩:=okWide_slice u22 (adH 0 22 v0 rfl rfl)
 obtain⟨ad1,aA4,aA5,rfl⟩:=okWide_slice u22 (adH 1 22 v1 rfl rfl)
 clear hA0 aoG
 simp only[List.append_nil] at hW'
 have aA6:∀ y∈p0,y.block<W.heap.size:=fun y hy=>by simpa using hW'.lt y (by simp[hy])
 have aqE:∀ y∈p1,y.block<W.heap.size:=fun y hy=>by simpa using hW'.lt y (by simp[hy])
 have aqF:∀ (W':World),Below W.heap.size W W'→DataW.Trod enc Tryz.prog W' 0 (fun b=>decide (b<W.heap.size)) true 22 (.slice ad0 len cap) d0 p0:=
  fun W' hn=>Below.trod laidOut (by kernel_rfl) (of_decide_eq_true (by kernel_rfl)) h0 hn aA6
 have aqG:∀ (W':World),Below W.heap.size W W'→DataW.Trod enc Tryz.prog W' 0 (fun b=>decide (b<W.heap.size)) true 22 (.slice ad1 aA4 aA5) d1 p1:=
  fun W' hn=>Below.trod laidOut (by kernel_rfl) (of_decide_eq_true (by kernel_rfl)) h1 hn aqE
 obtain⟨l,UE,hs⟩:=agV h0
 obtain⟨m,him,ht⟩:=agV h1
 refine(walk hs ht UE him hL).mono fun e W' ⟨he,hg⟩=>?_
 subst he
 refine⟨_,rfl,_,_,_,[],p0++(p1 ++ []),[],hW',?_,?_,?_,hg.frame _,fun h=>by cases h⟩
 ·exact(trodAll_cons_mk (shut_bool u4 _) trodAll_mk0)
 ·exact(trodAll_cons_mk (aqF _ hg) (trodAll_cons_mk (aqG _ hg) trodAll_mk0))
 ·rfl
theorem row_holds:Rows.BranchPairsSaid:=
 OpenClaim.holds_of_wide 3 Tryz.f3 rfl rfl rfl rfl rfl rfl rfl ⟨rfl,rfl,rfl,rfl,rfl⟩ rfl rfl rfl rfl rfl (by kernel_rfl) Tryz.func3 (by kernel_rfl)
  (of_decide_eq_true (by kernel_rfl)) (by unfold Func.isWrapper;first|(rw[if_pos (by decide +kernel)];kernel_rfl)|(rw[if_neg (by decide +kernel)];exact⟨rfl,rfl⟩))
  (fun os started H enc _=>lifted os started H enc)
theorem card_holds:Rows.BranchPairsCardSaid:=
 Claim7.holds_tied_plain_at .later [] [.data, .data] true (true, "2fffbcb02179eb85bbc685ba3396894e62340571fcdbceb503b181bd3b8cd58d") true
  row_holds (fun _ h=>by cases h) (by kernel_rfl) (fun _ h=>by cases h) branchPairs_row_tie rfl ⟨rfl,rfl⟩ (by kernel_rfl) rfl
  (fun f fn hf Ui=>by
   obtain rfl:f=3:=Option.some.inj ((show Tryz.prog.funcNamed Rows.branchPairsRow.func=some 3 by kernel_rfl).symm.trans hf) |>.symm
   obtain rfl:fn=Tryz.f3:=(Option.some.inj (Tryz.func3.symm.trans Ui)).symm
   exact⟨by kernel_rfl,fun j t ht=>by
    rw[Tryz.params3] at ht
    have h3:t=22:=by
     rcases j with _|_|j
     ·exact(Option.some.inj ht).symm
     ·exact(Option.some.inj ht).symm
     ·simp at ht
    subst h3
    exact(show Tryz.prog.wantsStandIn 22=false by kernel_rfl)⟩)
  (by kernel_rfl)
#print axioms card_holds
end Go.Proofs.YtmdpbiocakjlkaaGreatDoor.branchPairs
