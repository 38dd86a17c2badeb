/- A part of the proof. No condition. -/
import Derived.Test.YtecbfpngkfdkoaaGreatP24
import Derived.Test.YtecbfpngkfdkoaaGreatP28
import Derived.Test.YtecbfpngkfdkoaaGreatRows
import Derived.WalkKit
import Derived.ProofKit
import Derived.OpenShut
import Derived.Handed
import Derived.JoinedOf
import Derived.RowKit
import Derived.RowKitTokens
import Derived.Carry
namespace Go.Proofs.YtecbfpngkfdkoaaGreat.linearBytes
open Go.ChangeShapes Go.WideShapes Go.ChangeAt Go.RowKit
theorem own:ownKnob Tryz.prog.godebug=none:=by kernel_rfl
theorem laidOut:laidOutB Tryz.prog=true:=by kernel_rfl
theorem u22:Tryz.prog.underlying 22=some (.slice 3):=by kernel_rfl
theorem u3:Tryz.prog.underlying 3=some (.int .i64):=by kernel_rfl
theorem u81:Tryz.prog.underlying 81=some (.slice 5):=by kernel_rfl
theorem u5:Tryz.prog.underlying 5=some (.int .u8):=by kernel_rfl
theorem c5:Tryz.prog.cellsOf 5=1:=by kernel_rfl
theorem u4:Tryz.prog.underlying 4=some .bool:=by kernel_rfl
theorem c3:Tryz.prog.cellsOf 3=1:=by kernel_rfl
theorem gN:Tryz.prog.globals.size=0:=by kernel_rfl
open Go.Sx in
theorem U6(W:World):nO Tryz.prog .nil ⟨W,zW W⟩:=⟨by rw[gN];exact Nat.zero_le _,fun b B h=>by simp at h⟩
open Go.Sx in
theorem NP{W:World}{b o:Nat}{v:Value}(h:W.cell? ⟨b,o,none⟩=some v):zW W b o=some v:=by unfold zW;unfold World.cell? at h;split at h<;>simp_all
open Go.Sx in
def Mx(W:World)(v:Value)(l:List Int):Prop:=(v=.slice none 0 0∧l=[])∨∃(a:Addr) (cap b o:Nat),v=.slice (some a) l.length cap∧l.length≤cap∧(cap=0∨a=⟨b,o,none⟩)∧∀i (h:i<l.length),zW W b (o+i)=some (.int .i64 l[i])
open Go.Sx in
theorem RZ{W:World}{v:Value}{l:List Int}(hv:Mx W v l):∃cl,py 1 Ln.eI cl l∧aA (fun _=>0) (UN Tryz.prog .nil (zW W)) cl v:=by
 have hm:∀l:List Int,an Ln.eI l=l.map I:=fun l=>by
  induction l with
  |nil=>rfl
  |cons a l ih=>rw[db,ih];rfl
 rcases hv with⟨rfl,rfl⟩|⟨ad,cap,b,o,rfl,qZ,ja,hz⟩
 ·exact⟨.nils,.inl ⟨rfl,rfl⟩,.nils⟩
 ·refine⟨.sl (l.map I) l.length 1 .any,.inr (by rw[hm]),.sl _ _ _ _ cap b o ad (l.map fun n=>Value.int .i64 n) ?_ (by simp) qZ ja ?_ trivial⟩
  ·refine ao.EP (by simp) fun i y hy=>?_;simp at hy;obtain⟨n,hn,rfl⟩:=hy;exact⟨.int .i64 n,by simp[hn],.int _ _ _ rfl⟩
  ·intro i y hy;simp at hy;obtain⟨n,hn,rfl⟩:=hy;obtain⟨hi,rfl⟩:=List.getElem?_eq_some_iff.1 hn;exact hz i hi
open Go.Sx in
def R0(W:World)(v:Value)(l:List Nat):Prop:=(v=.slice none 0 0∧l=[])∨∃(a:Addr) (cap b o:Nat),v=.slice (some a) l.length cap∧l.length≤cap∧(cap=0∨a=⟨b,o,none⟩)∧∀i (h:i<l.length),zW W b (o+i)=some (.int .u8 ((l[i]:Nat):Int))
open Go.Sx in
theorem O5{W:World}{v:Value}{l:List Nat}(hv:R0 W v l):∃cl,py 1 Ln.eY cl l∧aA (fun _=>0) (UN Tryz.prog .nil (zW W)) cl v:=by
 have hm:∀l:List Nat,an Ln.eY l=l.map fun b:Nat=>AV.int .u8 (.lit (b:Int)):=fun l=>by
  induction l with
  |nil=>rfl
  |cons a l ih=>rw[db,ih];rfl
 rcases hv with⟨rfl,rfl⟩|⟨ad,cap,b,o,rfl,qZ,ja,hz⟩
 ·exact⟨.nils,.inl ⟨rfl,rfl⟩,.nils⟩
 ·refine⟨.sl (l.map fun b:Nat=>AV.int .u8 (.lit (b:Int))) l.length 1 .any,.inr (by rw[hm]),.sl _ _ _ _ cap b o ad (l.map fun n:Nat=>Value.int .u8 (n:Int)) ?_ (by simp) qZ ja ?_ trivial⟩
  ·refine ao.EP (by simp) fun i y hy=>?_;simp at hy;obtain⟨n,hn,rfl⟩:=hy;exact⟨.int .u8 (n:Int),by simp[hn],.int _ _ _ rfl⟩
  ·intro i y hy;simp at hy;obtain⟨n,hn,rfl⟩:=hy;obtain⟨hi,rfl⟩:=List.getElem?_eq_some_iff.1 hn;exact hz i hi
open Go.Sx in
theorem walk{W:World}{v0:Value}{l0:List Int}{a1:Int}{v2:Value}{l2:List Nat}{a3:Int}{a4:Nat}(hv0:Mx W v0 l0)(in0:∀x∈l0,Ln.eB x)(in1:Ln.eB a1)(hv2:R0 W v2 l2)(in2:∀x∈l2,x<256)(in3:Ln.eB a3)(in4:a4<256) :
  Calls Tryz.prog 9 #[v0,.int .i64 a1,v2,.int .i64 a3,.int .u8 (a4:Int)] W fun e w'=>e=.returned (.bool true)∧Below W.heap.size W w':=by
 have hl:=U6 W;have hM:=HL (ρ:=fun _=>0) hl U7 (nx:=sh.toNat) Ln.few;have X:=Ln.ai3 (ρ:=fun _=>0) _ hl;obtain⟨cl0,Oy,hr0⟩:=RZ hv0;obtain⟨cl2,hc2,JW⟩:=O5 hv2;have hc:=Ln.OH Ln.ai4 Oy in0 in1 hc2 in2 in3 in4 .nil sh;refine(FE X hM (fun _ _ h=>h) (args:=#[v0,.int .i64 a1,v2,.int .i64 a3,.int .u8 (a4:Int)]) (.cons _ _ _ _ hr0 (.cons _ _ _ _ (.int _ _ _ rfl) (.cons _ _ _ _ JW (.cons _ _ _ _ (.int _ _ _ rfl) (.cons _ _ _ _ (.int _ _ _ rfl) .nil))))) (fun o h nx h1=>⟨_,h1.1⟩) hc).mono ?_;rintro e w' ⟨v,h',nx',u,μ,G,⟨hv,_⟩,rfl,hr,_,Xi,_⟩;cases hv;cases hr;exact⟨rfl,Xi.below⟩
theorem IY{n:Int}(h:(Lit.int .i64 n).wf=true):Ln.eB n:=by
 have e1:IntKind.i64.min=-9223372036854775808:=by decide
 have e2:IntKind.i64.max=9223372036854775807:=by decide
 simp[Lit.wf,e1,e2]at h;unfold Ln.eB;omega
theorem U8{W:World}{H:Type}{enc:TypeId×Value→H}{ad0:Option Addr}{len cap:Nat}{d:DataW H}{p:List MemPlace}(h0:DataW.Trod enc Tryz.prog W 0 (fun _=>true) true 22 (.slice ad0 len cap) d p):∃l:List Int,(∀x∈l,Ln.eB x)∧Mx W (.slice ad0 len cap) l:=by
 obtain⟨fuel,hf⟩:=h0;rcases open_ints u22 u3 c3 hf with⟨ud,hx⟩|⟨a,ai5,Uh,zs,ud,_,hl,hm,hz,hx,uM,hwz⟩
 ·simp[Value.cells]at ud;obtain⟨rfl,rfl,rfl⟩:=ud;exact⟨[],fun n hn=>by simp at hn,.inl ⟨rfl,rfl⟩⟩
 ·simp[Value.cells]at ud;obtain⟨rfl,rfl,rfl⟩:=ud;simp only[if_true]at hz;obtain⟨b,off,spot⟩:=a;refine⟨zs.take len,fun n hn=>IY (hwz n (List.mem_of_mem_take hn)),.inr ⟨⟨b,off,spot⟩,cap,b,off,?_,by simp;omega,?_,?_⟩⟩
  ·rw[List.length_take,Nat.min_eq_left (by omega)]
  ·by_cases hc:cap=0
   ·exact .inl hc
   ·right;have FG:spot=none:=by simpa[Addr.add]using World.cell?_spot (uM 0 (by omega))
    subst FG;rfl
  ·intro i hi;have UW:i<len∧i<zs.length:=by simp at hi;omega
   have U1:=uM i UW.2;have FG:spot=none:=by simpa[Addr.add]using World.cell?_spot (uM 0 (by omega))
   subst FG;rw[add_plain]at U1;have:=NP U1;rw[this];simp[List.getD,List.getElem?_eq_getElem UW.2]
theorem Sa{W:World}{H:Type}{enc:TypeId×Value→H}{ad0:Option Addr}{len cap:Nat}{d:DataW H}{p:List MemPlace}(h0:DataW.Trod enc Tryz.prog W 0 (fun _=>true) true 81 (.slice ad0 len cap) d p):∃l:List Nat,(∀b∈l,b<256)∧R0 W (.slice ad0 len cap) l:=by
 obtain⟨fuel,hf⟩:=h0;rcases open_ints u81 u5 c5 hf with⟨ud,hx⟩|⟨a,ai5,Uh,zs,ud,_,hl,hm,hz,hx,uM,hwz⟩
 ·simp[Value.cells]at ud;obtain⟨rfl,rfl,rfl⟩:=ud;exact⟨[],fun n hn=>by simp at hn,.inl ⟨rfl,rfl⟩⟩
 ·simp[Value.cells]at ud;obtain⟨rfl,rfl,rfl⟩:=ud;simp only[if_true]at hz;obtain⟨b,off,spot⟩:=a;have V0:∀n∈zs,0≤n∧n<256:=by
   intro n hn;have h5:=hwz n hn;have e1:IntKind.u8.min=0:=by decide
   have e2:IntKind.u8.max=255:=by decide
   simp[Lit.wf,e1,e2]at h5;omega
  refine⟨(zs.take len).map Int.toNat,fun n hn=>?_,.inr ⟨⟨b,off,spot⟩,cap,b,off,?_,by simp;omega,?_,?_⟩⟩
  ·obtain⟨z,ZQ,rfl⟩:=List.mem_map.1 hn;have:=V0 z (List.mem_of_mem_take ZQ);omega
  ·rw[List.length_map,List.length_take,Nat.min_eq_left (by omega)]
  ·by_cases hc:cap=0
   ·exact .inl hc
   ·right;have FG:spot=none:=by simpa[Addr.add]using World.cell?_spot (uM 0 (by omega))
    subst FG;rfl
  ·intro i hi;have UW:i<len∧i<zs.length:=by simp at hi;omega
   have U1:=uM i UW.2;have FG:spot=none:=by simpa[Addr.add]using World.cell?_spot (uM 0 (by omega))
   subst FG;rw[add_plain]at U1;have:=NP U1;rw[this];have hb:=V0 zs[i] (List.getElem_mem UW.2);have e:((zs[i].toNat:Nat):Int)=zs[i]:=by omega
   simp[List.getD,List.getElem?_eq_getElem UW.2];omega
theorem adX{n:Int}(h:(Lit.int .u8 n).wf=true):∃y:Nat,n=y∧y<256:=by
 have e1:IntKind.u8.min=0:=by decide
 have e2:IntKind.u8.max=255:=by decide
 simp[Lit.wf,e1,e2]at h;exact⟨n.toNat,by omega,by omega⟩
set_option maxRecDepth 100000 in
theorem lifted(os:Os)(started:os.Started)(H:Type)(enc:TypeId×Value→H) :
  ReturnsInHanded {} Tryz.checked os 9 .any (Rows.linearBytesSpec.pre6 enc Tryz.prog Tryz.f9 [] false) (Rows.linearBytesSpec.post enc Tryz.prog Tryz.f9 false true false false):=by
 refine returnsInHanded_of_change (C:=Tryz.checked) own started (by kernel_rfl) Tryz.func9
  (ChangeSpec.witness6 (enc:=enc) (C:=Tryz.checked) false ⟨#[],#[.slice none 0 0,.int .i64 0,.slice none 0 0,.int .i64 0,.int .u8 0],[]⟩ 8 (by kernel_rfl) (by kernel_rfl) (by kernel_rfl) (by kernel_rfl)) ?_
 intro W base args ds gs before Xr hW _ _;have Fx:∀(j:Nat) t v,Tryz.f9.params[j]?=some t→args[j]?=some v→Value.okWide Tryz.prog W .any base t v:=Xr;have hW':=hW;obtain⟨p,q,hA0,hV,rfl,PC,Da⟩:=hW;have hA:DataW.TrodAll enc Tryz.prog W 0 (fun _=>true) true Tryz.f9.params.toList args.toList ds p:=hA0;rw[Tryz.params9]at hA Fx;obtain⟨v0,vs0,d0,ds0,p0,q0,dJ,rfl,rfl,h0,r0⟩:=trodAll_cons hA;obtain⟨v1,vs1,d1,ds1,p1,q1,rfl,rfl,rfl,h1,r1⟩:=trodAll_cons r0;obtain⟨v2,vs2,d2,ds2,p2,q2,rfl,rfl,rfl,h2,r2⟩:=trodAll_cons r1;obtain⟨v3,vs3,d3,ds3,p3,q3,rfl,rfl,rfl,h3,r3⟩:=trodAll_cons r2;obtain⟨v4,vs4,d4,ds4,p4,q4,rfl,rfl,rfl,h4,r4⟩:=trodAll_cons r3;obtain⟨rfl,rfl,rfl⟩:=trodAll_nil r4;obtain rfl:args=#[v0,v1,v2,v3,v4]:=by cases args;simp_all
 obtain⟨rfl,rfl⟩:=trodVars_none hV;obtain⟨ad0,ai7,ai8,rfl⟩:=okWide_slice u22 (Fx 0 22 v0 rfl rfl);obtain⟨a1,rfl,rfl,rfl,w1⟩:=open_int u3 (Fx 1 3 v1 rfl rfl) h1;obtain⟨ad2,ai9,aja,rfl⟩:=okWide_slice u81 (Fx 2 81 v2 rfl rfl);obtain⟨a3,rfl,rfl,rfl,w3⟩:=open_int u3 (Fx 3 3 v3 rfl rfl) h3;obtain⟨a4,rfl,rfl,rfl,w4⟩:=open_int u5 (Fx 4 5 v4 rfl rfl) h4;clear hA0 Xr;simp only[List.append_nil]at hW';have ajb:∀y∈p0,y.block<W.heap.size:=fun y hy=>by simpa using hW'.lt y (by simp[hy])
 have aae:∀(W':World),Below W.heap.size W W'→DataW.Trod enc Tryz.prog W' 0 (fun b=>decide (b<W.heap.size)) true 22 (.slice ad0 ai7 ai8) d0 p0:=
  fun W' hn=>Below.trod laidOut (by kernel_rfl) (of_decide_eq_true (by kernel_rfl)) h0 hn ajb
 obtain⟨l0,in0,hs0⟩:=U8 h0;have ajc:∀y∈p2,y.block<W.heap.size:=fun y hy=>by simpa using hW'.lt y (by simp[hy])
 have aaf:∀(W':World),Below W.heap.size W W'→DataW.Trod enc Tryz.prog W' 0 (fun b=>decide (b<W.heap.size)) true 81 (.slice ad2 ai9 aja) d2 p2:=
  fun W' hn=>Below.trod laidOut (by kernel_rfl) (of_decide_eq_true (by kernel_rfl)) h2 hn ajc
 obtain⟨l2,in2,Wf⟩:=Sa h2;obtain⟨y4,rfl,in4⟩:=adX w4;refine(walk hs0 in0 (IY w1) Wf in2 (IY w3) in4).mono fun e W' ⟨he,hg⟩=>?_;subst he;refine⟨_,rfl,_,_,_,[],(p0++([]++(p2++([]++([] ++ []))))),[],hW',?_,?_,?_,hg.frame _,fun h=>by cases h⟩
 ·exact(trodAll_cons_mk (shut_bool u4 _) trodAll_mk0)
 ·exact(trodAll_cons_mk (aae _ hg) (trodAll_cons_mk (shut_int u3 w1) (trodAll_cons_mk (aaf _ hg) (trodAll_cons_mk (shut_int u3 w3) (trodAll_cons_mk (shut_int u5 w4) trodAll_mk0)))))
 ·rfl
end Go.Proofs.YtecbfpngkfdkoaaGreat.linearBytes
