/- A part of the proof. No condition. -/
import Derived.Test.YtecbfpngkfdkoaaGreatP20
set_option linter.unusedSimpArgs false
set_option linter.unusedVariables false
set_option linter.unusedSectionVars false
namespace Ln
open Go.Sx Go Go.Proofs
def aJs:cd→Nat
 |.put=>0|.get=>1|.inc=>0|.readC=>1|.add=>2|.write=>0|.readR=>1
def JS(i:Nat):List AV:=(pW.drop (45*(match i with|0=>3|1=>4|_=>6))).take 45
def axj:Option AV→List AV
 |some (.sl l _ _ _)=>l
 |_=>[]
def opR(c:cd):List AV:=((axj (JS c.fm)[37]?).drop (3*aJs c)).take 3
def Y0:BJ where
 sys:=JS
 cmd _:=[]
 drw _:=[]
 par c:=(axj (opR c)[1]?).take 4
 act c:=(axj (opR c)[2]?).take 14
def uQ(i:Nat):List AV:=[I 0,vI i,.str 0 0,.nils]
def aBJ(c:cd):List AV:=match c.ar with
 |0=>[]
 |_=>yR (nmC c) (uQ 8)
def auz(c:cd):List AV:=yR 115 (uQ 0)++yR 108 (eU BM)++aBJ c
inductive TgA where
 |e1|e2|r1|r2|s (c:cd)|l (c:cd)
def Yu:TgA→Bool
 |.s c=>decide (1≤c.fm)
 |.l c=>decide (1≤c.fm)
 |_=>true
def exA:TgA→AV
 |.e1=>Qj 29 (JS 1)|.e2=>Qj 29 (JS 2)|.r1=>Qj 38 (JS 1)|.r2=>Qj 38 (JS 2)
 |.s c=>Qj 0 (Y0.act c)
 |.l c=>Qj 7 (Y0.act c)
def sE:TgA→AV
 |.e1=>.nils|.e2=>.nils
 |.r1=>.sl (yR 115 (uQ 0)) 1 5 .any|.r2=>.sl (yR 115 (uQ 0)) 1 5 .any
 |.s c=>.sl (auz c) (2+c.ar) 5 .any
 |.l c=>.sl (auz c) (2+c.ar) 5 .any
def aEx(t:TgA):List AV:=[vM,sE t,exA t,iW,zN]
def qEx:TgA→aL
 |.e1=>.leaf 403 (.tuple [.agg [I 0,I 0,.str 0 0,.nils],.agg [I 1,I 1,I 0],.nils,I 0])
 |.e2=>.leaf 403 (.tuple [.agg [I 0,I 0,.str 0 0,.nils],.agg [I 1,I 1,I 0],.nils,I 0])
 |.r1=>.leaf 511 (.tuple [.agg [I 0,vI 0,.str 0 0,.nils],.agg [I 1,I 1,I 0],.nils,I 0])
 |.r2=>.leaf 511 (.tuple [.agg [I 0,vI 0,.str 0 0,.nils],.agg [I 1,I 1,I 0],.nils,I 0])
 |.s .inc=>.leaf 857 (.tuple [.agg [I 0,.int .i64 (.bin .add .i64 (.var 0) (.lit 1)),.str 0 0,.nils],.agg [I 3,I 1,I 0],.nils,I 0])
 |.s .readC=>.leaf 622 (.tuple [.agg [I 0,vI 0,.str 0 0,.nils],.agg [I 1,I 1,I 0],.nils,I 0])
 |.s .add=>.leaf 982 (.tuple [.agg [I 0,.int .i64 (.bin .add .i64 (.var 0) (.var 8)),.str 0 0,.nils],.agg [I 3,I 1,I 0],.nils,I 0])
 |.s .write=>.leaf 699 (.tuple [.agg [I 0,vI 8,.str 0 0,.nils],.agg [I 1,I 1,I 0],.nils,I 0])
 |.s .readR=>.leaf 622 (.tuple [.agg [I 0,vI 0,.str 0 0,.nils],.agg [I 1,I 1,I 0],.nils,I 0])
 |.l .inc=>.leaf 857 (.tuple [.agg [I 0,.int .i64 (.bin .add .i64 (.var 0) (.lit 1)),.str 0 0,.nils],.agg [I 3,I 1,I 0],.nils,I 0])
 |.l .readC=>.leaf 622 (.tuple [.agg [I 0,vI 0,.str 0 0,.nils],.agg [I 1,I 1,I 0],.nils,I 0])
 |.l .add=>.leaf 982 (.tuple [.agg [I 0,.int .i64 (.bin .add .i64 (.var 0) (.var 8)),.str 0 0,.nils],.agg [I 3,I 1,I 0],.nils,I 0])
 |.l .write=>.leaf 685 (.tuple [.agg [I 0,I 0,.str 0 0,.nils],.agg [I 1,I 1,I 0],.nils,I 0])
 |.l .readR=>.leaf 622 (.tuple [.agg [I 0,vI 0,.str 0 0,.nils],.agg [I 1,I 1,I 0],.nils,I 0])
 |_=>.leaf 0 .nils
def axl:TgA→Int×Int×Int
 |.e1=>(1,1,0)
 |.e2=>(1,1,0)
 |.r1=>(1,1,0)
 |.r2=>(1,1,0)
 |.s .inc=>(3,1,0)
 |.s .readC=>(1,1,0)
 |.s .add=>(3,1,0)
 |.s .write=>(1,1,0)
 |.s .readR=>(1,1,0)
 |.l .inc=>(3,1,0)
 |.l .readC=>(1,1,0)
 |.l .add=>(3,1,0)
 |.l .write=>(1,1,0)
 |.l .readR=>(1,1,0)
 |_=>(0,0,0)
def kE:AV→Int
 |.agg [_,_,_,_,_,_,.int _ (.lit n)]=>n
 |_=>-1
def kA:TgA→Int
 |.e1=>653
 |.e2=>939
 |.r1=>664
 |.r2=>950
 |.s .inc=>684
 |.s .readC=>717
 |.s .add=>747
 |.s .write=>978
 |.s .readR=>1003
 |.l .inc=>691
 |.l .readC=>720
 |.l .add=>754
 |.l .write=>981
 |.l .readR=>1006
 |_=>-1
theorem kEx{t:TgA}(h:Yu t=true):aL.cu (CF aQ) 114 (qEx t) ⟨ai 114 (fx 114) (aEx t),[],.nil,bC⟩ [] []=true∧AV.Ey (aEx t)=true:=by
 cases t with
 |s c=>cases c<;>first|exact absurd h (by decide)|exact⟨by kernel_rfl,by kernel_rfl⟩
 |l c=>cases c<;>first|exact absurd h (by decide)|exact⟨by kernel_rfl,by kernel_rfl⟩
 |_=>exact⟨by kernel_rfl,by kernel_rfl⟩
theorem ano{t:TgA}(h:Yu t=true):kE (exA t)=kA t∧AV.lits (exA t)=true:=by
 cases t with
 |s c=>cases c<;>first|exact absurd h (by decide)|exact⟨by kernel_rfl,by kernel_rfl⟩
 |l c=>cases c<;>first|exact absurd h (by decide)|exact⟨by kernel_rfl,by kernel_rfl⟩
 |_=>exact⟨by kernel_rfl,by kernel_rfl⟩
theorem axm{t t':TgA}(h1:Yu t=true)(h2:Yu t'=true)(h:kA t=kA t'):t=t':=by
 cases t with
 |s c=>cases c<;>first|exact absurd h1 (by decide)|(cases t' with
  |s c'=>cases c'<;>first|rfl|exact absurd h2 (by decide)|exact absurd h (by decide)
  |l c'=>cases c'<;>first|exact absurd h2 (by decide)|exact absurd h (by decide)
  |_=>exact absurd h (by decide))
 |l c=>cases c<;>first|exact absurd h1 (by decide)|(cases t' with
  |l c'=>cases c'<;>first|rfl|exact absurd h2 (by decide)|exact absurd h (by decide)
  |s c'=>cases c'<;>first|exact absurd h2 (by decide)|exact absurd h (by decide)
  |_=>exact absurd h (by decide))
 |_=>cases t' with
  |s c'=>cases c'<;>first|exact absurd h2 (by decide)|exact absurd h (by decide)
  |l c'=>cases c'<;>first|exact absurd h2 (by decide)|exact absurd h (by decide)
  |_=>first|rfl|exact absurd h (by decide)
def arG(n v:Int):Nat→Int:=RE [n,0,0,0,0,0,0,0,v]
def arV(c:cd)(v:Int):List U:=match c.ar with
 |0=>[]
 |_=>[⟨0,v⟩]
def eEx(t:TgA)(n v:Int):AV:=match t with
 |.e1=>.nils|.e2=>.nils
 |.r1=>.sl (yR 115 (eS ⟨0,n,[]⟩)) 1 5 .any|.r2=>.sl (yR 115 (eS ⟨0,n,[]⟩)) 1 5 .any
 |.s c=>.sl (DB c ⟨0,n,[]⟩ (arV c v)) (2+c.ar) 5 .any
 |.l c=>.sl (DB c ⟨0,n,[]⟩ (arV c v)) (2+c.ar) 5 .any
def vEx(t:TgA)(n v:Int):List AV:=match t with
 |.e1=>eS ⟨0,0,[]⟩|.e2=>eS ⟨0,0,[]⟩
 |.r1=>eS ⟨0,n,[]⟩|.r2=>eS ⟨0,n,[]⟩
 |.s c=>eS (wP c ⟨0,n,[]⟩ (arV c v))
 |.l c=>eU (pz c ⟨0,n,[]⟩ (arV c v))
def rEx(t:TgA)(n v:Int):AV:=.tuple [.agg (vEx t n v),.agg [I (axl t).1,I (axl t).2.1,I (axl t).2.2],.nils,I 0]
theorem arH(t:TgA)(n v:Int):AV.sub (arG n v) (sE t)=eEx t n v:=by
 cases t with
 |s c=>cases c<;>rfl
 |l c=>cases c<;>rfl
 |_=>rfl
theorem axn{t:TgA}(h:Yu t=true)(n v:Int):(qEx t).dt.val (arG n v)=rEx t n v:=by
 have e1:∀(m:Int) (q:AV),AV.tuple [.agg [I 0,I (IntKind.i64.wrap m),.str 0 0,.nils],q,.nils,I 0]=.tuple [.agg [I 0,I (bD .i64 m),.str 0 0,.nils],q,.nils,I 0]:=fun m q=>by rw[eK]
 cases t with
 |s c=>cases c<;>first|exact absurd h (by decide)|rfl|exact e1 _ _
 |l c=>cases c<;>first|exact absurd h (by decide)|rfl|exact e1 _ _
 |_=>rfl
structure QA where
 t:TgA
 n:Int
 v:Int
 ok:Yu t=true
theorem axo{n n':Int}{l l':List AV}(h:yR 115 (eS ⟨0,n,[]⟩)++l=yR 115 (eS ⟨0,n',[]⟩)++l'):n=n':=by simp only[yR,eS,List.cons_append,List.cons.injEq,I,AV.int.injEq,SI.lit.injEq,true_and]at h;exact h.1
theorem anp{c:cd}{n n' v v':Int}(h:DB c ⟨0,n,[]⟩ (arV c v)=DB c ⟨0,n',[]⟩ (arV c v')):n=n'∧(c.ar=1→v=v'):=by simp only[DB,List.append_assoc]at h;have hn:=axo h;subst hn;refine⟨rfl,fun hc=>?_⟩;have h:=List.append_cancel_left (List.append_cancel_left h);cases c<;>first|exact absurd hc (by decide)|(simp only[adF,arV,cd.ar,yR,eU,I,List.cons.injEq,AV.int.injEq,SI.lit.injEq,true_and]at h;exact h.1)
theorem anq{c:cd}{v v':Int}(h:c.ar=1→v=v'):arV c v=arV c v':=by cases c<;>first|rfl|rw[h rfl]
def anr:Im:=⟨114,QA,fun q=>[vM,eEx q.t q.n q.v,exA q.t,iW,zN],fun q=>rEx q.t q.n q.v,by
 rintro⟨t,n,v,h1⟩ ⟨t',n',v',h2⟩ h;simp only[List.cons.injEq,true_and,and_true]at h;obtain⟨he,hx⟩:=h;have hk:kA t=kA t':=by rw[←(ano h1).1,←(ano h2).1,hx]
 obtain rfl:=axm h1 h2 hk;cases t with
 |e1=>rfl
 |e2=>rfl
 |r1=>simp only[eEx,AV.sl.injEq]at he;have e:n=n':=axo (l:=[]) (l':=[]) (by rw[List.append_nil,List.append_nil];exact he.1);subst e;rfl
 |r2=>simp only[eEx,AV.sl.injEq]at he;have e:n=n':=axo (l:=[]) (l':=[]) (by rw[List.append_nil,List.append_nil];exact he.1);subst e;rfl
 |s c=>simp only[eEx,AV.sl.injEq]at he;obtain⟨rfl,hv⟩:=anp he.1;simp only[rEx,vEx,anq hv]
 |l c=>simp only[eEx,AV.sl.injEq]at he;obtain⟨rfl,hv⟩:=anp he.1;simp only[rEx,vEx,anq hv]⟩
theorem ans:js Tryz.prog .nil anr:=by
 refine⟨⟨_,iJ (n:=114) (by decide)⟩,fun q=>?_⟩;obtain⟨t,n,v,h1⟩:=q;have h:=eJ (f:=114) (by decide) (kEx h1).2 (kEx h1).1 (arG n v);rw[axn h1]at h;have e:AV.gX (arG n v) (aEx t)=[vM,eEx t n v,exA t,iW,zN]:=by show [AV.sub _ vM,AV.sub _ (sE t),AV.sub _ (exA t),iW,zN]=_;rw[kr _ AS,kr _ (ano h1).2,arH]
 rw[e]at h;exact h
theorem kCM:aL.cu (CF aQ) 112 (.leaf 13575 vM) ⟨ai 112 (fx 112) [vM],[],.nil,bC⟩ [] []=true:=by kernel_rfl
def ant:Im:=⟨112,Unit,fun _=>[vM],fun _=>vM,fun _ _ _=>rfl⟩
theorem anu:js Tryz.prog .nil ant:=by
 refine⟨⟨_,iJ (n:=112) (by decide)⟩,fun _=>?_⟩;have h:=eJ (f:=112) (by decide) (l:=[vM]) (by show AV.Ey [vM]=true;simp only[AV.Ey,aar,Bool.and_true]) kCM (RE []);have e:AV.gX (RE []) [vM]=[vM]:=by show [AV.sub _ vM]=_;rw[kr _ AS]
 rw[e]at h;rw[show(aL.leaf 13575 vM).dt.val (RE [])=vM from kr _ AS]at h;exact h
structure QSy where
 b:Bool
def QSy.i(q:QSy):Nat:=bif q.b then 1 else 2
def aSy(q:QSy):List AV:=[vM,.str (anc q.i).1 (anc q.i).2]
def vSy(q:QSy):AV:=.tuple [.agg (JS q.i),.bool true]
def qSy(q:QSy):aL:=.leaf (bif q.b then 109 else 149) (vSy q)
theorem kSy(q:QSy):aL.cu (CF aQ) 113 (qSy q) ⟨ai 113 (fx 113) (aSy q),[],.nil,bC⟩ [] []=true∧AV.Ey (aSy q)=true∧AV.lits (vSy q)=true:=by obtain⟨b⟩:=q;cases b<;>exact⟨by kernel_rfl,by kernel_rfl,by kernel_rfl⟩
def ahJ:Im:=⟨113,QSy,aSy,vSy,by rintro⟨b⟩ ⟨b'⟩ h;simp only[aSy,List.cons.injEq,AV.str.injEq,and_true,true_and]at h;cases b<;>cases b'<;>first|rfl|exact absurd h.1 (by decide)⟩
theorem anv:js Tryz.prog .nil ahJ:=by
 refine⟨⟨_,iJ (n:=113) (by decide)⟩,fun q=>?_⟩;obtain⟨h1,h2,h3⟩:=kSy q;have h:=eJ (f:=113) (by decide) h2 h1 (RE []);have e:AV.gX (RE []) (aSy q)=aSy q:=by show [AV.sub _ vM,.str _ _]=_;rw[kr _ AS];rfl
 rw[e]at h;rw[show(qSy q).dt.val (RE [])=vSy q from kr _ h3]at h;exact h
structure QOp where
 c:cd
 h:1≤c.fm
def argOp(c:cd):List AV:=[.agg (JS c.fm),.str c.name.1 c.name.2]
def vOp(c:cd):AV:=.tuple [.agg (Y0.op c),.bool true]
def qOp(c:cd):aL:=.leaf (match c with|.inc=>29|.readC=>49|.add=>69|.write=>29|.readR=>49|_=>0) (vOp c)
def kS:List AV→Int
 |.agg (_ ::_ ::.int _ (.lit n) ::_) ::_=>n
 |_=>-1
theorem kOp{c:cd}(hc:1≤c.fm):aL.cu (CF aQ) 187 (qOp c) ⟨ai 187 (fx 187) (argOp c),[],.nil,bC⟩ [] []=true∧AV.Ey (argOp c)=true∧AV.dU (argOp c)=true∧AV.lits (vOp c)=true∧kS (argOp c)=bif Nat.beq c.fm 1 then 639 else 923:=by cases c<;>first|exact absurd hc (by decide)|exact⟨by kernel_rfl,by kernel_rfl,by kernel_rfl,by kernel_rfl,by kernel_rfl⟩
def anw:Im:=⟨187,QOp,fun q=>argOp q.c,fun q=>vOp q.c,by rintro⟨c,hc⟩ ⟨c',LU⟩ h;have hk:=congrArg kS h;simp only at hk;rw[(kOp hc).2.2.2.2,(kOp LU).2.2.2.2]at hk;simp only[argOp,List.cons.injEq,AV.str.injEq,and_true]at h;have hn:c.name=c'.name:=Prod.ext h.2.1 h.2.2;cases c<;>cases c'<;>first|rfl|exact absurd hk (by decide)|exact absurd hn (by decide)⟩
theorem anx:js Tryz.prog .nil anw:=by refine⟨⟨_,iJ (n:=187) (by decide)⟩,fun q=>?_⟩;obtain⟨h1,h2,h3,h4,_⟩:=kOp q.h;have h:=eJ (f:=187) (by decide) h2 h1 (RE []);rw[fL _ h3]at h;rw[show(qOp q.c).dt.val (RE [])=vOp q.c from kr _ h4]at h;exact h
end Ln
