/- A part of the proof. No condition. -/
import Derived.Test.YtecbfpngkfdkoaaGreatP22
import Derived.Test.YtecbfpngkfdkoaaGreatP38
import Derived.Test.YtecbfpngkfdkoaaGreatP16
import Derived.Test.YtecbfpngkfdkoaaGreatP15
set_option linter.unusedSimpArgs false
set_option linter.unusedVariables false
set_option linter.unusedSectionVars false
namespace Ln
open Go.Sx Go Go.Proofs
def okL(n:Nat)(l:List AV):Bool:=Nat.beq l.length n&&l.all aai&&AV.dA l
theorem H6{n:Nat}{l:List AV}(h:okL n l=true):ZS n l:=by unfold okL at h;rw[kW,kW,xM]at h;exact⟨pZ h.1.1,fun y hy=>(HY (h.1.2 y hy)).1,fun y hy=>(HY (h.1.2 y hy)).2,h.2⟩
theorem arf{i:Nat}(hi:i<3):okL 45 (xP i)=true:=by
 match i,hi with
 |0,_=>show okL 45 (xP 0)=true;kernel_rfl
 |1,_=>show okL 45 (xP 1)=true;kernel_rfl
 |2,_=>show okL 45 (xP 2)=true;kernel_rfl
theorem arh{i:Nat}(hi:i<3):okL 45 (DI i)=true:=by
 match i,hi with
 |0,_=>show okL 45 (DI 0)=true;kernel_rfl
 |1,_=>show okL 45 (DI 1)=true;kernel_rfl
 |2,_=>show okL 45 (DI 2)=true;kernel_rfl
theorem ari(c:aX):okL 14 (Y0.act c)=true:=by cases c<;>kernel_rfl
def auF(c:aX)(l:List AV)(z:Nat):Option AV→Bool
 |some v=>AV.beq v (Dc c l z)
 |none=>false
theorem amB{c:aX}{l:List AV}{z:Nat}{o:Option AV}(h:auF c l z o=true):o=some (Dc c l z):=by
 cases o with
 |none=>cases h
 |some v=>rw[AV.eq_of_beq _ _ h]
theorem awH(c:aX):auF c (Y0.WH c) 11 (Y0.cmd c)[1]?=true:=by cases c<;>kernel_rfl
def arI(n:Nat):Option AV→Bool
 |some (.str a b)=>Nat.beq a 1&&Nat.beq b n
 |_=>false
theorem ahs{n:Nat}{o:Option AV}(h:arI n o=true):o=some (.str 1 n):=by
 unfold arI at h;split at h
 ·rw[kW]at h;rw[pZ h.1,pZ h.2]
 ·cases h
theorem auk{c:aX}(h:c.ar=1):okL 11 (Y0.WH c)=true∧arI (nmC c) (Y0.WH c)[0]?=true:=by cases c<;>first|exact absurd h (by decide)|exact⟨by kernel_rfl,by kernel_rfl⟩
theorem aul{c:aX}(h:c.ar=1):okL 4 (Y0.par c)=true∧arI (nmC c) (Y0.par c)[0]?=true:=by cases c<;>first|exact absurd h (by decide)|exact⟨by kernel_rfl,by kernel_rfl⟩
theorem getD_some{o:Option AV}{v:AV}(h:o=some v):o.getD .nils=v:=by rw[h];rfl
theorem U5{F:FW}(hm:F∈fI)(hf:Nat.beq F.f 63=false)(q:F.Q)(h:T ai)(nx:Key):CS.sum F.f (F.args q) h nx=some (F.res q,h,nx):=(ei hf _ h nx).trans (bE hm ej q h nx)
theorem aG6:Seq CS K0 Y0 where
 f:=aBO
 adR:=awa
 dec _ hi:=H6 (arf hi)
 sys _ hi:=H6 (arh hi)
 cmd c:=H6 (n:=23) (ag9 _ _)
 amA c:=amB (awH c)
 WH _ h:=⟨H6 (auk h).1,ahs (auk h).2⟩
 par _ h:=⟨H6 (aul h).1,ahs (aul h).2⟩
 act c:=H6 (ari c)
 amC i hi h nx:=U5 (F:=Ai) (by simp[fI]) (by decide) (.inr ⟨i,hi⟩) h nx
 aht i hi h nx:=U5 (F:=RC) (by simp[fI]) (by decide) (.inl ⟨false,i,hi⟩) h nx
 ahu i hi h nx:=U5 (F:=RC) (by simp[fI]) (by decide) (.inl ⟨true,i,hi⟩) h nx
 aum c v hv h nx:=by have e:CS.sum 171 [((xP c.fZ)[36]?).getD .nils,.str c.name.1 c.name.2,.fn 172 [] []] h nx=some (vNC c,h,nx):=U5 (F:=amv) (by simp[fI]) (by decide) c h nx;rw[getD_some (show(xP c.fZ)[36]?=some v from hv)]at e;exact e
 aBP c v hv h nx:=by have e:CS.sum 176 [((DI c.fZ)[37]?).getD .nils,.str c.name.1 c.name.2,.fn 177 [] []] h nx=some (vNO c,h,nx):=U5 (F:=amx) (by simp[fI]) (by decide) c h nx;rw[getD_some (show(DI c.fZ)[37]?=some v from hv)]at e;exact e
 aun c s a hs ha h nx:=U5 (F:=ahp) (by simp[fI]) (by decide) (⟨false,c,s,a,.of hs ha,fun h=>by cases h⟩:QTr) h nx
 alf c s a hs ha hc h nx:=U5 (F:=ahp) (by simp[fI]) (by decide) (⟨true,c,s,a,.of hs ha,fun _=>hc⟩:QTr) h nx
 atT c s a hs ha hc h nx:=U5 (F:=RC) (by simp[fI]) (by decide) (.inr ⟨.n,c,s,a,.of hs ha,hc⟩) h nx
 auo c s a hs ha hc h nx:=U5 (F:=RC) (by simp[fI]) (by decide) (.inr ⟨.s,c,s,a,.of hs ha,hc⟩) h nx
 aup c s a hs ha hc h nx:=U5 (F:=RC) (by simp[fI]) (by decide) (.inr ⟨.l,c,s,a,.of hs ha,hc⟩) h nx
end Ln
namespace Ln
open Go.Sx Go
theorem jh(s:St):(eS s).length=4:=rfl
theorem gM(u:U):(eU u).length=4:=rfl
structure Rc where
 s:St
 sh:St
 cR:AV
 cS:AV
 pos:Int
 cl:List AV
 cmd:List AV
 op:List AV
 args:AV
 res:U
structure Rc.Ok(z:Rc):Prop where
 cl:z.cl.length=3
 cmd:z.cmd.length=23
 op:z.op.length=3
theorem UK{α:Type}{l a b c:List α}{o n:Nat}(h:l=a++(b++c))(ha:a.length=o)(hb:b.length=n):List.take n (List.drop o l)=b∧List.drop (o+n) l=c∧List.take o l=a:=by subst h ha hb;refine⟨by simp,?_,by simp⟩;rw[←List.append_assoc,List.drop_append_of_le_length (by simp),List.drop_eq_nil_of_le (by simp),List.nil_append]
theorem awm{α:Type}{l a c:List α}{x:α}{o:Nat}(h:l=a++([x]++c))(ha:a.length=o):l[o]?=some x:=by subst h ha;simp
theorem al1{α:Type}{l a b c:List α}{o n k:Nat}(h:l=a++(b++c))(ha:a.length=o)(hb:b.length=n)(hk:k<n):l[o+k]?=b[k]?:=by subst h ha;rw[List.getElem?_append_right (by omega),show a.length+k-a.length=k by omega,List.getElem?_append_left (by omega)]
theorem al2{α:Type}{l a b c:List α}{o n k q:Nat}(h:l=a++(b++c))(ha:a.length=o)(hb:b.length=n)(hk:k+q≤n):List.take q (List.drop (o+k) l)=List.take q (List.drop k b):=by subst h ha;rw[zqq,List.drop_eq_nil_of_le (show a.length≤a.length+k by omega),List.nil_append,show a.length+k-a.length=k by omega,List.drop_append_of_le_length (by omega),List.take_append_of_le_length (by rw[List.length_drop];omega)]
def rB(X:Kn)(Y:zF)(i:Nat)(z:Rc):List AV:=[AV.sl X.rows 7 45 .any]++(X.dec i++(Y.sys i++([I 200,I 50]++([I 0,I 0]++(eS z.s++(eS z.sh++([z.cR]++([z.cS]++([I (-1),I 0]++([I z.pos]++(z.cl++(z.cmd++(z.op++([z.args]++(eU z.res)))))))))))))))
section
variable{X:Kn}{Y:zF}{i:Nat}{z:Rc}(d1:(X.dec i).length=45)(d2:(Y.sys i).length=45)(hz:z.Ok)
include d1 d2 hz
theorem kv:(rB X Y i z).length=142:=by have h1:=hz.cl;have h2:=hz.cmd;have h3:=hz.op;simp only[rB,xa,HW,List.length_nil,d1,d2,h1,h2,h3,jh,gM]
omit d1 d2 hz in
theorem aGY:rB X Y i z=(([]:List AV))++(([AV.sl X.rows 7 45 .any])++(X.dec i++(Y.sys i++([I 200,I 50]++([I 0,I 0]++(eS z.s++(eS z.sh++([z.cR]++([z.cS]++([I (-1),I 0]++([I z.pos]++(z.cl++(z.cmd++(z.op++([z.args]++(eU z.res)))))))))))))))):=by simp only[rB,List.append_assoc,List.nil_append,List.append_nil]
theorem aGZ:(([]:List AV)).length=0:=by have h1:=hz.cl;have h2:=hz.cmd;have h3:=hz.op;simp only[xa,HW,List.length_nil,d1,d2,h1,h2,h3,jh,gM]
theorem aqG:List.take 1 (List.drop 0 (rB X Y i z))=[AV.sl X.rows 7 45 .any]:=(UK aGY (aGZ d1 d2 hz) (by rfl)).1
omit d1 d2 hz in
theorem al3:rB X Y i z=([AV.sl X.rows 7 45 .any])++((X.dec i)++(Y.sys i++([I 200,I 50]++([I 0,I 0]++(eS z.s++(eS z.sh++([z.cR]++([z.cS]++([I (-1),I 0]++([I z.pos]++(z.cl++(z.cmd++(z.op++([z.args]++(eU z.res))))))))))))))):=by simp only[rB,List.append_assoc,List.nil_append,List.append_nil]
theorem al4:([AV.sl X.rows 7 45 .any]).length=1:=by have h1:=hz.cl;have h2:=hz.cmd;have h3:=hz.op;simp only[xa,HW,List.length_nil,d1,d2,h1,h2,h3,jh,gM]
theorem al5:List.take 7 (List.drop 30 (rB X Y i z))=List.take 7 (List.drop 29 (X.dec i)):=al2 (k:=29) (q:=7) al3 (al4 d1 d2 hz) d1 (by decide)
theorem al6:(rB X Y i z)[37]?=(X.dec i)[36]?:=al1 (k:=36) al3 (al4 d1 d2 hz) d1 (by decide)
omit d1 d2 hz in
theorem al7:rB X Y i z=([AV.sl X.rows 7 45 .any]++(X.dec i))++((Y.sys i)++([I 200,I 50]++([I 0,I 0]++(eS z.s++(eS z.sh++([z.cR]++([z.cS]++([I (-1),I 0]++([I z.pos]++(z.cl++(z.cmd++(z.op++([z.args]++(eU z.res)))))))))))))):=by simp only[rB,List.append_assoc,List.nil_append,List.append_nil]
theorem al8:([AV.sl X.rows 7 45 .any]++(X.dec i)).length=46:=by have h1:=hz.cl;have h2:=hz.cmd;have h3:=hz.op;simp only[xa,HW,List.length_nil,d1,d2,h1,h2,h3,jh,gM]
theorem al9:List.take 7 (List.drop 75 (rB X Y i z))=List.take 7 (List.drop 29 (Y.sys i)):=al2 (k:=29) (q:=7) al7 (al8 d1 d2 hz) d2 (by decide)
theorem ama:(rB X Y i z)[83]?=(Y.sys i)[37]?:=al1 (k:=37) al7 (al8 d1 d2 hz) d2 (by decide)
omit d1 d2 hz in
theorem awn:rB X Y i z=([AV.sl X.rows 7 45 .any]++(X.dec i++(Y.sys i)))++(([I 200,I 50])++([I 0,I 0]++(eS z.s++(eS z.sh++([z.cR]++([z.cS]++([I (-1),I 0]++([I z.pos]++(z.cl++(z.cmd++(z.op++([z.args]++(eU z.res))))))))))))):=by simp only[rB,List.append_assoc,List.nil_append,List.append_nil]
theorem awo:([AV.sl X.rows 7 45 .any]++(X.dec i++(Y.sys i))).length=91:=by have h1:=hz.cl;have h2:=hz.cmd;have h3:=hz.op;simp only[xa,HW,List.length_nil,d1,d2,h1,h2,h3,jh,gM]
theorem XL:List.take 2 (List.drop 91 (rB X Y i z))=[I 200,I 50]:=(UK awn (awo d1 d2 hz) (by rfl)).1
omit d1 d2 hz in
theorem awp:rB X Y i z=([AV.sl X.rows 7 45 .any]++(X.dec i++(Y.sys i++([I 200,I 50]))))++(([I 0,I 0])++(eS z.s++(eS z.sh++([z.cR]++([z.cS]++([I (-1),I 0]++([I z.pos]++(z.cl++(z.cmd++(z.op++([z.args]++(eU z.res)))))))))))):=by simp only[rB,List.append_assoc,List.nil_append,List.append_nil]
theorem awq:([AV.sl X.rows 7 45 .any]++(X.dec i++(Y.sys i++([I 200,I 50])))).length=93:=by have h1:=hz.cl;have h2:=hz.cmd;have h3:=hz.op;simp only[xa,HW,List.length_nil,d1,d2,h1,h2,h3,jh,gM]
theorem awr:List.take 2 (List.drop 93 (rB X Y i z))=[I 0,I 0]:=(UK awp (awq d1 d2 hz) (by rfl)).1
omit d1 d2 hz in
theorem aws:rB X Y i z=([AV.sl X.rows 7 45 .any]++(X.dec i++(Y.sys i++([I 200,I 50]++([I 0,I 0])))))++((eS z.s)++(eS z.sh++([z.cR]++([z.cS]++([I (-1),I 0]++([I z.pos]++(z.cl++(z.cmd++(z.op++([z.args]++(eU z.res))))))))))):=by simp only[rB,List.append_assoc,List.nil_append,List.append_nil]
theorem aBH:([AV.sl X.rows 7 45 .any]++(X.dec i++(Y.sys i++([I 200,I 50]++([I 0,I 0]))))).length=95:=by have h1:=hz.cl;have h2:=hz.cmd;have h3:=hz.op;simp only[xa,HW,List.length_nil,d1,d2,h1,h2,h3,jh,gM]
theorem awt:List.take 4 (List.drop 95 (rB X Y i z))=eS z.s:=(UK aws (aBH d1 d2 hz) (by rfl)).1
theorem aA9(v:St):List.take 95 (rB X Y i z)++(eS v++List.drop 99 (rB X Y i z))=rB X Y i {z with s:=v}:=by have q:=UK (aws (X:=X) (Y:=Y) (i:=i) (z:=z)) (aBH d1 d2 hz) (by rfl);rw[q.2.2,show List.drop 99 (rB X Y i z)=_ from q.2.1,aws (z:={z with s:=v})]
omit d1 d2 hz in
theorem amb:rB X Y i z=([AV.sl X.rows 7 45 .any]++(X.dec i++(Y.sys i++([I 200,I 50]++([I 0,I 0]++(eS z.s))))))++((eS z.sh)++([z.cR]++([z.cS]++([I (-1),I 0]++([I z.pos]++(z.cl++(z.cmd++(z.op++([z.args]++(eU z.res)))))))))):=by simp only[rB,List.append_assoc,List.nil_append,List.append_nil]
theorem at9:([AV.sl X.rows 7 45 .any]++(X.dec i++(Y.sys i++([I 200,I 50]++([I 0,I 0]++(eS z.s)))))).length=99:=by have h1:=hz.cl;have h2:=hz.cmd;have h3:=hz.op;simp only[xa,HW,List.length_nil,d1,d2,h1,h2,h3,jh,gM]
theorem aBI:List.take 4 (List.drop 99 (rB X Y i z))=eS z.sh:=(UK amb (at9 d1 d2 hz) (by rfl)).1
theorem aua(v:St):List.take 99 (rB X Y i z)++(eS v++List.drop 103 (rB X Y i z))=rB X Y i {z with sh:=v}:=by have q:=UK (amb (X:=X) (Y:=Y) (i:=i) (z:=z)) (at9 d1 d2 hz) (by rfl);rw[q.2.2,show List.drop 103 (rB X Y i z)=_ from q.2.1,amb (z:={z with sh:=v})]
omit d1 d2 hz in
theorem amc:rB X Y i z=([AV.sl X.rows 7 45 .any]++(X.dec i++(Y.sys i++([I 200,I 50]++([I 0,I 0]++(eS z.s++(eS z.sh)))))))++(([z.cR])++([z.cS]++([I (-1),I 0]++([I z.pos]++(z.cl++(z.cmd++(z.op++([z.args]++(eU z.res))))))))):=by simp only[rB,List.append_assoc,List.nil_append,List.append_nil]
theorem aub:([AV.sl X.rows 7 45 .any]++(X.dec i++(Y.sys i++([I 200,I 50]++([I 0,I 0]++(eS z.s++(eS z.sh))))))).length=103:=by have h1:=hz.cl;have h2:=hz.cmd;have h3:=hz.op;simp only[xa,HW,List.length_nil,d1,d2,h1,h2,h3,jh,gM]
theorem amd:(rB X Y i z)[103]?=some (z.cR):=awm amc (aub d1 d2 hz)
theorem auc(v:AV):List.take 103 (rB X Y i z)++([v]++List.drop 104 (rB X Y i z))=rB X Y i {z with cR:=v}:=by have q:=UK (amc (X:=X) (Y:=Y) (i:=i) (z:=z)) (aub d1 d2 hz) (by rfl);rw[q.2.2,show List.drop 104 (rB X Y i z)=_ from q.2.1,amc (z:={z with cR:=v})]
omit d1 d2 hz in
theorem ame:rB X Y i z=([AV.sl X.rows 7 45 .any]++(X.dec i++(Y.sys i++([I 200,I 50]++([I 0,I 0]++(eS z.s++(eS z.sh++([z.cR]))))))))++(([z.cS])++([I (-1),I 0]++([I z.pos]++(z.cl++(z.cmd++(z.op++([z.args]++(eU z.res)))))))):=by simp only[rB,List.append_assoc,List.nil_append,List.append_nil]
theorem aud:([AV.sl X.rows 7 45 .any]++(X.dec i++(Y.sys i++([I 200,I 50]++([I 0,I 0]++(eS z.s++(eS z.sh++([z.cR])))))))).length=104:=by have h1:=hz.cl;have h2:=hz.cmd;have h3:=hz.op;simp only[xa,HW,List.length_nil,d1,d2,h1,h2,h3,jh,gM]
theorem aue:(rB X Y i z)[104]?=some (z.cS):=awm ame (aud d1 d2 hz)
theorem aBJ(v:AV):List.take 104 (rB X Y i z)++([v]++List.drop 105 (rB X Y i z))=rB X Y i {z with cS:=v}:=by have q:=UK (ame (X:=X) (Y:=Y) (i:=i) (z:=z)) (aud d1 d2 hz) (by rfl);rw[q.2.2,show List.drop 105 (rB X Y i z)=_ from q.2.1,ame (z:={z with cS:=v})]
omit d1 d2 hz in
theorem awu:rB X Y i z=([AV.sl X.rows 7 45 .any]++(X.dec i++(Y.sys i++([I 200,I 50]++([I 0,I 0]++(eS z.s++(eS z.sh++([z.cR]++([z.cS])))))))))++(([I (-1),I 0])++([I z.pos]++(z.cl++(z.cmd++(z.op++([z.args]++(eU z.res))))))):=by simp only[rB,List.append_assoc,List.nil_append,List.append_nil]
theorem awv:([AV.sl X.rows 7 45 .any]++(X.dec i++(Y.sys i++([I 200,I 50]++([I 0,I 0]++(eS z.s++(eS z.sh++([z.cR]++([z.cS]))))))))).length=105:=by have h1:=hz.cl;have h2:=hz.cmd;have h3:=hz.op;simp only[xa,HW,List.length_nil,d1,d2,h1,h2,h3,jh,gM]
theorem aww:List.take 2 (List.drop 105 (rB X Y i z))=[I (-1),I 0]:=(UK awu (awv d1 d2 hz) (by rfl)).1
omit d1 d2 hz in
theorem amf:rB X Y i z=([AV.sl X.rows 7 45 .any]++(X.dec i++(Y.sys i++([I 200,I 50]++([I 0,I 0]++(eS z.s++(eS z.sh++([z.cR]++([z.cS]++([I (-1),I 0]))))))))))++(([I z.pos])++(z.cl++(z.cmd++(z.op++([z.args]++(eU z.res)))))):=by simp only[rB,List.append_assoc,List.nil_append,List.append_nil]
theorem awx:([AV.sl X.rows 7 45 .any]++(X.dec i++(Y.sys i++([I 200,I 50]++([I 0,I 0]++(eS z.s++(eS z.sh++([z.cR]++([z.cS]++([I (-1),I 0])))))))))).length=107:=by have h1:=hz.cl;have h2:=hz.cmd;have h3:=hz.op;simp only[xa,HW,List.length_nil,d1,d2,h1,h2,h3,jh,gM]
theorem av3(v:Int):List.take 107 (rB X Y i z)++([I v]++List.drop 108 (rB X Y i z))=rB X Y i {z with pos:=v}:=by have q:=UK (amf (X:=X) (Y:=Y) (i:=i) (z:=z)) (awx d1 d2 hz) (by rfl);rw[q.2.2,show List.drop 108 (rB X Y i z)=_ from q.2.1,amf (z:={z with pos:=v})]
omit d1 d2 hz in
theorem amg:rB X Y i z=([AV.sl X.rows 7 45 .any]++(X.dec i++(Y.sys i++([I 200,I 50]++([I 0,I 0]++(eS z.s++(eS z.sh++([z.cR]++([z.cS]++([I (-1),I 0]++([I z.pos])))))))))))++((z.cl)++(z.cmd++(z.op++([z.args]++(eU z.res))))):=by simp only[rB,List.append_assoc,List.nil_append,List.append_nil]
theorem auf:([AV.sl X.rows 7 45 .any]++(X.dec i++(Y.sys i++([I 200,I 50]++([I 0,I 0]++(eS z.s++(eS z.sh++([z.cR]++([z.cS]++([I (-1),I 0]++([I z.pos]))))))))))).length=108:=by have h1:=hz.cl;have h2:=hz.cmd;have h3:=hz.op;simp only[xa,HW,List.length_nil,d1,d2,h1,h2,h3,jh,gM]
theorem aBK:List.take 3 (List.drop 108 (rB X Y i z))=z.cl:=(UK amg (auf d1 d2 hz) hz.cl).1
theorem aBL(v:List AV):List.take 108 (rB X Y i z)++(v++List.drop 111 (rB X Y i z))=rB X Y i {z with cl:=v}:=by have q:=UK (amg (X:=X) (Y:=Y) (i:=i) (z:=z)) (auf d1 d2 hz) hz.cl;rw[q.2.2,show List.drop 111 (rB X Y i z)=_ from q.2.1,amg (z:={z with cl:=v})]
omit d1 d2 hz in
theorem J8:rB X Y i z=([AV.sl X.rows 7 45 .any]++(X.dec i++(Y.sys i++([I 200,I 50]++([I 0,I 0]++(eS z.s++(eS z.sh++([z.cR]++([z.cS]++([I (-1),I 0]++([I z.pos]++(z.cl))))))))))))++((z.cmd)++(z.op++([z.args]++(eU z.res)))):=by simp only[rB,List.append_assoc,List.nil_append,List.append_nil]
theorem No:([AV.sl X.rows 7 45 .any]++(X.dec i++(Y.sys i++([I 200,I 50]++([I 0,I 0]++(eS z.s++(eS z.sh++([z.cR]++([z.cS]++([I (-1),I 0]++([I z.pos]++(z.cl)))))))))))).length=111:=by have h1:=hz.cl;have h2:=hz.cmd;have h3:=hz.op;simp only[xa,HW,List.length_nil,d1,d2,h1,h2,h3,jh,gM]
theorem amh:List.take 23 (List.drop 111 (rB X Y i z))=z.cmd:=(UK J8 (No d1 d2 hz) hz.cmd).1
theorem aq8:List.take 7 (List.drop 113 (rB X Y i z))=List.take 7 (List.drop 2 (z.cmd)):=al2 (k:=2) (q:=7) J8 (No d1 d2 hz) hz.cmd (by decide)
theorem aqH:List.take 7 (List.drop 120 (rB X Y i z))=List.take 7 (List.drop 9 (z.cmd)):=al2 (k:=9) (q:=7) J8 (No d1 d2 hz) hz.cmd (by decide)
theorem ale:List.take 7 (List.drop 127 (rB X Y i z))=List.take 7 (List.drop 16 (z.cmd)):=al2 (k:=16) (q:=7) J8 (No d1 d2 hz) hz.cmd (by decide)
theorem aq9:(rB X Y i z)[112]?=(z.cmd)[1]?:=al1 (k:=1) J8 (No d1 d2 hz) hz.cmd (by decide)
theorem awy(v:List AV):List.take 111 (rB X Y i z)++(v++List.drop 134 (rB X Y i z))=rB X Y i {z with cmd:=v}:=by have q:=UK (J8 (X:=X) (Y:=Y) (i:=i) (z:=z)) (No d1 d2 hz) hz.cmd;rw[q.2.2,show List.drop 134 (rB X Y i z)=_ from q.2.1,J8 (z:={z with cmd:=v})]
omit d1 d2 hz in
theorem ahn:rB X Y i z=([AV.sl X.rows 7 45 .any]++(X.dec i++(Y.sys i++([I 200,I 50]++([I 0,I 0]++(eS z.s++(eS z.sh++([z.cR]++([z.cS]++([I (-1),I 0]++([I z.pos]++(z.cl++(z.cmd)))))))))))))++((z.op)++([z.args]++(eU z.res))):=by simp only[rB,List.append_assoc,List.nil_append,List.append_nil]
theorem ami:([AV.sl X.rows 7 45 .any]++(X.dec i++(Y.sys i++([I 200,I 50]++([I 0,I 0]++(eS z.s++(eS z.sh++([z.cR]++([z.cS]++([I (-1),I 0]++([I z.pos]++(z.cl++(z.cmd))))))))))))).length=134:=by have h1:=hz.cl;have h2:=hz.cmd;have h3:=hz.op;simp only[xa,HW,List.length_nil,d1,d2,h1,h2,h3,jh,gM]
theorem amj:(rB X Y i z)[135]?=(z.op)[1]?:=al1 (k:=1) ahn (ami d1 d2 hz) hz.op (by decide)
theorem awz:(rB X Y i z)[136]?=(z.op)[2]?:=al1 (k:=2) ahn (ami d1 d2 hz) hz.op (by decide)
theorem aBM(v:List AV):List.take 134 (rB X Y i z)++(v++List.drop 137 (rB X Y i z))=rB X Y i {z with op:=v}:=by have q:=UK (ahn (X:=X) (Y:=Y) (i:=i) (z:=z)) (ami d1 d2 hz) hz.op;rw[q.2.2,show List.drop 137 (rB X Y i z)=_ from q.2.1,ahn (z:={z with op:=v})]
omit d1 d2 hz in
theorem X6:rB X Y i z=([AV.sl X.rows 7 45 .any]++(X.dec i++(Y.sys i++([I 200,I 50]++([I 0,I 0]++(eS z.s++(eS z.sh++([z.cR]++([z.cS]++([I (-1),I 0]++([I z.pos]++(z.cl++(z.cmd++(z.op))))))))))))))++(([z.args])++(eU z.res)):=by simp only[rB,List.append_assoc,List.nil_append,List.append_nil]
theorem aho:([AV.sl X.rows 7 45 .any]++(X.dec i++(Y.sys i++([I 200,I 50]++([I 0,I 0]++(eS z.s++(eS z.sh++([z.cR]++([z.cS]++([I (-1),I 0]++([I z.pos]++(z.cl++(z.cmd++(z.op)))))))))))))).length=137:=by have h1:=hz.cl;have h2:=hz.cmd;have h3:=hz.op;simp only[xa,HW,List.length_nil,d1,d2,h1,h2,h3,jh,gM]
theorem Lp:(rB X Y i z)[137]?=some (z.args):=awm X6 (aho d1 d2 hz)
theorem ara(v:AV):List.take 137 (rB X Y i z)++([v]++List.drop 138 (rB X Y i z))=rB X Y i {z with args:=v}:=by have q:=UK (X6 (X:=X) (Y:=Y) (i:=i) (z:=z)) (aho d1 d2 hz) (by rfl);rw[q.2.2,show List.drop 138 (rB X Y i z)=_ from q.2.1,X6 (z:={z with args:=v})]
omit d1 d2 hz in
theorem ad5:rB X Y i z=([AV.sl X.rows 7 45 .any]++(X.dec i++(Y.sys i++([I 200,I 50]++([I 0,I 0]++(eS z.s++(eS z.sh++([z.cR]++([z.cS]++([I (-1),I 0]++([I z.pos]++(z.cl++(z.cmd++(z.op++([z.args])))))))))))))))++((eU z.res)++(([]:List AV))):=by simp only[rB,List.append_assoc,List.nil_append,List.append_nil]
theorem amk:([AV.sl X.rows 7 45 .any]++(X.dec i++(Y.sys i++([I 200,I 50]++([I 0,I 0]++(eS z.s++(eS z.sh++([z.cR]++([z.cS]++([I (-1),I 0]++([I z.pos]++(z.cl++(z.cmd++(z.op++([z.args]))))))))))))))).length=138:=by have h1:=hz.cl;have h2:=hz.cmd;have h3:=hz.op;simp only[xa,HW,List.length_nil,d1,d2,h1,h2,h3,jh,gM]
theorem awA:List.take 4 (List.drop 138 (rB X Y i z))=eU z.res:=(UK ad5 (amk d1 d2 hz) (by rfl)).1
theorem awB(v:U):List.take 138 (rB X Y i z)++(eU v++List.drop 142 (rB X Y i z))=rB X Y i {z with res:=v}:=by have q:=UK (ad5 (X:=X) (Y:=Y) (i:=i) (z:=z)) (amk d1 d2 hz) (by rfl);rw[q.2.2,show List.drop 142 (rB X Y i z)=_ from q.2.1,ad5 (z:={z with res:=v})]
end
theorem qZ(s:St):(eS s).all AV.aQ=true:=by simp[eS,(cG s.kids).1]
theorem uL(u:U):(eU u).all AV.aQ=true:=by simp[eU]
theorem RG(s:St):∀y∈eS s,FJ y:=by
 intro y hy;simp[eS]at hy;rcases hy with rfl|rfl|rfl|rfl
 ·exact cX _ _
 ·exact cX _ _
 ·exact gF _ _
 ·exact dY _
theorem T1(c:aX)(s:St)(a:List U)(h:a.length≤1):(Bg c s a).length=(1+a.length)*5:=by
 match a,h with
 | [],_=>rfl
 | [_],_=>rfl
variable{C:bH}{X:Kn}{Y:zF}(Q:Seq C X Y)(J:UY C)
include Q J
def aMV(c:aX)(s:St)(a:List U)(h:T ai)(nx:Key)(o:Out)(h':T ai)(nx':Key):Prop:=∃(b:Key) (k:CK),o=.ret (.slice b 0 (1+a.length) 5)∧ag b h'=some (.cells (Bg c s a) k)∧(k=.part∨k=.fix)∧nx.toNat≤b.toNat∧b.toNat<nx'.toNat∧Ext h nx h' nx'
theorem aiz{c:aX}{s:St}{a:List U}(ha:CQ c a)(h:T ai)(nx:Key):aB C fg [.agg (Y.cmd c),.agg (eS s),aC a] h nx (aMV c s a h nx):=by
 have s1:=kTSu nx;have s2:=kTSu nx.succ;have s3:=kTSu nx.succ.succ;have hc:=Q.cmd c;have h1:=Q.amA c;refine J.Az.call ?_;simp[wE];simp[zt,hc.all,qZ];simp[zv,jh];have hT:List.take 4 (eS s)=eS s:=rfl;have hl:=hc.len;have e3:Ext h nx (au nx.succ.succ (Qz (.str 1 115 ::eS s)) (au nx.succ (Qz (eS s)) (au nx (Qz (Y.cmd c)) h))) nx.succ.succ.succ:=((E0 h nx _).trans (E0 _ nx.succ _)).trans (E0 _ nx.succ.succ _);have b0:ag nx (au nx.succ.succ (Qz (.str 1 115 ::eS s)) (au nx.succ (Qz (eS s)) (au nx (Qz (Y.cmd c)) h)))=Qz (Y.cmd c):=by rw[aw (by omega),aw (by omega)];simp
 have b2:ag nx.succ.succ (au nx.succ.succ (Qz (.str 1 115 ::eS s)) (au nx.succ (Qz (eS s)) (au nx (Qz (Y.cmd c)) h)))=Qz (.str 1 115 ::eS s):=by simp
 simp only[hT];generalize au nx.succ.succ (Qz (.str 1 115 ::eS s)) (au nx.succ (Qz (eS s)) (au nx (Qz (Y.cmd c)) h))=h3 at *;have har:=PK c;by_cases h0:c.ar=0
 ·obtain rfl:=ha.none h0;have qR:(Y.cmd c)[1]?=some .nils:=by rw[h1];simp[Dc,h0]
  simp[qt,b0,qR];refine W.ju (W.of ?_);simp[qu];simp[qv];simp[qw];exact⟨_,_,rfl,b2,.inr rfl,by omega,by omega,e3⟩
 ·have h01:c.ar=1:=by omega
  obtain⟨n,rfl⟩:=ha.one h01;have qR:(Y.cmd c)[1]?=some (.sl (Y.WH c) 1 11 .any):=by rw[h1];simp[Dc,h0]
  obtain⟨hd,hd0⟩:=Q.WH c h01;simp[qt,b0,qR];refine W.ju (W.of ?_);have hdl:=hd.len;have aMW:List.take 11 (Y.WH c)=Y.WH c:=PH (by omega);have s4:=kTSu nx.succ.succ.succ;have s5:=kTSu nx.succ.succ.succ.succ;simp[qu];simp[qv];simp[zw,hdl,aMW,hd.all];have e4:=e3.trans (E0 h3 nx.succ.succ.succ (.cells (Y.WH c) .fix));have b3:ag nx.succ.succ.succ (au nx.succ.succ.succ (Qz (Y.WH c)) h3)=Qz (Y.WH c):=by simp
  have b24:ag nx.succ.succ (au nx.succ.succ.succ (Qz (Y.WH c)) h3)=Qz (.str 1 115 ::eS s):=by rw[aw (by omega)];exact b2
  generalize au nx.succ.succ.succ (Qz (Y.WH c)) h3=h4 at *;have hT5:List.take 5 (AV.str 1 115 ::eS s)=.str 1 115 ::eS s:=rfl;have hL5:(AV.str 1 115 ::eS s).length=5:=rfl;have hz:∀H,aY (aO 9999) (AV.str 1 115 ::eS s) H=(.str 1 115 ::eS s,H):=fun H=>bw (by
   intro y hy;rcases CR.1 hy with rfl|hy
   ·exact gF _ _
   ·exact RG s y hy)
  simp[zx,b3,hd0,aC,ak,eU,b24,hT5,jh,hz];have s6:=kTSu nx.succ.succ.succ.succ.succ;have e5:=e4.trans ((E0 h4 nx.succ.succ.succ.succ (.cells [.str 1 (nmC c),I 0,I n,.str 0 0,.nils] .fix)).trans (E0 _ nx.succ.succ.succ.succ.succ (.cells (.str 1 115 ::(eS s ++ [.str 1 (nmC c),I 0,I n,.str 0 0,.nils])) .part)));have hw1:bG .i64 1=1:=aS (by decide) (by decide);simp[zy,hw1];refine W.ju (W.of ?_);simp;simp[qw];exact⟨_,.part,rfl,by simp[Bg,xR,PI,eU],.inl rfl,by omega,by omega,e5⟩
end Ln
namespace Ln
open Go.Sx Go
theorem FZ(u:U):∀y∈eU u,FJ y:=og.zD u
theorem ahv(u:U):AV.beq (.agg (eU u)) (.agg (eU u))=true:=beq_refl _ (by simp[eU,AV.lits,AV.dA,I])
theorem My(c:aX)(s:St)(a:List U):∀y∈Bg c s a,FJ y:=by
 intro y hy;rcases List.mem_append.1 hy with hy|hy
 ·rcases CR.1 hy with rfl|hy
  ·exact gF _ _
  ·exact RG s y hy
 ·cases a with
  |nil=>simp[PI]at hy
  |cons u t=>
   rcases CR.1 hy with rfl|hy
   ·exact gF _ _
   ·exact FZ u y hy
theorem apj(c:aX)(s:St)(a:List U)(r:U):∀y∈Np c s a r,FJ y:=by
 intro y hy;rcases List.mem_append.1 hy with hy|hy
 ·exact My c s a y hy
 ·rcases CR.1 hy with rfl|hy
  ·exact gF _ _
  ·exact FZ r y hy
theorem apk(c:aX)(s:St)(a:List U)(r:U)(h:a.length≤1):(Np c s a r).length=(1+a.length+1)*5:=by unfold Np;rw[xa,T1 c s a h];simp[xR,gM];omega
theorem apl{c:aX}{s:St}{a:List U}(ha:a.length≤1){b:Key}{k:CK}{h:T ai}(hb:ag b h=some (.cells (Bg c s a) k))(hk:k=.part∨k=.fix):∃H,aO 9999 (.slice b 0 (1+a.length) 5) h=(.sl (Bg c s a) (1+a.length) 5 .any,H)∧∀x,x≠b→ag x H=ag x h:=by
 have hl:=T1 c s a ha;rcases hk with rfl|rfl
 ·exact⟨_,pD (n:=9998) hb hl (My c s a),fun x hx=>aD _ _ _ _ hx⟩
 ·exact⟨_,mg (n:=9998) hb hl (My c s a),fun x hx=>aD _ _ _ _ hx⟩
variable{C:bH}{X:Kn}{Y:zF}(S:Std C X)(Q:Seq C X Y)(J:UY C)
include S Q J
theorem Z7{i:Nat}(hi:i<3){c:aX}{a:List U}(ha:CQ c a){b:Key}{z:Rc}(hz:z.Ok)(hc:z.cmd=Y.cmd c)(hA:z.args=aC a){h:T ai}{nx:Key}(hb:ag b h=Qz (rB X Y i z))(tM:b.toNat<nx.toNat) :
  aB C eQ [.ptr b 0] h nx (fun o h' nx'=>o=.ret (.sl (Np c z.s a z.res) (1+a.length+1) 5 .any)∧Ext h nx h' nx'):=by
 have s1:=kTSu nx;have s2:=kTSu nx.succ;have d1:=(Q.dec i hi).len;have d2:=(Q.sys i hi).len;have hl:=kv (z:=z) d1 d2 hz;have rV:=S.r fg;have r1:=amh (z:=z) d1 d2 hz;have r2:=awt (z:=z) d1 d2 hz;have r3:=Lp (z:=z) d1 d2 hz;have r4:=awA (z:=z) d1 d2 hz;have za:∀H,aO 9999 (aC a) H=(aC a,H):=dY a 9999;have zc:∀H,aY (aO 9998) (Y.cmd c) H=(Y.cmd c,H):=fun H=>bw (Q.cmd c).zD;have zs:∀H,aY (aO 9998) (eS z.s) H=(eS z.s,H):=fun H=>bw (RG z.s);have la:=ha.1;have ha1:=PK c;rw[hc]at r1;rw[hA]at r3;refine J.Ay.call ?_;simp[wD];simp[ze];have r3':∀hh,(rB X Y i z)[137]'hh=aC a:=fun hh=>by have q:=zC hh;rw[r3]at q;exact(Option.some.inj q).symm
 simp[zg,hb,hl,r1,r2,r3,r3',r4,rV,za,zc,zs,gM,uL];refine(aiz Q J ha h nx.succ).mono ?_;rintro o h1 bW ⟨bv,k,rfl,hbv,hk,n1,n2,e1⟩;have s3:=kTSu bW;have hb1:ag b h1=Qz (rB X Y i z):=by rw[e1.g b (by omega)];exact hb
 have hlE:=T1 c z.s a (by omega);have cp:bv≠nx:=fun e=>by rw[e]at n1;omega
 have aDK:ag bv (au nx (Qz (.str 1 114 ::eU z.res)) h1)=some (.cells (Bg c z.s a) k):=by rw[aD _ _ _ _ cp];exact hbv
 have hg0:ag nx (au nx (Qz (.str 1 114 ::eU z.res)) h1)=Qz (.str 1 114 ::eU z.res):=by simp
 have e2:Ext h nx (au nx (Qz (.str 1 114 ::eU z.res)) h1) bW:=⟨by have:=e1.n;omega,fun x hx=>by rw[aw hx];exact e1.g x (by omega)⟩;have hwv:1+a.length+1≤1048576:=by omega
 have hlR:=apk c z.s a z.res (by omega);have eR:Bg c z.s a++(.str 1 114 ::eU z.res)=Np c z.s a z.res:=rfl;have hTU:List.take 4 (eU z.res)=eU z.res:=rfl;have zU:∀H,aY (aO 9999) (eU z.res) H=(eU z.res,H):=fun H=>bw (FZ z.res);have zE:∀H,aY (aO 9999) (Bg c z.s a) H=(Bg c z.s a,H):=fun H=>bw (My c z.s a);have hw5:FR 5=false:=rfl;have aDL:¬((1+a.length+1)*5≤(1+a.length)*5):=by omega
 have htE:List.take ((1+a.length)*5) (Bg c z.s a)=Bg c z.s a:=PH (by omega);have aDM:1+a.length≤1048575:=by omega
 rcases hk with rfl|rfl
 ·simp[hb1,hl,r4,gM,hTU,zU,zE,aDK,uL,hlE,hw5,aDL,htE,aDM];exact⟨ahv _,rfl,⟨by have:=e2.n;omega,fun x hx=>by rw[aw (by have:=e2.n;omega),aD _ _ _ _ (fun e=>by rw[e]at hx;omega)];exact e2.g x hx⟩⟩
 ·simp[hb1,hl,r4,gM,hTU,zU,zE,aDK,uL,hlE,hw5,aDL,htE,aDM];have hz:=pD (n:=9998) (b:=bW) (len:=1+a.length+1) (sz:=5) (H:=au bW (some (.cells (Np c z.s a z.res) .part)) (au nx (Qz (.str 1 114 ::eU z.res)) h1)) (by simp) hlR (apj c z.s a z.res);have eR:Bg c z.s a++(.str 1 114 ::eU z.res)=Np c z.s a z.res:=rfl;rw[eR];simp only[hz];exact⟨ahv _,trivial,⟨by have:=e2.n;omega,fun x hx=>by rw[aD _ _ _ _ (fun e=>by rw[e]at hx;have:=e2.n;omega),aw (by have:=e2.n;omega)];exact e2.g x hx⟩⟩
end Ln
namespace Ln
open Go.Sx Go
theorem ZS.beq{n:Nat}{l:List AV}(h:ZS n l):AV.beq (.agg l) (.agg l)=true:=beq_refl _ (by simp only[AV.lits];exact h.lits)
theorem ZS.QB{n:Nat}{l:List AV}(h:ZS n l)(k:Nat)(H:T ai):aY (aO k) l H=(l,H):=bw h.zD
variable{C:bH}{X:Kn}{Y:zF}(S:Std C X)(Q:Seq C X Y)(J:UY C)
include S Q J
theorem ald{i:Nat}(hi:i<3){c:aX}{a:List U}(ha:CQ c a){b:Key}{z:Rc}(hz:z.Ok)(hc:z.cmd=Y.cmd c)(hA:z.args=aC a)(hs:zG c.fZ z.s)(qX:iP c z.s=true)(hr:z.res=fq c z.s a){h:T ai}{nx:Key}(hb:ag b h=Qz (rB X Y i z))(tM:b.toNat<nx.toNat) :
  aB C bV [.ptr b 0] h nx (fun o h' nx'=>o=.ret (.bool true)∧Ext h nx h' nx'):=by
 have d1:=(Q.dec i hi).len;have d2:=(Q.sys i hi).len;have hl:=kv (z:=z) d1 d2 hz;have rA:=S.r eQ;have rT:=S.r lv;have r1:List.take 1 (rB X Y i z)=[.sl X.rows 7 45 .any]:=aqG (z:=z) d1 d2 hz;have r2:=ale (z:=z) d1 d2 hz;have r3:=XL (z:=z) d1 d2 hz;rw[hc]at r2;have hk:=(Q.cmd c).cut 16 7 (by decide);have zk:=fun H=>hk.QB 9998 H;have bM:AV.beq (.agg [.sl X.rows 7 45 .any]) (.agg [.sl X.rows 7 45 .any])=true:=Q.adR;refine J.zR.call ?_;simp[wh];simp[yd];simp[ye,hb,hl,r1,r2,r3,rA];refine(Z7 S Q J hi ha hz hc hA hb tM).mono ?_;rintro o h1 bW ⟨rfl,e1⟩;have hb1:ag b h1=Qz (rB X Y i z):=by rw[e1.g b (by omega)];exact hb
 have key:=Q.alf c z.s a hs ha qX h1 bW;rw[←hr]at key;have bL:AV.beq (.agg [I 200,I 50]) (.agg [I 200,I 50])=true:=rfl;simp[hb1,hl,r1,r2,r3,rT,zk,bM,hk.beq,bL];refine aB.known key ?_;simp;simp[yf];simp[yg];exact e1
theorem adS{i:Nat}(hi:i<3){c:aX}{a:List U}(ha:CQ c a){b:Key}{z:Rc}(hz:z.Ok)(hc:z.cmd=Y.cmd c)(hA:z.args=aC a)(hs:zG c.fZ z.s)(qX:iP c z.s=true)(hr:z.res=fq c z.s a){h:T ai}{nx:Key}(hb:ag b h=Qz (rB X Y i z))(tM:b.toNat<nx.toNat) :
  aB C aM [.ptr b 0] h nx (fun o h' nx'=>o=.ret (.bool true)∧ag b h'=Qz (rB X Y i {z with s:=fG c z.s a})∧CZ h nx (some b) h' nx' (some b)):=by
 have s1:=kTSu nx;have d1:=(Q.dec i hi).len;have d2:=(Q.sys i hi).len;have hl:=kv (z:=z) d1 d2 hz;have rA:=S.r eQ;have rT:=S.r bK;have r1:List.take 1 (rB X Y i z)=[.sl X.rows 7 45 .any]:=aqG (z:=z) d1 d2 hz;have r2:=aqH (z:=z) d1 d2 hz;have r3:=XL (z:=z) d1 d2 hz;rw[hc]at r2;have hk:=(Q.cmd c).cut 9 7 (by decide);have zk:=fun H=>hk.QB 9998 H;have bM:AV.beq (.agg [.sl X.rows 7 45 .any]) (.agg [.sl X.rows 7 45 .any])=true:=Q.adR;refine J.wX.call ?_;simp[qY];simp[uZ];simp[u5,hb,hl,r1,r2,r3,rA];refine(Z7 S Q J hi ha hz hc hA hb (nx:=nx.succ) (by omega)).mono ?_;rintro o h1 bW ⟨rfl,e1⟩;have hb1:ag b h1=Qz (rB X Y i z):=by rw[e1.g b (by omega)];exact hb
 have key:=Q.atT c z.s a hs ha qX h1 bW;rw[←hr]at key;have bL:AV.beq (.agg [I 200,I 50]) (.agg [I 200,I 50])=true:=rfl;simp[hb1,hl,r1,r2,r3,rT,zk,bM,hk.beq,bL];refine aB.known key ?_;have hTS:List.take 4 (eS (fG c z.s a))=eS (fG c z.s a):=rfl;have cp:b≠nx:=fun e=>by rw[e]at tM;omega
 have w:=aA9 (z:=z) d1 d2 hz (fG c z.s a);have hb2:ag b (au nx (Qz (eS (fG c z.s a))) h1)=Qz (rB X Y i z):=by rw[aD _ _ _ _ cp];exact hb1
 have hg2:ag nx (au nx (Qz (eS (fG c z.s a))) h1)=Qz (eS (fG c z.s a)):=by simp
 simp[jh,qZ];simp[u6];simp[u7,hTS,hb1,hb2,hg2,hl,jh,qZ,w];simp[u9];refine⟨by have:=e1.n;omega,fun x hx hn=>?_,.inl rfl⟩;rw[aD _ _ _ _ (fun e=>hn (by rw[e])),aw hx];exact e1.g x (by omega)
end Ln
namespace Ln
open Go.Sx Go
def gj(a:List U):AV:=if a=[]then .nils else .sl [I (-1)] 1 1 .any
def cD(c:aX)(a:List U):List AV:=[.str c.name.1 c.name.2,aC a,gj a]
theorem RH(a:List U):FJ (gj a):=by
 unfold gj;split
 ·exact vh
 ·exact Nc _ _ _
theorem Xw(a:List U):AV.lits (gj a)=true:=by unfold gj;split<;>rfl
theorem H7(a:List U):(gj a).aQ=true∧(gj a).cells=[gj a]:=by unfold gj;split<;>exact⟨rfl,rfl⟩
theorem C7(a:List U):AV.lits (aC a)=true:=xY a
theorem mS(c:aX)(a:List U):ZS 3 (cD c a):=by
 refine⟨rfl,fun y hy=>?_,fun y hy=>?_,by simp[cD,AV.dA,AV.lits,C7,Xw]⟩
 ·simp[cD]at hy;rcases hy with rfl|rfl|rfl
  ·exact gF _ _
  ·exact dY _
  ·exact RH _
 ·simp[cD]at hy;rcases hy with rfl|rfl|rfl
  ·rfl
  ·exact(cG a).1
  ·exact(H7 a).1
theorem CQ.shape{c:aX}{a:List U}(h:CQ c a):a=[]∨∃n,a=[⟨0,n⟩]:=by
 have:=PK c;rcases Nat.eq_zero_or_pos c.ar with h0|h0
 ·exact .inl (h.none h0)
 ·exact .inr (h.one (by omega))
def FY(c:AV)(m:Nat):Prop:=(c=.nils∧m=0)∨(∃l z f,c=.sl l m z f)∨∃b o z,c=.slice b o m z
theorem FY.ln{c:AV}{m:Nat}(g:FY c m){C:bH}{Q:cJ}{L:List ay}{tm:T AV}{h2:T ai}{n2 k1 d1:Key}(h1:ag k1 tm=some c) :
  qg C Q (⟨some d1,.lenL (.t k1),none⟩ ::L) tm h2 n2=qg C Q L (au d1 (some (I m)) tm) h2 n2:=by
 rcases g with⟨rfl,rfl⟩|⟨l,z,f,rfl⟩|⟨b,o,z,rfl⟩
 ·simp[h1]
 ·simp[h1]
 ·simp[h1]
theorem FY.lnS{c:AV}{m:Nat}(g:FY c m){C:bH}{Q:cJ}{d:SD}{pend:List (Nat×Key×ai)}{i:Nat}{L:List aH}{tm:T AV}{h2:T ai}{n2 k1 d1:Key}(h1:ag k1 tm=some c) :
  wpS C Q d (.L i ⟨some d1,.lenL (.t k1),none⟩ ::L) pend tm h2 n2=wpS C Q d L pend (au d1 (some (I m)) tm) h2 n2:=by
 rcases g with⟨rfl,rfl⟩|⟨l,z,f,rfl⟩|⟨b,o,z,rfl⟩
 ·simp[h1]
 ·simp[h1]
 ·simp[h1]
theorem aks(a:List U):FY (aC a) a.length:=by
 cases a with
 |nil=>exact .inl ⟨rfl,rfl⟩
 |cons u t=>exact .inr (.inl ⟨_,_,_,rfl⟩)
theorem ada(c:aX)(l:List AV)(z:Nat):FY (Dc c l z) c.ar:=by
 have:=PK c;unfold Dc;split
 ·exact .inl ⟨rfl,‹_›⟩
 ·exact .inr (.inl ⟨l,z,.any,by rw[show c.ar=1 by omega]⟩)
theorem _root_.Go.Sx.MP.alq{z:Nat}{c:AV}{l:List AV}{m:Nat}{h:T ai}{nx:Key}{ob:Option Key}(g:MP z c l m h nx ob):FY c m:=by
 rcases g with⟨h1,_,h2,_⟩|⟨b,_,h1,_⟩
 ·exact .inl ⟨h1,h2⟩
 ·exact .inr (.inr ⟨_,_,_,h1⟩)
variable{C:bH}{X:Kn}{Y:zF}(S:Std C X)(Q:Seq C X Y)(J:UY C)
include S J
theorem atr(a:List U):Pur C jV [gj a] (·=.ret (gj a)):=by
 intro h nx;have s1:=kTSu nx;have s2:=kTSu nx.succ;refine J.B6.call ?_;simp[yP];simp[AO];by_cases ha:a=[]
 ·simp[sw,gj,ha];simp[AP];exact Ext.refl _ _
 ·simp[sw,gj,ha];simp[AQ];have hz:=pD (n:=9998) (b:=nx.succ) (len:=1) (sz:=1) (l:=[I (-1)]) (H:=au nx.succ (some (.cells [I (-1)] .part)) (au nx (Qz []) h)) (by simp) rfl (by intro x hx;simp at hx;subst hx;exact cX _ _);simp only[hz];exact⟨trivial,by omega,fun x hx=>by rw[aw (by omega),aw (by omega),aw hx]⟩
theorem WQ(c:aX)(a:List U)(hl:a.length≤1000):Pur C iA [.agg (cD c a)] (·=.ret (.agg (cD c a))):=by
 intro h nx;have s1:=kTSu nx;have s2:=kTSu nx.succ;have rF:=S.r jV;have rV:=S.r da;have za:∀n H,aO n (aC a) H=(aC a,H):=dY a;have zr:∀n H,aO n (gj a) H=(gj a,H):=RH a;have ca:=cG a;have cr:=H7 a;refine J.GH.call ?_;simp[De];simp[EN,cD,ca.1,cr.1];simp[EO,rF,rV,za,zr];have e2:=(E0 h nx (.cells [AV.str c.name.fst c.name.snd,aC a,gj a] .fix)).trans (E0 _ nx.succ (.cells [AV.str 0 0,AV.nils,AV.nils] .fix));have b1:ag nx (au nx.succ (Qz [AV.str 0 0,AV.nils,AV.nils]) (au nx (Qz [AV.str c.name.fst c.name.snd,aC a,gj a]) h))=Qz [AV.str c.name.fst c.name.snd,aC a,gj a]:=by rw[aw (by omega)];simp
 have b2:ag nx.succ (au nx.succ (Qz [AV.str 0 0,AV.nils,AV.nils]) (au nx (Qz [AV.str c.name.fst c.name.snd,aC a,gj a]) h))=Qz [AV.str 0 0,AV.nils,AV.nils]:=by simp
 generalize au nx.succ (Qz [AV.str 0 0,AV.nils,AV.nils]) (au nx (Qz [AV.str c.name.fst c.name.snd,aC a,gj a]) h)=h2 at *;refine(BF S a hl h2 nx.succ.succ).mono ?_;rintro o h3 fT ⟨rfl,e3⟩;have n3:=e3.n;have b13:=(e3.g nx (by omega)).trans b1;have b23:=(e3.g nx.succ (by omega)).trans b2;have br:AV.beq (gj a) (gj a)=true:=beq_refl _ (Xw a);have bs:∀n m,AV.beq (.str n m) (.str n m)=true:=fun n m=>beq_refl _ rfl;simp[b13,br,bs,rF,zr];refine(atr S J a h3 fT).mono ?_;rintro o h4 mC ⟨rfl,e4⟩;have n4:=e4.n;have b14:=(e4.g nx (by omega)).trans b13;have b24:=(e4.g nx.succ (by omega)).trans b23;simp[b14,b24,bs,za,zr,ca.1,ca.2,cr.1,cr.2];have e24:=e2.trans (e3.trans e4);exact e24.put (by omega)
theorem agG{c:aX}{a:List U}(ha:CQ c a){cR:AV}{m:Nat}(h:T ai)(nx:Key)(hR:FY cR m):aB C lj [.agg (cD c a),cR] h nx (fun o h' nx'=>o=.ret (.tuple [aC a,I 0])∧Ext h nx h' nx'):=by
 have s1:=kTSu nx;have rV:=S.r da;have za:∀n H,aO n (aC a) H=(aC a,H):=dY a;have ca:=cG a;have cr:=H7 a;refine J.D9.call ?_;simp[Bj];simp[CD,cD,ca.1,cr.1];have e1:=E0 h nx (.cells [AV.str c.name.fst c.name.snd,aC a,gj a] .fix);have b1:ag nx (au nx (Qz [AV.str c.name.fst c.name.snd,aC a,gj a]) h)=Qz [AV.str c.name.fst c.name.snd,aC a,gj a]:=by simp
 generalize au nx (Qz [AV.str c.name.fst c.name.snd,aC a,gj a]) h=h1 at *;rcases ha.shape with rfl|⟨n,rfl⟩
 ·have e0:gj []=.nils:=rfl;have XI:aC []=.nils:=rfl;rw[e0,XI]at b1;simp[uz,b1];simp[uA,b1];refine W.ju (W.of ?_);simp[uB];simp[uC];simp[uD,b1,rV];refine(BF S [] (by simp) h1 nx.succ).mono ?_;rintro o h3 fT ⟨rfl,e3⟩;have b13:=(e3.g nx (by omega)).trans b1;simp[XI];simp[sx,b13];refine W.ju (W.of ?_);simp[uE];simp[sy];simp[sA];exact e1.trans e3
 ·have e0:gj [⟨0,n⟩]=.sl [I (-1)] 1 1 .any:=rfl;have XI:aC [⟨0,n⟩]=.sl (eU ⟨0,n⟩) 1 4 .any:=rfl;have hw1:bG .i64 1=1:=aS (by decide) (by decide);rw[e0,XI]at b1;simp[uz,b1];simp[uA,b1];refine W.ju (W.of ?_);simp[uB];simp[uC];simp[CE];simp[CG];simp[CH,hw1];refine W.ju (W.of ?_);simp;simp[uD,b1,rV];refine(BF S [⟨0,n⟩] (by simp) h1 nx.succ).mono ?_;rintro o h3 fT ⟨rfl,e3⟩;have b13:=(e3.g nx (by omega)).trans b1;simp[XI];simp[sx,b13];refine W.ju (W.of ?_);simp[uE];simp[sy];simp[AR];have hm1:¬((m:Int)≤-1):=by omega
  simp only[AS,kj,lY,lZ,kl,l7,km,l8,l9,kn,ko,ma,mb,mc,me];simp[↓hR.ln,hm1];simp[AT];simp[AU,hw1];intro _;refine W.ju (W.of ?_);simp;simp[sA];exact e1.trans e3
end Ln
namespace Ln
open Go.Sx Go
variable{C:bH}{X:Kn}{Y:zF}(S:Std C X)(Q:Seq C X Y)(J:UY C)
include S J
theorem aoa{c:aX}{a:List U}(ha:CQ c a)(pl:AV)(h:T ai)(nx:Key):aB C iC [.agg (cD c a),pl] h nx (fun o h' nx'=>o=.ret (.tuple [.agg (cD c a),.bool true])∧Ext h nx h' nx'):=by
 have s1:=kTSu nx;have s2:=kTSu nx.succ;have rC:=S.r iA;have hc:=mS c a;have zc:=fun H=>hc.QB 9998 H;have la:a.length≤1000:=by have:=ha.1;have:=PK c;omega
 refine J.yO.call ?_;simp[tW];have h3:=hc.len;simp[xz,hc.all,h3];have e2:=(E0 h nx (.cells (cD c a) .fix)).trans (E0 _ nx.succ (.cells [AV.str 0 0,AV.nils,AV.nils] .fix));have b1:ag nx (au nx.succ (Qz [AV.str 0 0,AV.nils,AV.nils]) (au nx (Qz (cD c a)) h))=Qz (cD c a):=by rw[aw (by omega)];simp
 have b2:ag nx.succ (au nx.succ (Qz [AV.str 0 0,AV.nils,AV.nils]) (au nx (Qz (cD c a)) h))=Qz [AV.str 0 0,AV.nils,AV.nils]:=by simp
 generalize au nx.succ (Qz [AV.str 0 0,AV.nils,AV.nils]) (au nx (Qz (cD c a)) h)=h2 at *;have ht:List.take 3 (cD c a)=cD c a:=rfl;have hd:List.drop 3 (cD c a)=[]:=rfl;simp[xA,b1,h3,ht,rC,zc];refine(WQ S J c a la h2 nx.succ.succ).mono ?_;rintro o h4 mC ⟨rfl,e4⟩;have n4:=e4.n;have b14:=(e4.g nx (by omega)).trans b1;have b24:=(e4.g nx.succ (by omega)).trans b2;simp[b14,h3,hc.all,hd];have e5:=(e2.trans e4).put (k:=nx) (B:=Qz (cD c a)) (gi _);have b15:ag nx (au nx (Qz (cD c a)) h4)=Qz (cD c a):=by simp
 have b25:ag nx.succ (au nx (Qz (cD c a)) h4)=Qz [AV.str 0 0,AV.nils,AV.nils]:=by rw[aD _ _ _ _ (fun e=>by have:=congrArg Key.toNat e;omega)];exact b24
 generalize au nx (Qz (cD c a)) h4=h5 at *;have hr:(cD c a)[2]?=some (gj a):=rfl;have fin:∀tm,ag (K 2) tm=some (.ptr nx 0)→ag (K 4) tm=some (.ptr nx.succ 0)→qg C (bO (mE C .ret (gC [.cell (K 4) true 3,.tmp (K 5)] fun o h' nx'=>o=.ret (.tuple [.agg (cD c a),.bool true])∧Ext h nx h' nx')) (gC [.cell (K 4) true 3,.tmp (K 5)] fun o h' nx'=>o=.ret (.tuple [.agg (cD c a),.bool true])∧Ext h nx h' nx')) nD tm h5 mC:=by intro tm g2 g4;simp[nD,g2,g4,b15,b25,h3,ht,hc.all,hd,zc];exact e5.put (by omega)
 have hw1:bG .i64 1=1:=aS (by decide) (by decide);rcases ha.shape with rfl|⟨n,rfl⟩
 ·have hr:(cD c [])[2]?=some .nils:=rfl;simp[py,b15,hr];refine W.ju (W.of ?_);simp[pz];simp[pA];refine fin _ ?_ ?_<;>simp
 ·have hr:(cD c [⟨0,n⟩])[2]?=some (.sl [I (-1)] 1 1 .any):=rfl;simp[py,b15,hr];refine W.ju (W.of ?_);simp[pz];simp[pA];simp[xB];simp[xC];simp[xD,hw1];refine W.ju (W.of ?_);simp;refine fin _ ?_ ?_<;>simp
def Rk(Y:zF)(c:aX)(a:List U)(z:Rc):Rc:={z with cl:=cD c a,cmd:=Y.cmd c,args:=aC a,op:=if iP c z.s=true then Y.op c else z.op}
omit S J in
theorem an9(Q:Seq C X Y)(c:aX):ZS 3 (Y.op c):=by
 have hz:FJ (Dc c (Y.par c) 4)∧(Dc c (Y.par c) 4).aQ=true∧AV.lits (Dc c (Y.par c) 4)=true:=by
  unfold Dc;split
  ·exact⟨vh,rfl,rfl⟩
  ·have:=PK c;exact⟨Nc _ _ _,rfl,(Q.par c (by omega)).1.lits⟩
 refine⟨rfl,fun y hy=>?_,fun y hy=>?_,by simp[zF.op,AV.dA,AV.lits,hz.2.2,(Q.act c).lits]⟩
 ·simp[zF.op]at hy;rcases hy with rfl|rfl|rfl
  ·exact gF _ _
  ·exact hz.1
  ·exact Nc _ _ _
 ·simp[zF.op]at hy;rcases hy with rfl|rfl|rfl
  ·rfl
  ·exact hz.2.1
  ·rfl
include Q
theorem Rj{i:Nat}(hi:i<3){c:aX}(hci:c.fZ=i){a:List U}(ha:CQ c a){b:Key}{z:Rc}(hz:z.Ok)(hs:zG c.fZ z.s){m:Nat}(hR:FY z.cR m){h:T ai}{nx:Key}(hb:ag b h=Qz (rB X Y i z))(tM:b.toNat<nx.toNat) :
  aB C dy [.ptr b 0,.agg (cD c a)] h nx (fun o h' nx'=>o=.ret (I (if iP c z.s=true then 0 else 25))∧ag b h'=Qz (rB X Y i (Rk Y c a z))∧CZ h nx (some b) h' nx' (some b)):=by
 have s1:=kTSu nx;have d1:=(Q.dec i hi).len;have d2:=(Q.sys i hi).len;have hc:=mS c a;have h3:=hc.len;have zc:=fun H=>hc.QB 9998 H;have ht:List.take 3 (cD c a)=cD c a:=rfl;have hr0:(cD c a)[0]?=some (.str c.name.1 c.name.2):=rfl;have rN:=S.r lM;have rO:=S.r um;have rV:=S.r fg;have rT:=S.r lv;have rR:C.raw lj=true:=S.rw (by decide);refine J.xh.call ?_;simp[rW];simp[vS,hc.all];have cp:b≠nx:=fun e=>by rw[e]at tM;omega
 have e0:CZ h nx (some b) (au nx (Qz (cD c a)) h) nx.succ (some b):=CZ.SS (E0 h nx _) _;have b0:ag b (au nx (Qz (cD c a)) h)=Qz (rB X Y i z):=by rw[aD _ _ _ _ cp];exact hb
 have c0:ag nx (au nx (Qz (cD c a)) h)=Qz (cD c a):=by simp
 generalize au nx (Qz (cD c a)) h=h0 at *;have hl:=kv (z:=z) d1 d2 hz;have w:=aBL (z:=z) d1 d2 hz (cD c a);simp[vT,b0,c0,h3,ht,hc.all,hl,w];have hz1:({z with cl:=cD c a}:Rc).Ok:=⟨h3,hz.cmd,hz.op⟩;generalize hq1:({z with cl:=cD c a}:Rc)=z1 at *;have e1:=e0.C2 (Qz (rB X Y i z1));have b1:ag b (au b (Qz (rB X Y i z1)) h0)=Qz (rB X Y i z1):=by simp
 have c1:ag nx (au b (Qz (rB X Y i z1)) h0)=Qz (cD c a):=by rw[aD _ _ _ _ (fun e=>cp e.symm)];exact c0
 generalize au b (Qz (rB X Y i z1)) h0=h1 at *;simp[vU];have Ri:=kv (z:=z1) d1 d2 hz1;have r36:=al6 (z:=z1) d1 d2 hz1;obtain⟨v36,aza,aMu⟩:=Q.anP c;rw[hci]at aza;rw[aza]at r36;have aMv:=lat r36;have w1:=awy (z:=z1) d1 d2 hz1 (Y.cmd c);have aD3:=(Q.cmd c).len;have z36:∀n H,aO n v36 H=(v36,H):=aMu;simp[vV,b1,c1,Ri,r36,aMv,hr0,rN,z36];refine aB.known (Q.aum c v36 (by rw[hci];exact aza) _ _) ?_;simp[b1,Ri,aD3,(Q.cmd c).all,w1];have hz2:({z1 with cmd:=Y.cmd c}:Rc).Ok:=⟨hz1.cl,aD3,hz1.op⟩;generalize Xg:({z1 with cmd:=Y.cmd c}:Rc)=z2 at *;have e2:=e1.C2 (Qz (rB X Y i z2));have b2:ag b (au b (Qz (rB X Y i z2)) h1)=Qz (rB X Y i z2):=by simp
 have c2:ag nx (au b (Qz (rB X Y i z2)) h1)=Qz (cD c a):=by rw[aD _ _ _ _ (fun e=>cp e.symm)];exact c1
 generalize au b (Qz (rB X Y i z2)) h1=h2 at *;simp[vW];simp[vX];have PW:=kv (z:=z2) d1 d2 hz2;have g2:(rB X Y i z2)[103]?=some z.cR:=by rw[amd (z:=z2) d1 d2 hz2,←Xg,←hq1]
 have g2':=lat g2;simp[vY,b2,c2,PW,g2,g2',h3,ht,rR];refine(agG S J ha h2 nx.succ hR).mono ?_;rintro o Py fT ⟨rfl,e3⟩;have n3:=e3.n;have b3:=(e3.g b (by omega)).trans b2;have c3:=(e3.g nx (by omega)).trans c2;have ca:=cG a;have w3:List.take 137 (rB X Y i z2)++aC a ::List.drop 138 (rB X Y i z2)=rB X Y i {z2 with args:=aC a}:=ara (z:=z2) d1 d2 hz2 (aC a);simp[b3,PW,ca.1,ca.2,w3];have Z1:({z2 with args:=aC a}:Rc).Ok:=⟨hz2.cl,hz2.cmd,hz2.op⟩;generalize hq4:({z2 with args:=aC a}:Rc)=z4 at *;have e4:=(e2.trans (CZ.SS e3 _)).C2 (Qz (rB X Y i z4));have b4:ag b (au b (Qz (rB X Y i z4)) Py)=Qz (rB X Y i z4):=by simp
 have c4:ag nx (au b (Qz (rB X Y i z4)) Py)=Qz (cD c a):=by rw[aD _ _ _ _ (fun e=>cp e.symm)];exact c3
 generalize au b (Qz (rB X Y i z4)) Py=h4 at *;simp[vZ];have hl4:=kv (z:=z4) d1 d2 Z1;have g4a:(rB X Y i z4)[137]?=some (aC a):=by rw[Lp (z:=z4) d1 d2 Z1,←hq4]
 have aD4:z4.cmd=Y.cmd c:=by rw[←hq4,←Xg]
 have hs4:z4.s=z.s:=by rw[←hq4,←Xg,←hq1]
 have g4b:(rB X Y i z4)[112]?=some (Dc c (Y.WH c) 11):=by rw[aq9 (z:=z4) d1 d2 Z1,aD4];exact Q.amA c
 have aD5:=lat g4a;have aMx:=lat g4b;have la:=ha.1;have lA:=fun {Q d pend i L tm h2 n2 k1 d1}=>(aks a).lnS (C:=C) (Q:=Q) (d:=d) (pend:=pend) (i:=i) (L:=L) (tm:=tm) (h2:=h2) (n2:=n2) (k1:=k1) (d1:=d1);have lD:=fun {Q d pend i L tm h2 n2 k1 d1}=>(ada c (Y.WH c) 11).lnS (C:=C) (Q:=Q) (d:=d) (pend:=pend) (i:=i) (L:=L) (tm:=tm) (h2:=h2) (n2:=n2) (k1:=k1) (d1:=d1);simp only[tD,kj,lY,lZ,kl,l7,km,l8,l9,kn,ko,ma,mb,mc,me];simp[↓lA,↓lD,b4,hl4,g4a,aD5,g4b,aMx,la];have q1:List.take 1 (rB X Y i z4)=[.sl X.rows 7 45 .any]:=aqG (z:=z4) d1 d2 Z1;have q2:=amh (z:=z4) d1 d2 Z1;have q3:=awt (z:=z4) d1 d2 Z1;have q4:=aq8 (z:=z4) d1 d2 Z1;have q5:=XL (z:=z4) d1 d2 Z1;rw[aD4]at q2 q4;rw[hs4]at q3;have hk:=(Q.cmd c).cut 2 7 (by decide);have zk:=fun H=>hk.QB 9998 H;have zcm:=fun H=>(Q.cmd c).QB 9998 H;have zs:∀H,aY (aO 9998) (eS z.s) H=(eS z.s,H):=fun H=>bw (RG z.s);have za:∀n H,aO n (aC a) H=(aC a,H):=dY a;have bM:AV.beq (.agg [.sl X.rows 7 45 .any]) (.agg [.sl X.rows 7 45 .any])=true:=Q.adR;have bL:AV.beq (.agg [I 200,I 50]) (.agg [I 200,I 50])=true:=rfl;simp[tE,b4,hl4,q1,q2,q3,q4,q5,g4a,aD5,rV,zcm,zs,za];refine(aiz Q J ha h4 fT).mono ?_;rintro o h5 zI ⟨bv,k,rfl,hbv,hk5,n5a,n5b,e5⟩;have n5:=e5.n;have b5:=(e5.g b (by omega)).trans b4;have c5:=(e5.g nx (by omega)).trans c4;obtain⟨h6,hf6,hg6⟩:=apl (by have:=PK c;omega) hbv hk5;have hnb:b≠bv:=fun e=>by rw[e]at tM;omega
 have hnc:nx≠bv:=fun e=>by rw[←e]at n5a;omega
 have b6:=(hg6 b hnb).trans b5;have c6:=(hg6 nx hnc).trans c5;simp[b5,hl4,q1,q4,q5,bM,hk.beq,bL,rT,hf6,zk];refine aB.known (Q.aun c z.s a hs ha h6 zI) ?_;simp;have e45:=e4.trans (CZ.SS e5 _);have e6:CZ h nx (some b) h6 zI (some b):=⟨e45.n,fun x hx hn=>(hg6 x (fun e=>by rw[e]at hx;omega)).trans (e45.g x hx hn),.inl rfl⟩;simp[tF];cases qX:iP c z.s with
 |false=>
  have hzz:Rk Y c a z=z4:=by rw[←hq4,←Xg,←hq1];unfold Rk;rw[qX];simp
  rw[hzz];simp[lN];simp[tG];exact⟨b6,e6⟩
 |true=>
  simp[lN];have r37:=ama (z:=z4) d1 d2 Z1;obtain⟨v37,azb,aMD⟩:=Q.aD6 c;rw[hci]at azb;rw[azb]at r37;have aME:=lat r37;have ho:=an9 Q c;have w7:=aBM (z:=z4) d1 d2 Z1 (Y.op c);have z37:∀n H,aO n v37 H=(v37,H):=aMD;simp[tH,b6,c6,hl4,r37,aME,hr0,rO,z37];refine aB.known (Q.aBP c v37 (by rw[hci];exact azb) _ _) ?_;simp[b6,hl4,ho.len,ho.all,w7];have hz7:({z4 with op:=Y.op c}:Rc).Ok:=⟨Z1.cl,Z1.cmd,ho.len⟩;have hzz:Rk Y c a z={z4 with op:=Y.op c}:=by rw[←hq4,←Xg,←hq1];unfold Rk;rw[qX];simp
  have pE:({z4 with op:=Y.op c}:Rc).op=Y.op c:=rfl;have har:({z4 with op:=Y.op c}:Rc).args=aC a:=by rw[←hq4]
  rw[hzz];generalize ({z4 with op:=Y.op c}:Rc)=z7 at *;have e7:=e6.C2 (Qz (rB X Y i z7));have b7:ag b (au b (Qz (rB X Y i z7)) h6)=Qz (rB X Y i z7):=by simp
  generalize au b (Qz (rB X Y i z7)) h6=h7 at *;simp[tI];have hl7:=kv (z:=z7) d1 d2 hz7;have g7a:(rB X Y i z7)[137]?=some (aC a):=by rw[Lp (z:=z7) d1 d2 hz7,har]
  have g7b:(rB X Y i z7)[135]?=some (Dc c (Y.par c) 4):=by rw[amj (z:=z7) d1 d2 hz7,pE];rfl
  have aMG:=lat g7a;have aMH:=lat g7b;have lP:=fun {Q d pend i L tm h2 n2 k1 d1}=>(ada c (Y.par c) 4).lnS (C:=C) (Q:=Q) (d:=d) (pend:=pend) (i:=i) (L:=L) (tm:=tm) (h2:=h2) (n2:=n2) (k1:=k1) (d1:=d1);simp only[tJ,kj,lY,lZ,kl,l7,km,l8,l9,kn,ko,ma,mb,mc,me];simp[↓lA,↓lP,b7,hl7,g7a,aMG,g7b,aMH,la];simp[tK];exact⟨b7,e7⟩
end Ln
namespace Ln
open Go.Sx Go
theorem aaN{l:List AV}{len sz:Nat}{b:Key}{k:CK}{h:T ai}(hb:ag b h=some (.cells l k))(hl:l.length=len*sz)(hs:∀x∈l,FJ x):∃H,aO 9999 (.slice b 0 len sz) h=(.sl l len sz .any,H)∧(∀x,x≠b→ag x H=ag x h)∧∃k',ag b H=some (.cells l k'):=by
 cases k with
 |fix=>exact⟨_,mg (n:=9998) hb hl hs,fun x hx=>aD _ _ _ _ hx,.ro,by simp⟩
 |part=>exact⟨_,pD (n:=9998) hb hl hs,fun x hx=>aD _ _ _ _ hx,.rop,by simp⟩
 |ro=>exact⟨_,amS (n:=9998) hb hl hs,fun x hx=>rfl,.ro,hb⟩
 |rop=>exact⟨_,ahD (n:=9998) hb hl hs,fun x hx=>rfl,.rop,hb⟩
theorem amT(c:aX)(s:St)(a:List U)(h:a.length≤1):(BQ c s a).length=(2+a.length)*5:=by
 match a,h with
 | [],_=>rfl
 | [_],_=>rfl
theorem SP(c:aX)(s:St)(a:List U):∀y∈BQ c s a,FJ y:=by
 intro y hy;unfold BQ at hy;rcases List.mem_append.1 hy with hy|hy
 ·rcases List.mem_append.1 hy with hy|hy
  ·rcases CR.1 hy with rfl|hy
   ·exact gF _ _
   ·exact RG s y hy
  ·rcases CR.1 hy with rfl|hy
   ·exact gF _ _
   ·exact FZ yu y hy
 ·cases a with
  |nil=>simp[PI]at hy
  |cons u t=>
   rcases CR.1 hy with rfl|hy
   ·exact gF _ _
   ·exact FZ u y hy
structure WC where
 c:aX
 a:List U
 r:U
 s:St
def Wy(q:WC):List AV:=cD q.c q.a++(aC q.a ::(eU q.r++eS q.s))
theorem JZ:Flat 12 Wy where
 len _:=rfl
 zD q y hy:=by
  have hc:=mS q.c q.a;simp only[Wy,List.mem_append,CR]at hy;rcases hy with hy|rfl|hy|hy
  ·exact hc.zD y hy
  ·exact dY _
  ·exact FZ _ y hy
  ·exact RG _ y hy
 cell q y hy:=by
  have hc:=mS q.c q.a;simp only[Wy,List.mem_append,CR]at hy;rcases hy with hy|rfl|hy|hy
  ·exact hc.cell y hy
  ·exact(cG _).1
  ·exact xM.1 (uL _) y hy
  ·exact xM.1 (qZ _) y hy
 lits q:=by
  rw[jb];intro y hy;have hc:=mS q.c q.a;simp only[Wy,List.mem_append,CR]at hy;rcases hy with hy|rfl|hy|hy
  ·exact jb.1 hc.lits y hy
  ·exact C7 _
  ·exact jb.1 (og.lits _) y hy
  ·have:AV.dA (eS q.s)=true:=by simp[eS,AV.dA,AV.lits,C7,I]
   exact jb.1 this y hy
structure NB(X:Kn)(Y:zF)(i:Nat)(b:Key)(z:Rc)(rs:List U)(ss:List WC)(oR oS:Option Key)(h:T ai)(nx:Key):Prop where
 wa:ag b h=Qz (rB X Y i z)
 bn:b.toNat<nx.toNat
 ok:z.Ok
 gR:MP 4 z.cR (ak eU rs) rs.length h nx oR
 gS:Gr 12 z.cS (ak Wy ss) ss.length h nx oS
 nR:oR≠some b
 nS:oS≠some b
 nRS:∀x,oR=some x→oS≠some x
structure Fr3(b:Key)(h:T ai)(nx:Key)(oR oS:Option Key)(h':T ai)(nx':Key)(Kb RF:Option Key):Prop where
 n:nx.toNat≤nx'.toNat
 g:∀x:Key,x.toNat<nx.toNat→x≠b→oR≠some x→oS≠some x→ag x h'=ag x h
 r:Kb=oR∨∃y:Key,Kb=some y∧nx.toNat≤y.toNat
 s:RF=oS∨∃y:Key,RF=some y∧nx.toNat≤y.toNat
theorem Fr3.trans{b:Key}{h h1 h2:T ai}{nx n1 n2:Key}{oR oS r1 s1 r2 s2:Option Key}(A:Fr3 b h nx oR oS h1 n1 r1 s1)(B:Fr3 b h1 n1 r1 s1 h2 n2 r2 s2):Fr3 b h nx oR oS h2 n2 r2 s2:=by
 have hn:=A.n;refine⟨Nat.le_trans A.n B.n,fun x hx hb hr hs=>?_,?_,?_⟩
 ·rw[B.g x (by omega) hb ?_ ?_]
  ·exact A.g x hx hb hr hs
  ·rcases A.r with e|⟨y,e,hy⟩
   ·rw[e];exact hr
   ·rw[e];intro q;cases q;omega
  ·rcases A.s with e|⟨y,e,hy⟩
   ·rw[e];exact hs
   ·rw[e];intro q;cases q;omega
 ·rcases B.r with e|⟨y,e,hy⟩
  ·rw[e];exact A.r
  ·exact .inr ⟨y,e,by omega⟩
 ·rcases B.s with e|⟨y,e,hy⟩
  ·rw[e];exact A.s
  ·exact .inr ⟨y,e,by omega⟩
theorem Fr3.ofB{b:Key}{h h':T ai}{nx nx':Key}(e:CZ h nx (some b) h' nx' (some b))(oR oS:Option Key):Fr3 b h nx oR oS h' nx' oR oS:=⟨e.n,fun x hx hb _ _=>e.g x hx (fun q=>hb (by cases q;rfl)),.inl rfl,.inl rfl⟩
theorem NB.frm{X:Kn}{Y:zF}{i:Nat}{b:Key}{z z':Rc}{rs:List U}{ss:List WC}{oR oS:Option Key}{h h':T ai}{nx nx':Key}(R:NB X Y i b z rs ss oR oS h nx)(e:CZ h nx (some b) h' nx' (some b))(hb:ag b h'=Qz (rB X Y i z'))(hz:z'.Ok)(hR:z'.cR=z.cR)(hS:z'.cS=z.cS):NB X Y i b z' rs ss oR oS h' nx':=by
 have hn:=e.n;refine⟨hb,by have:=R.bn;omega,hz,?_,?_,R.nR,R.nS,R.nRS⟩
 ·rw[hR];exact R.gR.keep hn fun x hx=>e.g x (R.gR.lt x hx) (fun q=>R.nR (by rw[hx];exact q.symm))
 ·rw[hS];exact R.gS.keep hn fun x hx=>e.g x (R.gS.lt x hx) (fun q=>R.nS (by rw[hx];exact q.symm))
variable{C:bH}{X:Kn}{Y:zF}(S:Std C X)(Q:Seq C X Y)(J:UY C)
include Q
theorem aoI{P:cJ}{tm:T AV}{h:T ai}{nx b n0:Key}{i:Nat}(hi:i<3){z:Rc}(hz:z.Ok){c:aX}{a:List U}(ha:CQ c a){s:St}(pE:z.op=Y.op c)(hA:z.args=aC a)(hb:ag b h=Qz (rB X Y i z))(tM:b.toNat<nx.toNat)
  (g0:ag (K 0) tm=some (.ptr b 0)) (g7:ag (K 7) tm=some (.slice n0 0 2 5)) (hn:ag n0 h=Qz (xR 115 (eS s)++xR 108 (eU yu))) (hnn:n0.toNat<nx.toNat)
  (hQ:∀(aA:T AV) (h':T ai) (nx' be:Key) (k:CK),(∀q:Nat,q∈[0,3,4,6,21,22,23]→ag (K q) aA=ag (K q) tm)→ag (K 7) aA=some (.slice be 0 (2+a.length) 5)→ag be h'=some (.cells (BQ c s a) k)→(be=n0∨nx.toNat≤be.toNat)→be.toNat<nx'.toNat→Ext h nx h' nx'→P .norm aA h' nx') :
  qg C (bO (mE C (.block 2 (.loop jq)) P) P) jr tm h nx:=by
 have s1:=kTSu nx;have s2:=kTSu nx.succ;have s3:=kTSu nx.succ.succ;have d1:=(Q.dec i hi).len;have d2:=(Q.sys i hi).len;have hl:=kv (z:=z) d1 d2 hz;have r1:(rB X Y i z)[135]?=some (Dc c (Y.par c) 4):=by rw[amj (z:=z) d1 d2 hz,pE];rfl
 have r1':=lat r1;have r2:(rB X Y i z)[137]?=some (aC a):=by rw[Lp (z:=z) d1 d2 hz,hA]
 have r2':=lat r2;have har:=PK c;by_cases h0:c.ar=0
 ·obtain rfl:=ha.none h0;have e0:Dc c (Y.par c) 4=.nils:=by simp[Dc,h0]
  rw[e0]at r1 r1';simp[jr,g0,hb,hl,r1,r1'];refine W.ju (W.of ?_);simp[jq];simp[ns];refine hQ _ _ _ n0 .fix ?_ (by simp[g7]) (by simpa[BQ,PI]using hn) (.inl rfl) hnn (Ext.refl _ _);intro q hq;simp at hq;rcases hq with rfl|rfl|rfl|rfl|rfl|rfl|rfl<;>simp
 ·have h01:c.ar=1:=by omega
  obtain⟨n,rfl⟩:=ha.one h01;have e0:Dc c (Y.par c) 4=.sl (Y.par c) 1 4 .any:=by simp[Dc,h0]
  obtain⟨hd,hd0⟩:=Q.par c h01;have hdl:=hd.len;have hd4:List.take 4 (Y.par c)=Y.par c:=PH (by omega);have e1:aC [⟨0,n⟩]=.sl (eU ⟨0,n⟩) 1 4 .any:=rfl;have hw1:bG .i64 1=1:=aS (by decide) (by decide);rw[e0]at r1 r1';rw[e1]at r2 r2';simp[jr,g0,hb,hl,r1,r1'];refine W.ju (W.of ?_);simp[jq];simp[ns];simp[vD,hdl,hd4,hd.all];have E1:=E0 h nx (.cells (Y.par c) .fix);have b1:ag b (au nx (Qz (Y.par c)) h)=Qz (rB X Y i z):=by rw[aw tM];exact hb
  have n1:ag n0 (au nx (Qz (Y.par c)) h)=Qz (xR 115 (eS s)++xR 108 (eU yu)):=by rw[aw hnn];exact hn
  have p1:ag nx (au nx (Qz (Y.par c)) h)=Qz (Y.par c):=by simp
  generalize au nx (Qz (Y.par c)) h=h1 at *;have hT:List.take 10 (xR 115 (eS s)++xR 108 (eU yu))=xR 115 (eS s)++xR 108 (eU yu):=rfl;have hL:(xR 115 (eS s)++xR 108 (eU yu)).length=10:=rfl;have zE:∀H,aY (aO 9999) (xR 115 (eS s)++xR 108 (eU yu)) H=(xR 115 (eS s)++xR 108 (eU yu),H):=fun H=>bw (by have:=SP c s [];simpa[BQ,PI]using this)
  have hTU:∀u:U,List.take 4 (eU u)=eU u:=fun _=>rfl;have zU:∀(u:U) H,aY (aO 9999) (eU u) H=(eU u,H):=fun u H=>bw (FZ u);have n2:ag n0 (au nx.succ (Qz (.str 1 (nmC c) ::eU ⟨0,n⟩)) h1)=Qz (xR 115 (eS s)++xR 108 (eU yu)):=by rw[aw (by omega)];exact n1
  have E2:=E1.trans ((E0 h1 nx.succ (.cells (.str 1 (nmC c) ::eU ⟨0,n⟩) .fix)).trans (E0 _ nx.succ.succ (.cells (BQ c s [⟨0,n⟩]) .part)));simp[vE,g0,g7,b1,n1,p1,hl,hd0,r2,r2',hTU,gM,uL,hT,hL,zE,zU,n2];simp[tq,hw1];refine W.ju (W.of ?_);simp;refine hQ _ _ _ nx.succ.succ .part ?_ (by simp) (by simp[BQ,PI,xR]) (.inr (by omega)) (by omega) ?_
  ·intro q hq;simp at hq;rcases hq with rfl|rfl|rfl|rfl|rfl|rfl|rfl<;>simp
  ·have:BQ c s [⟨0,n⟩]=xR 115 (eS s)++(xR 108 (eU yu)++(.str 1 (nmC c) ::eU ⟨0,n⟩)):=by simp[BQ,PI,xR]
   simpa[this]using E2
include S
theorem anR{P:cJ}{tm:T AV}{h:T ai}{nx b p3 p4:Key}{i:Nat}(hi:i<3){z:Rc}(hz:z.Ok){c:aX}{a:List U}(ha:CQ c a){s:St}(hs:zG c.fZ s)(qX:iP c s=true)(pE:z.op=Y.op c)(hA:z.args=aC a)(hb:ag b h=Qz (rB X Y i z))(tM:b.toNat<nx.toNat)
  (g0:ag (K 0) tm=some (.ptr b 0)) (g3:ag (K 3) tm=some (.ptr p3 0)) (g4:ag (K 4) tm=some (.ptr p4 0)) (h3:ag p3 h=Qz (eS s)) (h4:ag p4 h=Qz (eU yu)) (l3:p3.toNat<nx.toNat) (l4:p4.toNat<nx.toNat) (n3:b≠p3) (n4:b≠p4) (n34:p3≠p4)
  (hQ:∀(aA:T AV) (h':T ai) (nx':Key),ag (K 0) aA=some (.ptr b 0)→ag (K 3) aA=some (.ptr p3 0)→ag (K 4) aA=some (.ptr p4 0)→ag p3 h'=Qz (eS (fG c s a))→ag p4 h'=Qz (eU (fq c s a))→(∀x:Key,x.toNat<nx.toNat→x≠p3→x≠p4→ag x h'=ag x h)→nx.toNat≤nx'.toNat→P .norm aA h' nx') :
  qg C (bO (mE C (.block 0 (.loop nu)) P) P) nv tm h nx:=by
 have s1:=kTSu nx;have s2:=kTSu nx.succ;have d1:=(Q.dec i hi).len;have d2:=(Q.sys i hi).len;have hl:=kv (z:=z) d1 d2 hz;have rE:=S.r bK;have r1:(rB X Y i z)[136]?=some (.sl (Y.act c) 1 14 .any):=by rw[awz (z:=z) d1 d2 hz,pE];rfl
 have r1':=lat r1;have asT:=Q.act c;have ayS:=asT.len;have aLR:List.take 14 (Y.act c)=Y.act c:=PH (by omega);have hw1:bG .i64 1=1:=aS (by decide) (by decide);have hTS:∀s:St,List.take 4 (eS s)=eS s:=fun _=>rfl;have hTU:∀u:U,List.take 4 (eU u)=eU u:=fun _=>rfl;simp[nv,g0,hb,hl,r1,r1'];refine W.ju (W.of ?_);simp[nu];simp[vG];simp[vH,ayS,aLR,asT.all];have E1:=E0 h nx (.cells (Y.act c) .fix);have b1:=(E1.g b tM).trans hb;have p31:=(E1.g p3 l3).trans h3;have p41:=(E1.g p4 l4).trans h4;have a1:ag nx (au nx (Qz (Y.act c)) h)=Qz (Y.act c):=by simp
 generalize au nx (Qz (Y.act c)) h=h1 at *;have hTa:∀(s:St) (l:List AV),List.take 4 (eS s++l)=eS s:=fun _ _=>rfl;have hDa:∀(s:St) (x1 x2 x3 x4 x5:AV),List.drop 9 (eS s ++ [x1,x2,x3,x4,x5])=[]:=fun _ _ _ _ _ _=>rfl;simp[vJ,g3,g4,p31,p41,jh,gM,qZ,uL,hTS,hTU,hTa,hDa];have E2:=E1.trans (E0 h1 nx.succ (.cells (xR 115 (eS s)++xR 108 (eU yu)) .fix));have eb:(ai.cells (.str 1 115 ::(eS s ++ .str 1 108 ::eU yu)) .fix)=.cells (xR 115 (eS s)++xR 108 (eU yu)) .fix:=rfl;rw[eb];have b2:=(E2.g b tM).trans hb;have p32:=(E2.g p3 l3).trans h3;have p42:=(E2.g p4 l4).trans h4;have a2:ag nx (au nx.succ (Qz (xR 115 (eS s)++xR 108 (eU yu))) h1)=Qz (Y.act c):=by rw[aw (by omega)];exact a1
 have v2:ag nx.succ (au nx.succ (Qz (xR 115 (eS s)++xR 108 (eU yu))) h1)=Qz (xR 115 (eS s)++xR 108 (eU yu)):=by simp
 generalize au nx.succ (Qz (xR 115 (eS s)++xR 108 (eU yu))) h1=h2 at *;refine aoI Q hi hz ha pE hA b2 (n0:=nx.succ) (by omega) (by simp[g0]) (by simp) v2 (by omega) ?_;intro Lo h5 zI be k q5 g75 be5 C3 aLS E5;have E25:=E2.trans E5;have n5:=E5.n;have b5:=(E25.g b tM).trans hb;have p35:=(E25.g p3 l3).trans h3;have p45:=(E25.g p4 l4).trans h4;have a5:=(E5.g nx (by omega)).trans a2;have q0:ag (K 0) Lo=some (.ptr b 0):=by rw[q5 0 (by simp)];simp[g0]
 have q3:ag (K 3) Lo=some (.ptr p3 0):=by rw[q5 3 (by simp)];simp[g3]
 have q4:ag (K 4) Lo=some (.ptr p4 0):=by rw[q5 4 (by simp)];simp[g4]
 have q6:ag (K 6) Lo=some (.ptr nx 0):=by rw[q5 6 (by simp)];simp
 have q21:ag (K 21) Lo=some (.sl (Y.act c) 1 14 .any):=by rw[q5 21 (by simp)];simp
 have q22:ag (K 22) Lo=some (I 1):=by rw[q5 22 (by simp)];simp
 have q23:ag (K 23) Lo=some (I 0):=by rw[q5 23 (by simp)];simp
 have m1:List.take 1 (rB X Y i z)=[.sl X.rows 7 45 .any]:=aqG (z:=z) d1 d2 hz;have m2:=XL (z:=z) d1 d2 hz;have m3:=awr (z:=z) d1 d2 hz;have har:=PK c;have lA:=amT c s a (by have:=ha.1;omega);obtain⟨h6,f6,g6,k6,be6⟩:=aaN be5 lA (SP c s a);have cA:=asT.cut 0 7 (by decide);have cB:=asT.cut 7 7 (by decide);have zA:∀H,aY (aO 9998) (List.take 7 (Y.act c)) H=(List.take 7 (Y.act c),H):=fun H=>by simpa using cA.QB 9998 H
 have zB:=fun H=>cB.QB 9998 H;simp[tr,q0,q6,g75,b5,a5,hl,ayS,m1,m2,m3,rE,f6,zA];have aDB:=Q.auo c s a hs ha qX h6 zI.succ;simp[zJ]at aDB;refine aB.known aDB ?_;have s5:=kTSu zI;have nb:be≠b∧be≠p3∧be≠p4∧be≠nx:=by
  have aVa:nx.toNat+1≤be.toNat:=by
   rcases C3 with e|e
   ·rw[e];omega
   ·omega
  refine⟨?_,?_,?_,?_⟩<;>(rintro rfl;omega)
 have n7:∀x:Key,x.toNat<zI.toNat→x≠be→ag x (au zI (Qz (eS (fG c s a))) h6)=ag x h5:=fun x hx cp=>by rw[aw hx];exact g6 x cp
 have b7:=(n7 b (by omega) (Ne.symm nb.1)).trans b5;have p37:=(n7 p3 (by omega) (Ne.symm nb.2.1)).trans p35;have p47:=(n7 p4 (by omega) (Ne.symm nb.2.2.1)).trans p45;have a7:=(n7 nx (by omega) (Ne.symm nb.2.2.2)).trans a5;have be7:ag be (au zI (Qz (eS (fG c s a))) h6)=some (.cells (BQ c s a) k6):=by rw[aw aLS];exact be6
 have c7:ag zI (au zI (Qz (eS (fG c s a))) h6)=Qz (eS (fG c s a)):=by simp
 simp[jh,qZ];generalize au zI (Qz (eS (fG c s a))) h6=h7 at *;simp[tu];obtain⟨h8,f8,g8,k8,be8⟩:=aaN be7 lA (SP c s a);simp[tv,q0,q6,g75,b7,a7,hl,ayS,m1,m2,m3,rE,f8,zB];have aDC:=Q.aup c s a hs ha qX h8 zI.succ;simp[zJ]at aDC;refine aB.known aDC ?_;have b8:=(g8 b (Ne.symm nb.1)).trans b7;have p38:=(g8 p3 (Ne.symm nb.2.1)).trans p37;have p48:=(g8 p4 (Ne.symm nb.2.2.1)).trans p47;have c8:=(g8 zI (by rintro rfl;omega)).trans c7;have hDU:∀u:U,List.drop 4 (eU u)=[]:=fun _=>rfl;have hDS:∀s:St,List.drop 4 (eS s)=[]:=fun _=>rfl;have aLU:zI≠p4:=by rintro rfl;omega
 simp[q4,p48,gM,uL,hDU];simp[tw];simp[tz,q3,p38,c8,jh,qZ,hTS,hDS,aD _ _ _ _ aLU,aD _ _ _ _ n34];simp[tA,q23,hw1];refine W.ju (W.of ?_);simp[q22];refine hQ _ _ _ (by simp[q0]) (by simp[q3]) (by simp[q4]) (by simp) (by rw[aD _ _ _ _ (Ne.symm n34)];simp) (fun x hx qR DF=>?_) (by omega);rw[aD _ _ _ _ qR,aD _ _ _ _ DF];have hxb:x≠be:=by
  rintro rfl;rcases C3 with e|e
  ·rw[e]at hx;omega
  ·omega
 rw[g8 x hxb,n7 x (by omega) hxb];exact E25.g x hx
end Ln
namespace Ln
open Go.Sx Go
def KJ:List AV:=[I 0,I 0,.str 0 0,.nils]
theorem adl{l:List AV}{n:Nat}(hl:l.length=n*4)(u:U):List.take (n*4) (l++KJ)++(eU u++List.drop (n*4+4) (l++KJ))=l++eU u:=by rw[List.take_append_of_le_length (by omega),PH (by omega),zqq,List.drop_eq_nil_of_le (by omega),List.nil_append,List.drop_eq_nil_of_le (by simp[KJ];omega),List.append_nil]
variable{C:bH}{X:Kn}{Y:zF}(S:Std C X)(Q:Seq C X Y)(J:UY C)
include Q
theorem aeD{P:cJ}{tm:T AV}{h:T ai}{nx b p4:Key}{i:Nat}(hi:i<3){z:Rc}(hz:z.Ok){rs:List U}{u:U}{oR:Option Key}(hb:ag b h=Qz (rB X Y i z))(tM:b.toNat<nx.toNat)(gR:MP 4 z.cR (ak eU rs) rs.length h nx oR)(nR:oR≠some b)
  (g0:ag (K 0) tm=some (.ptr b 0)) (g4:ag (K 4) tm=some (.ptr p4 0)) (h4:ag p4 h=Qz (eU u)) (lr:rs.length≤1000)
  (hQ:∀(aA:T AV) (h':T ai) (nx':Key) (cR Kb:_),ag (K 0) aA=some (.ptr b 0)→ag (K 4) aA=some (.ptr p4 0)→ag b h'=Qz (rB X Y i {z with cR:=cR})→MP 4 cR (ak eU (rs ++ [u])) (rs ++ [u]).length h' nx' (some Kb)→nx.toNat≤Kb.toNat→(∀x:Key,x.toNat<nx.toNat→x≠b→oR≠some x→ag x h'=ag x h)→nx.toNat≤nx'.toNat→P .norm aA h' nx') :
  wpS C P ⟨[K 115,K 116,K 117,K 118,K 119,K 120,K 121,K 122,K 123,K 124,K 125],[]⟩ lQ [] tm h nx:=by
 have s1:=kTSu nx;have s2:=kTSu nx.succ;have d1:=(Q.dec i hi).len;have d2:=(Q.sys i hi).len;have hl:=kv (z:=z) d1 d2 hz;have r1:=amd (z:=z) d1 d2 hz;have r1':=lat r1;have hTU:∀u:U,List.take 4 (eU u)=eU u:=fun _=>rfl;have cc:=gR.cell;have lR:=fun {Q d pend i L tm h2 n2 k1 d1}=>gR.alq.lnS (C:=C) (Q:=Q) (d:=d) (pend:=pend) (i:=i) (L:=L) (tm:=tm) (h2:=h2) (n2:=n2) (k1:=k1) (d1:=d1);have E1:=E0 h nx (.cells KJ .fix);have gR1:=gR.keep (h':=au nx (Qz KJ) h) E1.n fun x hx=>E1.g x (gR.lt x hx);obtain⟨h2,ha,gR2,F2⟩:=gR1.add (m:=1) (new:=KJ) rfl (by decide) rfl (by omega) rfl;have hrl:(ak eU rs++KJ).length=(rs.length+1)*4:=by rw[xa,og.rows];simp[KJ];omega
 have NA:ag nx.succ h2=some (.cells (ak eU rs++KJ) .part):=by
  rcases gR2 with⟨e,_⟩|⟨x,e1,e2,e3,_⟩
  ·cases e
  ·cases e1;exact e3
 have uX:=adl (og.rows rs) u;have b1:=(E1.g b tM).trans hb;have b2:ag b h2=Qz (rB X Y i z):=by rw[F2.g b (by omega) nR];exact b1
 have nb1:b≠nx:=by rintro rfl;omega
 have nb2:b≠nx.succ:=by rintro rfl;omega
 have w:List.take 103 (rB X Y i z)++AV.slice nx.succ 0 (rs.length+1) 4 ::List.drop 104 (rB X Y i z)=_:=auc (z:=z) d1 d2 hz (.slice nx.succ 0 (rs.length+1) 4);have Z1:([AV.int .i64 (.lit 0),AV.int .i64 (.lit 0),.str 0 0,.nils]:List AV)=KJ:=rfl;have dn:rs.length*4+4≤(rs.length+1)*4:=by omega
 have zf:∀H,aY (aO 9999) KJ H=(KJ,H):=fun H=>bw (FZ yu);have hzl:KJ.length=4:=rfl;have hzt:List.take 4 KJ=KJ:=rfl;have hzc:KJ.all AV.aQ=true:=rfl;have hzd:List.drop 4 KJ=[]:=rfl;have azv:(ak eU rs).length+4=(rs.length+1)*4:=by rw[og.rows];omega
 simp only[lQ,Z1];simp[↓lR,-appendTo,g0,g4,hb,h4,hl,r1,r1',hTU,gM,uL,cc.1,cc.2,Z1,zf,hzl,hzt,hzc,hzd,ha,NA,b2,azv,dn,uX,aD _ _ _ _ nb2,aD _ _ _ _ (Ne.symm nb2),w];have hR3:ag nx.succ (au nx.succ (some (.cells (ak eU rs++eU u) .part)) h2)=some (.cells (ak eU rs++eU u) .part):=by simp
 have hlen:(rs ++ [u]).length=rs.length+1:=by simp
 refine hQ _ _ _ _ nx.succ (by simp[g0]) (by simp[g4]) ?_ (.inr ⟨nx.succ,rfl,by rw[hlen],?_,by omega,?_⟩) (by omega) (fun x hx gA hr'=>?_) (by omega)
 ·first|(rw[gTSm];done)|(rw[aD _ _ _ _ nb2,gTSm])
 ·rw[gZ,hJ]
  first|(rw[gTSm];done)|(rw[aD _ _ _ _ (Ne.symm nb2),gTSm])
 ·rw[og.rows]
 ·have hxs:x≠nx.succ:=by rintro rfl;omega
  have:ag x h2=ag x h:=(F2.g x (by omega) hr').trans (E1.g x hx)
  first|(rw[aD _ _ _ _ hxs,aD _ _ _ _ gA];exact this)|(rw[aD _ _ _ _ gA,aD _ _ _ _ hxs];exact this)
theorem aeE{P:cJ}{tm:T AV}{h:T ai}{nx b p4:Key}{i:Nat}(hi:i<3){z:Rc}(hz:z.Ok){rs:List U}{u:U}{oR:Option Key}(hb:ag b h=Qz (rB X Y i z))(tM:b.toNat<nx.toNat)(gR:MP 4 z.cR (ak eU rs) rs.length h nx oR)(nR:oR≠some b)
  (g0:ag (K 0) tm=some (.ptr b 0)) (g4:ag (K 4) tm=some (.ptr p4 0)) (h4:ag p4 h=Qz (eU u)) (lr:rs.length≤1000)
  (hQ:∀(aA:T AV) (h':T ai) (nx':Key) (cR Kb:_),ag (K 0) aA=some (.ptr b 0)→ag (K 4) aA=some (.ptr p4 0)→ag b h'=Qz (rB X Y i {z with cR:=cR})→MP 4 cR (ak eU (rs ++ [u])) (rs ++ [u]).length h' nx' (some Kb)→nx.toNat≤Kb.toNat→(∀x:Key,x.toNat<nx.toNat→x≠b→oR≠some x→ag x h'=ag x h)→nx.toNat≤nx'.toNat→P .norm aA h' nx') :
  wpS C P ⟨[K 115,K 116,K 117,K 118,K 119,K 120,K 121,K 122,K 123,K 124,K 125],[]⟩ lT [] tm h nx:=by
 have s1:=kTSu nx;have s2:=kTSu nx.succ;have d1:=(Q.dec i hi).len;have d2:=(Q.sys i hi).len;have hl:=kv (z:=z) d1 d2 hz;have r1:=amd (z:=z) d1 d2 hz;have r1':=lat r1;have hTU:∀u:U,List.take 4 (eU u)=eU u:=fun _=>rfl;have cc:=gR.cell;have lR:=fun {Q d pend i L tm h2 n2 k1 d1}=>gR.alq.lnS (C:=C) (Q:=Q) (d:=d) (pend:=pend) (i:=i) (L:=L) (tm:=tm) (h2:=h2) (n2:=n2) (k1:=k1) (d1:=d1);have E1:=E0 h nx (.cells KJ .fix);have gR1:=gR.keep (h':=au nx (Qz KJ) h) E1.n fun x hx=>E1.g x (gR.lt x hx);obtain⟨h2,ha,gR2,F2⟩:=gR1.add (m:=1) (new:=KJ) rfl (by decide) rfl (by omega) rfl;have hrl:(ak eU rs++KJ).length=(rs.length+1)*4:=by rw[xa,og.rows];simp[KJ];omega
 have NA:ag nx.succ h2=some (.cells (ak eU rs++KJ) .part):=by
  rcases gR2 with⟨e,_⟩|⟨x,e1,e2,e3,_⟩
  ·cases e
  ·cases e1;exact e3
 have uX:=adl (og.rows rs) u;have b1:=(E1.g b tM).trans hb;have b2:ag b h2=Qz (rB X Y i z):=by rw[F2.g b (by omega) nR];exact b1
 have nb1:b≠nx:=by rintro rfl;omega
 have nb2:b≠nx.succ:=by rintro rfl;omega
 have w:List.take 103 (rB X Y i z)++AV.slice nx.succ 0 (rs.length+1) 4 ::List.drop 104 (rB X Y i z)=_:=auc (z:=z) d1 d2 hz (.slice nx.succ 0 (rs.length+1) 4);have Z1:([AV.int .i64 (.lit 0),AV.int .i64 (.lit 0),.str 0 0,.nils]:List AV)=KJ:=rfl;have dn:rs.length*4+4≤(rs.length+1)*4:=by omega
 have zf:∀H,aY (aO 9999) KJ H=(KJ,H):=fun H=>bw (FZ yu);have hzl:KJ.length=4:=rfl;have hzt:List.take 4 KJ=KJ:=rfl;have hzc:KJ.all AV.aQ=true:=rfl;have hzd:List.drop 4 KJ=[]:=rfl;have azv:(ak eU rs).length+4=(rs.length+1)*4:=by rw[og.rows];omega
 simp only[lT,Z1];simp[↓lR,-appendTo,g0,g4,hb,h4,hl,r1,r1',hTU,gM,uL,cc.1,cc.2,Z1,zf,hzl,hzt,hzc,hzd,ha,NA,b2,azv,dn,uX,aD _ _ _ _ nb2,aD _ _ _ _ (Ne.symm nb2),w];have hR3:ag nx.succ (au nx.succ (some (.cells (ak eU rs++eU u) .part)) h2)=some (.cells (ak eU rs++eU u) .part):=by simp
 have hlen:(rs ++ [u]).length=rs.length+1:=by simp
 refine hQ _ _ _ _ nx.succ (by simp[g0]) (by simp[g4]) ?_ (.inr ⟨nx.succ,rfl,by rw[hlen],?_,by omega,?_⟩) (by omega) (fun x hx gA hr'=>?_) (by omega)
 ·first|(rw[gTSm];done)|(rw[aD _ _ _ _ nb2,gTSm])
 ·rw[gZ,hJ]
  first|(rw[gTSm];done)|(rw[aD _ _ _ _ (Ne.symm nb2),gTSm])
 ·rw[og.rows]
 ·have hxs:x≠nx.succ:=by rintro rfl;omega
  have:ag x h2=ag x h:=(F2.g x (by omega) hr').trans (E1.g x hx)
  first|(rw[aD _ _ _ _ hxs,aD _ _ _ _ gA];exact this)|(rw[aD _ _ _ _ gA,aD _ _ _ _ hxs];exact this)
end Ln
namespace Ln
open Go.Sx Go
theorem aBQ(s:St):AV.beq (.agg (eS s)) (.agg (eS s))=true:=beq_refl _ (by simp[eS,AV.lits,AV.dA,xY,I])
theorem ai6{α:Type}{z:Nat}{enc:α→List AV}(F:Flat z enc)(l:List α):AV.dA (ak enc l)=true:=by rw[jb];intro y hy;unfold ak at hy;rw[List.mem_flatMap]at hy;obtain⟨x,_,hx⟩:=hy;exact jb.1 (F.lits x) y hx
theorem aBR{z:Nat}{α:Type}{enc:α→List AV}(F:Flat z enc){c:AV}{us:List α}{len:Nat}{h:T ai}{nx:Key}{ob:Option Key}(g:Gr z c (ak enc us) len h nx ob):AV.beq c c=true:=by
 refine beq_refl _ ?_;rcases g with⟨rfl,_⟩|⟨b,k,_,rfl,_⟩|⟨t,_,rfl,_⟩
 ·rfl
 ·rfl
 ·simp only[AV.lits];exact ai6 F us
theorem awI{z:Nat}{c:AV}{l:List AV}{len:Nat}{h:T ai}{nx:Key}{ob:Option Key}(g:Gr z c l len h nx ob):c.aQ=true∧c.cells=[c]:=by rcases g with⟨e,_⟩|⟨b,k,_,e,_⟩|⟨t,_,e,_⟩<;>rw[e]<;>exact⟨rfl,rfl⟩
variable{C:bH}{X:Kn}{Y:zF}(S:Std C X)(Q:Seq C X Y)(J:UY C)
include S Q J
theorem ad8{P:cJ}{tm:T AV}{h:T ai}{nx b p4:Key}{i:Nat}(hi:i<3){z:Rc}(hz:z.Ok){c:aX}{a:List U}(ha:CQ c a){u:U}{ss:List WC}{oS:Option Key}(hb:ag b h=Qz (rB X Y i z))(tM:b.toNat<nx.toNat)(gS:Gr 12 z.cS (ak Wy ss) ss.length h nx oS)(nS:oS≠some b)
  (UL:z.cl=cD c a) (hA:z.args=aC a) (hs:z.s.kids.length≤3) (g0:ag (K 0) tm=some (.ptr b 0)) (g4:ag (K 4) tm=some (.ptr p4 0)) (h4:ag p4 h=Qz (eU u)) (l4:p4.toNat<nx.toNat) (ls:ss.length≤1000)
  (hQ:∀(aA:T AV) (h':T ai) (nx':Key) (cS:AV) (RF:Option Key),ag b h'=Qz (rB X Y i {z with cS:=cS})→Gr 12 cS (ak Wy (ss ++ [(⟨c,a,u,z.s⟩:WC)])) (ss ++ [(⟨c,a,u,z.s⟩:WC)]).length h' nx' RF→(RF=oS∨∃y:Key,RF=some y∧nx.toNat≤y.toNat)→(∀x:Key,x.toNat<nx.toNat→x≠b→oS≠some x→ag x h'=ag x h)→nx.toNat≤nx'.toNat→P .norm aA h' nx') :
  wpS C P ⟨[K 126,K 127,K 128,K 129,K 130,K 131,K 132,K 133,K 134,K 135,K 136,K 137,K 138,K 139,K 140,K 141,K 142,K 143,K 144,K 145,K 146,K 147,K 148,K 149,K 150,K 151,K 152],[]⟩ iH [] tm h nx:=by
 have d1:=(Q.dec i hi).len;have d2:=(Q.sys i hi).len;have hl:=kv (z:=z) d1 d2 hz;have rC:=S.r iA;have rV:=S.r da;have r1c:=S.r cF;have r1:=aue (z:=z) d1 d2 hz;have r1':=lat r1;have r2:=aBK (z:=z) d1 d2 hz;have r3:=Lp (z:=z) d1 d2 hz;have r4:=awt (z:=z) d1 d2 hz;rw[UL]at r2;rw[hA]at r3;have r3':=lat r3;have hc:=mS c a;have zc:=fun H=>hc.QB 9998 H;have za:∀n H,aO n (aC a) H=(aC a,H):=dY a;have zs:∀(s:St) H,aY (aO 9998) (eS s) H=(eS s,H):=fun s H=>bw (RG s);have zu:∀(u:U) H,aY (aO 9998) (eU u) H=(eU u,H):=fun u H=>bw (FZ u);have hTU:∀u:U,List.take 4 (eU u)=eU u:=fun _=>rfl;have la:a.length≤1000:=by have:=ha.1;have:=PK c;omega
 have bS:AV.beq (.agg (eS z.s)) (.agg (eS z.s))=true:=aBQ z.s;have bU:=ahv u;have bA:AV.beq (aC a) (aC a)=true:=beq_refl _ (C7 a);have hcS:AV.beq z.cS z.cS=true:=aBR JZ gS;have cc:z.cS.aQ=true∧z.cS.cells=[z.cS]:=by rcases gS with⟨e,_⟩|⟨b,k,_,e,_⟩|⟨t,_,e,_⟩<;>rw[e]<;>exact⟨rfl,rfl⟩
 have ca:=cG a;simp only[iH,kj,lY,lZ,kl,l7,km,l8,l9,kn,ko,ma,mb,mc,me];simp[-appendTo,g0,g4,hb,h4,hl,r1,r1',r2,r3,r3',r4,hTU,gM,rC,zc];refine(WQ S J c a la h nx).mono ?_;rintro o h1 bW ⟨rfl,e1⟩;have b1:=(e1.g b tM).trans hb;have p1:=(e1.g p4 l4).trans h4;have n1:=e1.n;simp[-appendTo,g4,b1,p1,hl,r1,r1',r3,r3',r4,hTU,gM,rV,za,bS,bU,bA,hcS];refine(BF S a la h1 bW).mono ?_;rintro o h2 aZ ⟨rfl,e2⟩;have b2:=(e2.g b (by omega)).trans b1;have p2:=(e2.g p4 (by omega)).trans p1;have n2:=e2.n;simp[-appendTo,g4,b2,p2,hl,r1,r1',r4,hTU,gM,r1c,zu,bS,bU,hcS];refine aB.known (v:=.agg (eU u)) (S.s_Clone ⟨u.k,u.n,[]⟩ (by simp) _ _) ?_;simp[-appendTo,g4,b2,p2,hl,r1,r1',r4,hTU,gM,r1c,zs,bS,bU,hcS];refine aB.known (S.s_Clone z.s hs _ _) ?_;have s2:=kTSu aZ;have E3:=e1.trans (e2.trans (E0 h2 aZ (.cells (Wy ⟨c,a,u,z.s⟩) .fix)));have gS3:=gS.keep (h':=au aZ (Qz (Wy ⟨c,a,u,z.s⟩)) h2) E3.n fun x hx=>E3.g x (gS.lt x hx);obtain⟨cS',h4',mC,RF,hap,gS4,F4⟩:=gS3.Q9 JZ rfl (by decide) (by omega) ⟨c,a,u,z.s⟩;have b3:=(E3.g b tM).trans hb;have b4:ag b h4'=Qz (rB X Y i z):=by rw[F4.g b (by have:=E3.n;omega) nS];exact b3
 have c4:=awI gS4;have w:List.take 104 (rB X Y i z)++cS' ::List.drop 105 (rB X Y i z)=_:=aBJ (z:=z) d1 d2 hz cS';have ex:Wy ⟨c,a,u,z.s⟩=[.str c.name.1 c.name.2,aC a,gj a,aC a,I u.k,I u.n,.str 0 0,.nils,I z.s.k,I z.s.n,.str 0 0,aC z.s.kids]:=rfl;have ck:=cG z.s.kids;have cr:=H7 a;have zk:∀n H,aO n (aC z.s.kids) H=(aC z.s.kids,H):=dY _;have zr:∀n H,aO n (gj a) H=(gj a,H):=RH a;rw[ex]at hap;simp[-appendTo,g4,b2,p2,hl,r1,r1',r4,hcS,cD,eU,eS,ca.1,ca.2,ck.1,ck.2,cr.1,cr.2,za,zk,zr,hap,b4,c4.1,c4.2,w];have n3:=E3.n;have n4:=F4.n;refine hQ _ _ _ cS' RF (by simp) (gS4.keep (gi _) fun x hx=>aD _ _ _ _ (fun e=>F4.ne (b:=b) (by omega) nS (by rw[hx,e]))) ?_ (fun x hx hxb hxs=>?_) (by omega)
 ·rcases F4.o with e|⟨y,e,hy⟩
  ·exact .inl e
  ·exact .inr ⟨y,e,by omega⟩
 ·rw[aD _ _ _ _ hxb,F4.g x (by omega) hxs];exact E3.g x hx
end Ln
namespace Ln
open Go.Sx Go
variable{C:bH}{X:Kn}{Y:zF}(S:Std C X)(Q:Seq C X Y)(J:UY C)
include S Q J
def avg(X:Kn)(Y:zF)(i:Nat)(b:Key)(z:Rc)(rs:List U)(ss:List WC)(oR oS:Option Key)(h:T ai)(nx:Key)(c:aX)(a:List U)(o:Out)(h':T ai)(nx':Key):Prop:=o=.ret (.bool true)∧∃cR cS Kb RF,NB X Y i b {z with sh:=fG c z.s a,res:=fq c z.s a,cR:=cR,cS:=cS} (rs ++ [fq c z.s a]) (ss ++ [⟨c,a,fq c z.s a,z.s⟩]) Kb RF h' nx'∧Fr3 b h nx oR oS h' nx' Kb RF
theorem aeB{i:Nat}(hi:i<3){c:aX}{a:List U}(ha:CQ c a){b:Key}{z:Rc}{rs:List U}{ss:List WC}{oR oS:Option Key}{h:T ai}{nx:Key}(R:NB X Y i b z rs ss oR oS h nx)(UL:z.cl=cD c a)(pE:z.op=Y.op c)(hA:z.args=aC a)(hsh:z.sh=z.s)(hs:zG c.fZ z.s)(qX:iP c z.s=true)(lr:rs.length≤1000)(ls:ss.length≤1000) :
  aB C aN [.ptr b 0] h nx (avg X Y i b z rs ss oR oS h nx c a):=by
 have s1:=kTSu nx;have s2:=kTSu nx.succ;have d1:=(Q.dec i hi).len;have d2:=(Q.sys i hi).len;have hz:=R.ok;have hl:=kv (z:=z) d1 d2 hz;have hb:=R.wa;have tM:=R.bn;have hTS:∀s:St,List.take 4 (eS s)=eS s:=fun _=>rfl;have hTU:∀u:U,List.take 4 (eU u)=eU u:=fun _=>rfl;have r1:=aBI (z:=z) d1 d2 hz;rw[hsh]at r1;have hDS:∀s:St,List.drop 4 (eS s)=[]:=fun _=>rfl;refine J.xi.call ?_;simp[rX];simp[vA];simp[vB,hb,hl,r1,jh,qZ,hDS];have ez:([I 0,I 0,.str 0 0,.nils]:List AV)=eU yu:=rfl;rw[ez];have arU:∀x:Key,x.toNat<nx.toNat→ag x (au nx.succ (Qz (eU yu)) (au nx (Qz (eS z.s)) (au nx.succ (Qz (eU yu)) (au nx (Qz (eU yu)) h))))=ag x h:=fun x hx=>by rw[aw (by omega),aw hx,aw (by omega),aw hx]
 have g32:ag nx (au nx.succ (Qz (eU yu)) (au nx (Qz (eS z.s)) (au nx.succ (Qz (eU yu)) (au nx (Qz (eU yu)) h))))=Qz (eS z.s):=by rw[aw (by omega)];simp
 have g42:ag nx.succ (au nx.succ (Qz (eU yu)) (au nx (Qz (eS z.s)) (au nx.succ (Qz (eU yu)) (au nx (Qz (eU yu)) h))))=Qz (eU yu):=by simp
 generalize au nx.succ (Qz (eU yu)) (au nx (Qz (eS z.s)) (au nx.succ (Qz (eU yu)) (au nx (Qz (eU yu)) h)))=h2 at *;have b2:=(arU b tM).trans hb;have nb1:b≠nx:=by rintro rfl;omega
 have nb2:b≠nx.succ:=by rintro rfl;omega
 have n12:nx≠nx.succ:=fun e=>by have:=congrArg Key.toNat e;omega
 refine anR S Q hi hz ha hs qX pE hA b2 (by omega) (by simp) (by simp) (by simp) g32 g42 (by omega) (by omega) nb1 nb2 n12 ?_;intro Lo h3 fT q0 q3 q4 p3 p4 ayp n3;have low:∀x:Key,x.toNat<nx.toNat→ag x h3=ag x h:=fun x hx=>(ayp x (by omega) (by rintro rfl;omega) (by rintro rfl;omega)).trans (arU x hx);have b3:=(low b tM).trans hb;have bS:∀u:U,AV.beq (.agg (eU u)) (.agg (eU u))=true:=ahv;have w1:List.take 99 (rB X Y i z)++(eS (fG c z.s a)++List.drop 103 (rB X Y i z))=_:=aua (z:=z) d1 d2 hz (fG c z.s a);have hz1:({z with sh:=fG c z.s a}:Rc).Ok:=⟨hz.cl,hz.cmd,hz.op⟩;have w2:List.take 138 (rB X Y i {z with sh:=fG c z.s a})++(eU (fq c z.s a)++List.drop 142 (rB X Y i {z with sh:=fG c z.s a}))=_:=awB (z:={z with sh:=fG c z.s a}) d1 d2 hz1 (fq c z.s a);have Ri:=kv (z:={z with sh:=fG c z.s a}) d1 d2 hz1;have avh:List.drop 142 (rB X Y i {z with sh:=fG c z.s a})=[]:=List.drop_eq_nil_of_le (by omega);rw[avh,List.append_nil]at w2;simp only[C6];simp[sT,q0,q3,q4,p3,p4,b3,hl,hTS,hTU,jh,gM,qZ,uL,aD _ _ _ _ nb1,aD _ _ _ _ (Ne.symm nb2),aD _ _ _ _ nb2,bS,w1,Ri,avh,w2];have hz2:({z with sh:=fG c z.s a,res:=fq c z.s a}:Rc).Ok:=⟨hz.cl,hz.cmd,hz.op⟩;have aCX:∀x,oR=some x→ag x (au b (Qz (rB X Y i {z with sh:=fG c z.s a,res:=fq c z.s a})) h3)=ag x h:=fun x hx=>by rw[aD _ _ _ _ (fun e=>R.nR (by rw[hx,e]))];exact low x (R.gR.lt x hx)
 have aCY:∀x,oS=some x→ag x (au b (Qz (rB X Y i {z with sh:=fG c z.s a,res:=fq c z.s a})) h3)=ag x h:=fun x hx=>by rw[aD _ _ _ _ (fun e=>R.nS (by rw[hx,e]))];exact low x (R.gS.lt x hx)
 have b4:ag b (au b (Qz (rB X Y i {z with sh:=fG c z.s a,res:=fq c z.s a})) h3)=Qz (rB X Y i {z with sh:=fG c z.s a,res:=fq c z.s a}):=by simp
 have p44:ag nx.succ (au b (Qz (rB X Y i {z with sh:=fG c z.s a,res:=fq c z.s a})) h3)=Qz (eU (fq c z.s a)):=by rw[aD _ _ _ _ (Ne.symm nb2)];exact p4
 have aK4:∀x:Key,x.toNat<nx.toNat→x≠b→ag x (au b (Qz (rB X Y i {z with sh:=fG c z.s a,res:=fq c z.s a})) h3)=ag x h:=fun x hx cp=>by rw[aD _ _ _ _ cp];exact low x hx
 generalize au b (Qz (rB X Y i {z with sh:=fG c z.s a,res:=fq c z.s a})) h3=h4 at *;have gR4:=R.gR.keep (nx':=fT) (by omega) aCX;have gS4:=R.gS.keep (nx':=fT) (by omega) aCY;have lk:z.s.kids.length≤3:=Nat.le_trans hs.st (XX _);have fin:∀(aA:T AV) (h':T ai) (nx':Key) (cR:AV) (Kb:Key),ag (K 0) aA=some (.ptr b 0)→ag (K 4) aA=some (.ptr nx.succ 0)→ag b h'=Qz (rB X Y i {z with sh:=fG c z.s a,res:=fq c z.s a,cR:=cR})→MP 4 cR (ak eU (rs ++ [fq c z.s a])) (rs ++ [fq c z.s a]).length h' nx' (some Kb)→fT.toNat≤Kb.toNat→(∀x:Key,x.toNat<fT.toNat→x≠b→oR≠some x→ag x h'=ag x h4)→fT.toNat≤nx'.toNat→
   mE C (.seq (.staged iH ⟨[K 126,K 127,K 128,K 129,K 130,K 131,K 132,K 133,K 134,K 135,K 136,K 137,K 138,K 139,K 140,K 141,K 142,K 143,K 144,K 145,K 146,K 147,K 148,K 149,K 150,K 151,K 152],[]⟩) (.seq (.ops lF) .ret)) (gC [.tmp (K 2)] (avg X Y i b z rs ss oR oS h nx c a)) aA h' nx':=by
  intro tm5 h5 zI cR Kb q0' q4' b5 gR5 nR5 anS n5;have p45:ag nx.succ h5=Qz (eU (fq c z.s a)):=by rw[anS nx.succ (by omega) (Ne.symm nb2) (fun e=>by have:=R.gR.lt _ e;omega)];exact p44
  have gS5:=gS4.keep (h':=h5) (nx':=zI) n5 fun x hx=>anS x (gS4.lt x hx) (fun e=>R.nS (by rw[hx,e])) (fun e=>R.nRS x e hx);simp only[ji,tP,lX,ar8];refine ad8 S Q J hi (z:={z with sh:=fG c z.s a,res:=fq c z.s a,cR:=cR}) ⟨hz.cl,hz.cmd,hz.op⟩ ha b5 (by omega) gS5 R.nS UL hA lk q0' q4' p45 (by omega) ls ?_;intro tm6 h6 By cS RF b6 gS6 ho6 ad4 n6;simp[lF];have l5:=gR5.lt Kb rfl;have gA:Kb≠b:=by rintro rfl;omega
  have gR6:=gR5.keep (h':=h6) (nx':=By) n6 fun x hx=>by cases hx;exact ad4 Kb l5 gA (fun e=>by have:=gS4.lt _ e;omega)
  refine⟨rfl,cR,cS,some Kb,RF,⟨b6,by omega,⟨hz.cl,hz.cmd,hz.op⟩,gR6,gS6,fun e=>gA (Option.some.inj e),?_,?_⟩,⟨by omega,fun x hx h1 h2 h3=>?_,.inr ⟨Kb,rfl,by omega⟩,?_⟩⟩
  ·rcases ho6 with e|⟨y,e,hy⟩
   ·rw[e];exact R.nS
   ·rw[e];intro q;cases q;omega
  ·intro x hx;cases hx;rcases ho6 with e|⟨y,e,hy⟩
   ·rw[e];intro q;have:=gS4.lt _ q;omega
   ·rw[e];intro q;cases q;omega
  ·rw[ad4 x (by omega) h1 h3,anS x (by omega) h1 h2];exact aK4 x hx h1
  ·rcases ho6 with e|⟨y,e,hy⟩
   ·exact .inl e
   ·exact .inr ⟨y,e,by omega⟩
 refine⟨aeD Q hi hz2 b4 (by omega) gR4 R.nR (by simp[q0]) (by simp[q4]) p44 lr ?_,aeE Q hi hz2 b4 (by omega) gR4 R.nR (by simp[q0]) (by simp[q4]) p44 lr ?_⟩
 ·intro aA h' nx' cR Kb a1 a2 a3 a4 a5 a6 a7;exact fin aA h' nx' cR Kb a1 a2 a3 a4 a5 a6 a7
 ·intro aA h' nx' cR Kb a1 a2 a3 a4 a5 a6 a7;exact fin aA h' nx' cR Kb a1 a2 a3 a4 a5 a6 a7
end Ln
namespace Ln
open Go.Sx Go
variable{C:bH}{X:Kn}{Y:zF}(S:Std C X)(Q:Seq C X Y)(J:UY C)
include J
def yn(b:Key)(fs:List Nat):List AV:=fs.map fun f=>.fn f [.ptr b 0] []
theorem ahR{b:Key}{fs:List Nat}(hf:fs.length≤1000)(Inv:Nat→T ai→Key→Prop){h:T ai}{nx:Key}(h0:Inv 0 h nx)(hs:∀(j:Nat) (hj:j<fs.length) (h:T ai) (nx:Key),Inv j h nx→aB C fs[j] [.ptr b 0] h nx (fun o h' nx'=>o=.ret (.bool true)∧Inv (j+1) h' nx')) :
  aB C gE [.sl (yn b fs) fs.length 1 .any] h nx (fun o h' nx'=>o=.ret (.bool true)∧Inv fs.length h' nx'):=by
 refine J.L1.call ?_;simp[Ke];simp[JI];simp[JJ];refine W.iM (n:=fs.length) (fun m tm h nx=>∃j:Nat,m=fs.length-j∧j≤fs.length∧ag (K 5) tm=some (.sl (yn b fs) fs.length 1 .any)∧ag (K 6) tm=some (I fs.length)∧ag (K 7) tm=some (I j)∧Inv j h nx) ⟨0,by simp,by omega,by simp,by simp,by simp,h0⟩ ?_;rintro m gh h1 bW ⟨j,rfl,hj,g5,g6,g7,hi⟩;refine W.of ?_;simp[JO];simp[JK,g6,g7];refine⟨fun dn=>?_,fun ZQ=>?_⟩
 ·have fu:j<fs.length:=by omega
  have hk:(yn b fs)[j]?=some (.fn fs[j] [.ptr b 0] []):=by unfold yn;rw[List.getElem?_map,zC fu];rfl
  have Ib:=lat hk;have hlen:(yn b fs).length=fs.length:=by unfold yn;simp
  have WT:List.take 1 (List.drop j (yn b fs))=[.fn fs[j] [.ptr b 0] []]:=by rw[zqt (by omega),Ib];rfl
  have h1l:1≤fs.length-j:=by omega
  simp[JL,g5,g7,fu,hlen,WT,h1l];have call:=hs j fu h1 bW hi;have M9:cq (C.raw fs[j]) [.ptr b 0] h1=([.ptr b 0],h1):=by cases C.raw fs[j]<;>simp
  simp[JM,M9];refine call.mono ?_;rintro o h2 aZ ⟨rfl,DF⟩;simp;simp[JN,g7];rw[aS (by omega) (by omega)];exact⟨fs.length-(j+1),by omega,j+1,rfl,by omega,by simp[g5],by simp[g6],by simp,DF⟩
 ·have:j=fs.length:=by omega
  subst this;simp[JP];exact hi
end Ln
namespace Ln
open Go.Sx Go
def nq:List AV:=[I 0,.str 0 0,I 0,.nils,.nils,I 0,.str 0 0,.nils,I 0,.str 0 0,I 0,.nils,.nils,.nils,I 0,I 0,I 0,.str 0 0,.nils,.nils,.nils,I 0,.nils,.nils,.nils,.nils,I 0,.str 0 0,.nils,I 0,.str 0 0,I 0,.nils,.nils,.nils,I 0,.nils,.nils,I 0,.str 0 0,I 0,.nils,.nils,.nils,I 0]
def aDp:List AV:=[.str 0 0,.nils,I 0,.str 0 0,I 0,.nils,.nils,.nils,I 0,I 0,.str 0 0,I 0,.nils,.nils,.nils,I 0,I 0,.str 0 0,I 0,.nils,.nils,.nils,I 0]
def KQ(s t:St):Rc:=⟨s,t,.nils,.nils,0,[.str 0 0,.nils,.nils],aDp,[.str 0 0,.nils,.nils],.nils,yu⟩
def TJ(X:Kn)(D1 D2:List AV)(z:Rc):List AV:=[AV.sl X.rows 7 45 .any]++(D1++(D2++([I 200,I 50]++([I 0,I 0]++(eS z.s++(eS z.sh++([z.cR]++([z.cS]++([I (-1),I 0]++([I z.pos]++(z.cl++(z.cmd++(z.op++([z.args]++eU z.res))))))))))))))
theorem aDq{X:Kn}{D1 D2 D:List AV}{z:Rc}(h:D1.length=45):List.take 1 (TJ X D1 D2 z)++(D++List.drop 46 (TJ X D1 D2 z))=TJ X D D2 z:=by have q:=UK (l:=TJ X D1 D2 z) (a:=[AV.sl X.rows 7 45 .any]) (b:=D1) (o:=1) (n:=45) rfl rfl h;rw[q.2.2,show List.drop 46 (TJ X D1 D2 z)=_ from q.2.1];rfl
theorem aDr{X:Kn}{D1 D2 D:List AV}{z:Rc}(h1:D1.length=45)(h:D2.length=45):List.take 46 (TJ X D1 D2 z)++(D++List.drop 91 (TJ X D1 D2 z))=TJ X D1 D z:=by have q:=UK (l:=TJ X D1 D2 z) (a:=AV.sl X.rows 7 45 .any ::D1) (b:=D2) (o:=46) (n:=45) rfl (by simp[h1]) h;rw[q.2.2,show List.drop 91 (TJ X D1 D2 z)=_ from q.2.1];rfl
theorem ah5{X:Kn}{D1 D2:List AV}{s t:St}(h1:D1.length=45)(h:D2.length=45):(TJ X D1 D2 (KQ s t)).length=142:=by simp only[TJ,xa,HW,List.length_nil,h1,h,jh,gM,KQ];rfl
variable{C:bH}{X:Kn}{Y:zF}(S:Std C X)(Q:Seq C X Y)(J:UY C)
include S Q J
theorem Xh{i:Nat}(hi:i<3)(h:T ai)(nx:Key):aB C jA [X.m,fD i,U2 i,dp,zN] h nx (fun o h' nx'=>∃b:Key,o=.ret (.tuple [.ptr b 0,I 0])∧NB X Y i b (KQ (aJ i) (aJ i)) [] [] none none h' nx'∧nx.toNat≤b.toNat∧Ext h nx h' nx'):=by
 have s1:=kTSu nx;have s2:=kTSu nx.succ;have s3:=kTSu nx.succ.succ;have s4:=kTSu nx.succ.succ.succ;have rD:=S.r jE;have rE:=S.r bK;refine J.Jf.call ?_;simp[GG];simp[Hk,Kn.m,dp,zN];have e3:=((E0 h nx (.cells [.sl X.rows 7 45 .any] .fix)).trans (E0 _ nx.succ (.cells [I 200,I 50] .fix))).trans (E0 _ nx.succ.succ (.cells [I 0,I 0] .fix));have m3:ag nx (au nx.succ.succ (Qz [I 0,I 0]) (au nx.succ (Qz [I 200,I 50]) (au nx (Qz [.sl X.rows 7 45 .any]) h)))=Qz [.sl X.rows 7 45 .any]:=by rw[aw (by omega),aw (by omega)];simp
 have l3:ag nx.succ (au nx.succ.succ (Qz [I 0,I 0]) (au nx.succ (Qz [I 200,I 50]) (au nx (Qz [.sl X.rows 7 45 .any]) h)))=Qz [I 200,I 50]:=by rw[aw (by omega)];simp
 have z3:ag nx.succ.succ (au nx.succ.succ (Qz [I 0,I 0]) (au nx.succ (Qz [I 200,I 50]) (au nx (Qz [.sl X.rows 7 45 .any]) h)))=Qz [I 0,I 0]:=by simp
 generalize au nx.succ.succ (Qz [I 0,I 0]) (au nx.succ (Qz [I 200,I 50]) (au nx (Qz [.sl X.rows 7 45 .any]) h))=h3 at *;simp[Hl,m3,l3,z3];have s5:=kTSu nx.succ.succ.succ;have dd:=Q.dec i hi;have ds:=Q.sys i hi;have k0:nq.length=45:=rfl;have q0:(TJ X nq nq (KQ ⟨0,0,[]⟩ ⟨0,0,[]⟩)).length=142:=ah5 k0 k0;have w1:=aDq (X:=X) (D1:=nq) (D2:=nq) (D:=X.dec i) (z:=KQ ⟨0,0,[]⟩ ⟨0,0,[]⟩) k0;have q1:(TJ X (X.dec i) nq (KQ ⟨0,0,[]⟩ ⟨0,0,[]⟩)).length=142:=ah5 dd.len k0;have w2:=aDr (X:=X) (D1:=X.dec i) (D2:=nq) (D:=Y.sys i) (z:=KQ ⟨0,0,[]⟩ ⟨0,0,[]⟩) dd.len k0;have aLI:=e3.trans (E0 h3 nx.succ.succ.succ (.cells (TJ X nq nq (KQ ⟨0,0,[]⟩ ⟨0,0,[]⟩)) .fix));have eL:∀L:List AV,L=TJ X nq nq (KQ ⟨0,0,[]⟩ ⟨0,0,[]⟩)→au nx.succ.succ.succ (Qz L) h3=au nx.succ.succ.succ (Qz (TJ X nq nq (KQ ⟨0,0,[]⟩ ⟨0,0,[]⟩))) h3:=fun L e=>by rw[e]
 rw[eL [.sl X.rows 7 45 .any,I 0,.str 0 0,I 0,.nils,.nils,I 0,.str 0 0,.nils,I 0,.str 0 0,I 0,.nils,.nils,.nils,I 0,I 0,I 0,.str 0 0,.nils,.nils,.nils,I 0,.nils,.nils,.nils,.nils,I 0,.str 0 0,.nils,I 0,.str 0 0,I 0,.nils,.nils,.nils,I 0,.nils,.nils,I 0,.str 0 0,I 0,.nils,.nils,.nils,I 0,I 0,.str 0 0,I 0,.nils,.nils,I 0,.str 0 0,.nils,I 0,.str 0 0,I 0,.nils,.nils,.nils,I 0,I 0,I 0,.str 0 0,.nils,.nils,.nils,I 0,.nils,.nils,.nils,.nils,I 0,.str 0 0,.nils,I 0,.str 0 0,I 0,.nils,.nils,.nils,I 0,.nils,.nils,I 0,.str 0 0,I 0,.nils,.nils,.nils,I 0,I 200,I 50,I 0,I 0,I 0,I 0,.str 0 0,.nils,I 0,I 0,.str 0 0,.nils,.nils,.nils,I (-1),I 0,I 0,.str 0 0,.nils,.nils,.str 0 0,.nils,I 0,.str 0 0,I 0,.nils,.nils,.nils,I 0,I 0,.str 0 0,I 0,.nils,.nils,.nils,I 0,I 0,.str 0 0,I 0,.nils,.nils,.nils,I 0,.str 0 0,.nils,.nils,.nils,I 0,I 0,.str 0 0,.nils] rfl];have b4:ag nx.succ.succ.succ (au nx.succ.succ.succ (Qz (TJ X nq nq (KQ ⟨0,0,[]⟩ ⟨0,0,[]⟩))) h3)=Qz (TJ X nq nq (KQ ⟨0,0,[]⟩ ⟨0,0,[]⟩)):=by simp
 have m4:ag nx (au nx.succ.succ.succ (Qz (TJ X nq nq (KQ ⟨0,0,[]⟩ ⟨0,0,[]⟩))) h3)=Qz [.sl X.rows 7 45 .any]:=by rw[aw (by omega)];exact m3
 have l4:ag nx.succ (au nx.succ.succ.succ (Qz (TJ X nq nq (KQ ⟨0,0,[]⟩ ⟨0,0,[]⟩))) h3)=Qz [I 200,I 50]:=by rw[aw (by omega)];exact l3
 generalize au nx.succ.succ.succ (Qz (TJ X nq nq (KQ ⟨0,0,[]⟩ ⟨0,0,[]⟩))) h3=h4 at *;have nb:∀x:Key,x.toNat<nx.succ.succ.succ.toNat→x≠nx.succ.succ.succ:=by rintro x hx rfl;omega
 simp[Hm];simp[Hn,m4,rD];refine aB.known (S.s_parser_Decl i hi _ _) ?_;simp[b4,dd.len,dd.all,q0,w1];simp[Ho,m4,aD _ _ _ _ (nb nx (by omega)),rD];refine aB.known (Q.amC i hi _ _) ?_;simp[ds.len,ds.all,q1,w2];simp[Hp];simp[Hq];have eB:TJ X (X.dec i) (Y.sys i) (KQ ⟨0,0,[]⟩ ⟨0,0,[]⟩)=rB X Y i (KQ ⟨0,0,[]⟩ ⟨0,0,[]⟩):=rfl;rw[eB];have anS:∀(x:Key) (L:List AV),x≠nx.succ.succ.succ→ag x (au nx.succ.succ.succ (Qz L) h4)=ag x h4:=fun x L hx=>aD _ _ _ _ hx;have okz:∀s t:St,(KQ s t).Ok:=fun _ _=>⟨rfl,rfl,rfl⟩;have q2:=kv (X:=X) (Y:=Y) (i:=i) (z:=KQ ⟨0,0,[]⟩ ⟨0,0,[]⟩) dd.len ds.len (okz _ _);have c2:=al5 (X:=X) (Y:=Y) (i:=i) (z:=KQ ⟨0,0,[]⟩ ⟨0,0,[]⟩) dd.len ds.len (okz _ _);have w3:_=rB X Y i (KQ (aJ i) ⟨0,0,[]⟩):=aA9 (X:=X) (Y:=Y) (i:=i) (z:=KQ ⟨0,0,[]⟩ ⟨0,0,[]⟩) dd.len ds.len (okz _ _) (aJ i);have q3:=kv (X:=X) (Y:=Y) (i:=i) (z:=KQ (aJ i) ⟨0,0,[]⟩) dd.len ds.len (okz _ _);have c3:=al9 (X:=X) (Y:=Y) (i:=i) (z:=KQ (aJ i) ⟨0,0,[]⟩) dd.len ds.len (okz _ _);have w4:_=rB X Y i (KQ (aJ i) (aJ i)):=aua (X:=X) (Y:=Y) (i:=i) (z:=KQ (aJ i) ⟨0,0,[]⟩) dd.len ds.len (okz _ _) (aJ i);have zc2:=fun H=>(dd.cut 29 7 (by decide)).QB 9998 H;have zc3:=fun H=>(ds.cut 29 7 (by decide)).QB 9998 H;have m5:=anS nx;have k1:=Q.aht i hi;have k2:=Q.ahu i hi;simp[Kn.m,zJ,zN]at k1 k2;simp[Hr,aD _ _ _ _ (nb nx (by omega)),aD _ _ _ _ (nb nx.succ (by omega)),m4,l4,q2,c2,rE,zc2];refine aB.known (k1 _ _) ?_;simp[jh,qZ,q2,w3];simp[Hs];simp[Et,aD _ _ _ _ (nb nx (by omega)),aD _ _ _ _ (nb nx.succ (by omega)),m4,l4,q3,c3,rE,zc3];refine aB.known (k2 _ _) ?_;simp[jh,qZ,q3,w4];simp[Eu];simp[Ew];exact⟨⟨by simp,by omega,okz _ _,MP.nil _ _ _,Gr.nil _ _ _,by simp,by simp,by simp⟩,by omega,aLI.put (by omega)⟩
end Ln
namespace Ln
open Go.Sx Go
def sH(x:aX×List U):List AV:=cD x.1 x.2
theorem uI:Flat 3 sH where
 len _:=rfl
 zD x:=(mS x.1 x.2).zD
 cell x:=(mS x.1 x.2).cell
 lits x:=(mS x.1 x.2).lits
theorem NB.keep{X:Kn}{Y:zF}{i:Nat}{b:Key}{z:Rc}{rs:List U}{ss:List WC}{oR oS:Option Key}{h h':T ai}{nx nx':Key}(R:NB X Y i b z rs ss oR oS h nx)(hn:nx.toNat≤nx'.toNat)(hk:∀x,x=b∨oR=some x∨oS=some x→ag x h'=ag x h):NB X Y i b z rs ss oR oS h' nx':=
 ⟨by rw[hk b (.inl rfl)];exact R.wa,by have:=R.bn;omega,R.ok,R.gR.keep hn fun x hx=>hk x (.inr (.inl hx)),R.gS.keep hn fun x hx=>hk x (.inr (.inr hx)),R.nR,R.nS,R.nRS⟩
theorem NB.lt{X:Kn}{Y:zF}{i:Nat}{b:Key}{z:Rc}{rs:List U}{ss:List WC}{oR oS:Option Key}{h:T ai}{nx:Key}(R:NB X Y i b z rs ss oR oS h nx):∀x,x=b∨oR=some x∨oS=some x→x.toNat<nx.toNat:=by
 rintro x (rfl|e|e)
 ·exact R.bn
 ·exact R.gR.lt x e
 ·exact R.gS.lt x e
structure XP(X:Kn)(Y:zF)(i:Nat)(b:Key)(h0:T ai)(n0:Key)(z:Rc)(rs:List U)(ss:List WC)(oR oS:Option Key)(cK:AV)(kept:List (aX×List U))(oK:Option Key)(cP:AV)(pl:List Int)(oP:Option Key)(h:T ai)(nx:Key):Prop where
 R:NB X Y i b z rs ss oR oS h nx
 gK:Gr 3 cK (ak sH kept) kept.length h nx oK
 gP:Gr 1 cP (ak eI pl) pl.length h nx oP
 dK:∀x,oK=some x→x≠b∧oR≠some x∧oS≠some x
 dP:∀x,oP=some x→x≠b∧oR≠some x∧oS≠some x∧oK≠some x
 lo:∀x:Key,x=b∨oR=some x∨oS=some x∨oK=some x∨oP=some x→n0.toNat≤x.toNat
 e:Ext h0 n0 h nx
section
variable{X:Kn}{Y:zF}{i:Nat}{b:Key}{h0:T ai}{n0:Key}{z z':Rc}{rs rs':List U}{ss ss':List WC}{oR oS Kb RF:Option Key}{cK cK':AV}{kept anK:List (aX×List U)}{oK oK':Option Key}{cP cP':AV}{pl pl':List Int}{oP oP':Option Key}{h h':T ai}{nx nx':Key}
theorem XP.ext(V:XP X Y i b h0 n0 z rs ss oR oS cK kept oK cP pl oP h nx)(e:Ext h nx h' nx'):XP X Y i b h0 n0 z rs ss oR oS cK kept oK cP pl oP h' nx':=
 ⟨V.R.keep e.n fun x hx=>e.g x (V.R.lt x hx),V.gK.ext e,V.gP.ext e,V.dK,V.dP,V.lo,V.e.trans e⟩
theorem XP.run(V:XP X Y i b h0 n0 z rs ss oR oS cK kept oK cP pl oP h nx)(R:NB X Y i b z' rs' ss' Kb RF h' nx')(F:Fr3 b h nx oR oS h' nx' Kb RF):XP X Y i b h0 n0 z' rs' ss' Kb RF cK kept oK cP pl oP h' nx':=by
 have hn:=F.n;have ZX:=V.e.n;have nR:∀x:Key,x.toNat<nx.toNat→oR≠some x→Kb≠some x:=by
  intro x hx hr;rcases F.r with e|⟨y,e,hy⟩
  ·rw[e];exact hr
  ·rw[e];intro q;cases q;omega
 have nS:∀x:Key,x.toNat<nx.toNat→oS≠some x→RF≠some x:=by
  intro x hx hr;rcases F.s with e|⟨y,e,hy⟩
  ·rw[e];exact hr
  ·rw[e];intro q;cases q;omega
 refine⟨R,V.gK.keep hn fun x hx=>?_,V.gP.keep hn fun x hx=>?_,fun x hx=>?_,fun x hx=>?_,fun x hx=>?_,⟨Nat.le_trans V.e.n hn,fun x hx=>?_⟩⟩
 ·obtain⟨h1,h2,h3⟩:=V.dK x hx;exact F.g x (V.gK.lt x hx) h1 h2 h3
 ·obtain⟨h1,h2,h3,_⟩:=V.dP x hx;exact F.g x (V.gP.lt x hx) h1 h2 h3
 ·obtain⟨h1,h2,h3⟩:=V.dK x hx;exact⟨h1,nR x (V.gK.lt x hx) h2,nS x (V.gK.lt x hx) h3⟩
 ·obtain⟨h1,h2,h3,h4⟩:=V.dP x hx;exact⟨h1,nR x (V.gP.lt x hx) h2,nS x (V.gP.lt x hx) h3,h4⟩
 ·rcases hx with hx|hx|hx|hx
  ·exact V.lo x (.inl hx)
  ·rcases F.r with e|⟨y,e,hy⟩
   ·exact V.lo x (.inr (.inl (e ▸ hx)))
   ·rw[e]at hx;cases hx;omega
  ·rcases F.s with e|⟨y,e,hy⟩
   ·exact V.lo x (.inr (.inr (.inl (e ▸ hx))))
   ·rw[e]at hx;cases hx;omega
  ·exact V.lo x (.inr (.inr (.inr hx)))
 ·rw[F.g x (by omega) ?_ ?_ ?_]
  ·exact V.e.g x hx
  ·rintro rfl;have:=V.lo _ (.inl rfl);omega
  ·intro q;have:=V.lo x (.inr (.inl q));omega
  ·intro q;have:=V.lo x (.inr (.inr (.inl q)));omega
theorem XP.aKU(V:XP X Y i b h0 n0 z rs ss oR oS cK kept oK cP pl oP h nx)(g:Gr 3 cK' (ak sH anK) anK.length h' nx' oK')(F:CZ h nx oK h' nx' oK'):XP X Y i b h0 n0 z rs ss oR oS cK' anK oK' cP pl oP h' nx':=by
 have hn:=F.n;have ZX:=V.e.n;have kR:∀x,x=b∨oR=some x∨oS=some x→ag x h'=ag x h:=fun x hx=>F.g x (V.R.lt x hx) (fun q=>by
  obtain⟨h1,h2,h3⟩:=V.dK x q;rcases hx with e|e|e
  ·exact h1 e
  ·exact h2 e
  ·exact h3 e)
 refine⟨V.R.keep hn kR,g,V.gP.keep hn fun x hx=>F.g x (V.gP.lt x hx) (V.dP x hx).2.2.2,fun x hx=>?_,fun x hx=>?_,fun x hx=>?_,⟨Nat.le_trans V.e.n hn,fun x hx=>?_⟩⟩
 ·rcases F.o with e|⟨y,e,hy⟩
  ·exact V.dK x (e ▸ hx)
  ·rw[e]at hx;cases hx;refine⟨?_,?_,?_⟩
   ·rintro rfl;have:=V.R.bn;omega
   ·intro q;have:=V.R.gR.lt _ q;omega
   ·intro q;have:=V.R.gS.lt _ q;omega
 ·obtain⟨h1,h2,h3,h4⟩:=V.dP x hx;exact⟨h1,h2,h3,F.ne (V.gP.lt x hx) h4⟩
 ·rcases hx with hx|hx|hx|hx|hx
  ·exact V.lo x (.inl hx)
  ·exact V.lo x (.inr (.inl hx))
  ·exact V.lo x (.inr (.inr (.inl hx)))
  ·rcases F.o with e|⟨y,e,hy⟩
   ·exact V.lo x (.inr (.inr (.inr (.inl (e ▸ hx)))))
   ·rw[e]at hx;cases hx;omega
  ·exact V.lo x (.inr (.inr (.inr (.inr hx))))
 ·rw[F.g x (by omega) (fun q=>by have:=V.lo x (.inr (.inr (.inr (.inl q))));omega)];exact V.e.g x hx
theorem XP.aCA(V:XP X Y i b h0 n0 z rs ss oR oS cK kept oK cP pl oP h nx)(g:Gr 1 cP' (ak eI pl') pl'.length h' nx' oP')(F:CZ h nx oP h' nx' oP'):XP X Y i b h0 n0 z rs ss oR oS cK kept oK cP' pl' oP' h' nx':=by
 have hn:=F.n;have ZX:=V.e.n;have kR:∀x,x=b∨oR=some x∨oS=some x→ag x h'=ag x h:=fun x hx=>F.g x (V.R.lt x hx) (fun q=>by
  obtain⟨h1,h2,h3,_⟩:=V.dP x q;rcases hx with e|e|e
  ·exact h1 e
  ·exact h2 e
  ·exact h3 e)
 refine⟨V.R.keep hn kR,V.gK.keep hn fun x hx=>F.g x (V.gK.lt x hx) (fun q=>(V.dP x q).2.2.2 hx),g,V.dK,fun x hx=>?_,fun x hx=>?_,⟨Nat.le_trans V.e.n hn,fun x hx=>?_⟩⟩
 ·rcases F.o with e|⟨y,e,hy⟩
  ·exact V.dP x (e ▸ hx)
  ·rw[e]at hx;cases hx;refine⟨?_,?_,?_,?_⟩
   ·rintro rfl;have:=V.R.bn;omega
   ·intro q;have:=V.R.gR.lt _ q;omega
   ·intro q;have:=V.R.gS.lt _ q;omega
   ·intro q;have:=V.gK.lt _ q;omega
 ·rcases hx with hx|hx|hx|hx|hx
  ·exact V.lo x (.inl hx)
  ·exact V.lo x (.inr (.inl hx))
  ·exact V.lo x (.inr (.inr (.inl hx)))
  ·exact V.lo x (.inr (.inr (.inr (.inl hx))))
  ·rcases F.o with e|⟨y,e,hy⟩
   ·exact V.lo x (.inr (.inr (.inr (.inr (e ▸ hx)))))
   ·rw[e]at hx;cases hx;omega
 ·rw[F.g x (by omega) (fun q=>by have:=V.lo x (.inr (.inr (.inr (.inr q))));omega)];exact V.e.g x hx
end
end Ln
