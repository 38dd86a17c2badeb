/- A part of the proof. No condition. -/
import Derived.Test.YtecbfpngkfdkoaaGreatP1
import GoSem.Dispatch
import Derived.Laws.StructEq
import Derived.Lib.Strings
import Derived.ChangeKeysEq
set_option linter.unusedSimpArgs false
set_option linter.unusedVariables false
set_option linter.unusedSectionVars false
namespace Go.Sx
open Go.RowKit
section
variable{P:Program}{w:World}
theorem av{t:TypeId}{d:TypeDesc}(h:P.underlying t=some d):(underlying t).run P w=.ok d w:=by simp[underlying,h]
theorem lx{t:TypeId}{i:TypeInfo}(h:P.info? t=some i):(typeInfo t).run P w=.ok i w:=by simp[typeInfo,h]
theorem bC{t:TypeId}{i:TypeInfo}(h:P.info? t=some i):(sizeOf t).run P w=.ok i.size w:=by simp[sizeOf,lx h]
theorem qB{t:TypeId}{i:TypeInfo}{z:Value}(h:P.info? t=some i)(hz:i.zero=some z):(zeroValue t).run P w=.ok z w:=by simp[zeroValue,lx h,hz]
def U0:TypeDesc→Bool
 |.struct _=>true
 |.array _ _=>true
 |_=>false
theorem yj{t:TypeId}{d:TypeDesc}(h:P.underlying t=some d):(isAgg t).run P w=.ok (U0 d) w:=by simp only[isAgg,sN,av h,pY];cases d<;>rfl
end
theorem lf{P:Program}{t:TypeId}{ti:TI}(h:tyI P t=some ti) :
  ∃i d z,P.info? t=some i∧P.underlying t=some d∧i.zero=some z∧lU we z=some ti.zero∧ti.size=i.size∧ti.agg=U0 d:=by
 unfold tyI at h;split at h
 ·rename_i i d hi hd;split at h
  ·rename_i z hz;split at h
   ·rename_i a ha;simp only[dS]at h;subst h;exact⟨i,d,z,hi,hd,hz,ha,rfl,by cases d<;>rfl⟩
   ·simp at h
  ·simp at h
 ·simp at h
section
variable{P:Program}{ρ:Nat→Int}{w0:W0}{w:World}{μ:Mu}{G:Key→Option ai}{nx:Nat}
theorem BL{L:List AV}{base:Nat}{arr:Array Value}(hc:∀i a,L[i]?=some a→∃v,arr[base+i]?=some v∧aU ρ μ a v)
  (hs:base+L.length≤arr.size) {off n:Nat} (h:off+n≤L.length) :
  ax ρ μ ((L.drop off).take n) ((arr.toList.drop (base+off)).take n):=by
 refine ax.Rf ?_ ?_
 ·simp;omega
 ·intro i a ha;have hi:i<n:=by
   rcases HS i n with h'|h'
   ·exact h'
   ·rw[zqo (by simp;omega)]at ha;cases ha
  rw[List.getElem?_take_of_lt hi,List.getElem?_drop]at ha;obtain⟨v,hv,hr⟩:=hc (off+i) a ha;refine⟨v,?_,hr⟩;rw[List.getElem?_take_of_lt hi,List.getElem?_drop];simpa[Nat.add_assoc]using hv
theorem M7{off n:Nat}{L:List AV}{a:AV}(h:yl true off n L=some a):a=.agg ((L.drop off).take n)∧(off+n≤L.length∨(n=0∧L.length<off)):=by
 simp only[yl,cond_true,takeC_eq,dropL_eq]at h;split at h
 ·rename_i hn;simp only[dS]at h;refine⟨h.symm,?_⟩;simp at hn;omega
 ·cases h
theorem M8{off n:Nat}{L:List AV}{a:AV}(h:yl false off n L=some a):L[off]?=some a:=by simpa only[yl,cond_false,nth_eq]using h
theorem IW(hM:bB P ρ w0 μ G nx w){b:Key}{L:List AV}{k:CK}(hb:G b=some (.cells L k)){t:TypeId}{i:TypeInfo}{d:TypeDesc}
  (hi:P.info? t=some i) (hd:P.underlying t=some d) {off:Nat} {a:AV} (hp:yl (U0 d) off i.size L=some a) {l:Loc} (hl:μ b=some l) :
  ∃v,(loadVar t ⟨l.c,l.base+off,none⟩).run P w=.ok v w∧aU ρ μ a v:=by
 obtain⟨l',arr,elem,fz,h1,h2,hc,hs,hle,_⟩:=hM.cells hb;rw[hl]at h1;cases h1;simp only[loadVar,sN,yj hd,pY];cases Rg:U0 d with
 |true=>
  rw[Rg]at hp;obtain⟨rfl,hn⟩:=M7 hp;by_cases h0:i.size=0
  ·refine⟨.agg #[],?_,?_⟩
   ·simp[bC hi,h0,loadCells,loadCellsFrom]
   ·rw[h0];simp only[List.take_zero];exact .agg _ _ .nil
  ·have hn:off+i.size≤L.length:=by omega
   refine⟨.agg ((arr.toList.drop (l.base+off)).take i.size).toArray,?_,.agg _ _ ?_⟩
   ·simp only[if_true,sN,bC hi,pY,pF P w l.c (l.base+off) arr elem fz h2 i.size (by omega),wY]
   ·simpa using BL hc (by omega) hn
 |false=>rw[Rg]at hp;obtain⟨v,hv,hr⟩:=hc off a (M8 hp);refine⟨v,?_,hr⟩;simp only[WA,if_false,run_load,QG h2,hv]
theorem aaa(hM:bB P ρ w0 μ G nx w){c o:Nat}{vs:List Value}(hf:∀i v,vs[i]?=some v→μ.fz c (o+i)=some v)(cp:0<vs.length) :
  ∃arr elem f,w.heap[c]?=some (.cells arr elem f)∧∀i v,vs[i]?=some v→arr[o+i]?=some v:=by
 obtain⟨v,hv⟩:∃v,vs[0]?=some v:=⟨vs[0],by simp[cp]⟩;obtain⟨arr,elem,f,h1,_⟩:=hM.XM _ _ _ (hf 0 v hv);refine⟨arr,elem,f,h1,fun i u hu=>?_⟩;obtain⟨J2,WB,f',h2,h3⟩:=hM.XM _ _ _ (hf i u hu);rw[h1]at h2;cases h2;exact h3
theorem XN(hM:bB P ρ w0 μ G nx w){c o:Nat}{vs:List Value}(hf:∀i v,vs[i]?=some v→μ.fz c (o+i)=some v){n:Nat}(hn:n≤vs.length) :
  (loadCells ⟨c,o,none⟩ n).run P w=.ok (vs.take n).toArray w:=by
 by_cases h0:n=0
 ·subst h0;simp[loadCells,loadCellsFrom]
 ·obtain⟨arr,elem,f,h1,h2⟩:=aaa hM hf (by omega);have aBi:o+n≤arr.size:=by
   have h3:=h2 (n-1) vs[n-1] (by simp);rcases HS (o+(n-1)) arr.size with h'|h'
   ·omega
   ·rw[Z8 h']at h3;cases h3
  rw[pF P w c o arr elem f h1 n aBi];congr 1;congr 1;apply List.ext_getElem?;intro i;by_cases hi:i<n
  ·rw[List.getElem?_take_of_lt hi,List.getElem?_take_of_lt hi,List.getElem?_drop];have hv:vs[i]?=some (vs[i]'(by omega)):=by simp
   rw[hv];simpa using h2 i _ hv
  ·rw[zqo (by simp;omega),zqo (by simp;omega)]
theorem FH{c o:Nat}{vs:List Value}(hf:∀i v,vs[i]?=some v→μ.fz c (o+i)=some v)(off:Nat):∀i v,(vs.drop off)[i]?=some v→μ.fz c (o+off+i)=some v:=by intro i v h;rw[List.getElem?_drop]at h;rw[Nat.add_assoc];exact hf _ _ h
theorem XO{c o:Nat}{vs:List Value}(hf:∀i v,vs[i]?=some v→μ.fz c (o+i)=some v)(n:Nat):∀i v,(vs.take n)[i]?=some v→μ.fz c (o+i)=some v:=by
 intro i v h;by_cases hi:i<n
 ·rw[List.getElem?_take_of_lt hi]at h;exact hf _ _ h
 ·rw[zqo (by simp;omega)]at h;cases h
theorem adU(hM:bB P ρ w0 μ G nx w){l:List AV}{vs:List Value}(hr:ax ρ μ l vs){c o:Nat}(hf:∀i v,vs[i]?=some v→μ.fz c (o+i)=some v){t:TypeId}{i:TypeInfo}{d:TypeDesc}
  (hi:P.info? t=some i) (hd:P.underlying t=some d) {a:AV} (hp:yl (U0 d) 0 i.size l=some a) :
  ∃v,(loadVar t ⟨c,o,none⟩).run P w=.ok v w∧aU ρ μ a v:=by
 simp only[loadVar,sN,yj hd,pY];have hlen:=hr.length;cases Rg:U0 d with
 |true=>
  rw[Rg]at hp;obtain⟨rfl,hn⟩:=M7 hp;have hn:i.size≤vs.length:=by omega
  refine⟨.agg (vs.take i.size).toArray,?_,.agg _ _ ?_⟩
  ·simp only[if_true,sN,bC hi,pY,XN hM hf hn,wY]
  ·simpa using hr.take i.size
 |false=>
  rw[Rg]at hp;obtain⟨v,hv,hvr⟩:=hr.get 0 a (M8 hp);obtain⟨arr,elem,f,h1,h2⟩:=aaa hM hf (by
   rcases Nat.eq_zero_or_pos vs.length with h'|h'
   ·rw[zqr h']at hv;cases hv
   ·exact h')
  refine⟨v,?_,hvr⟩;have:=h2 0 v hv;simp only[WA,if_false,run_load,QG h1,Nat.add_zero]at this ⊢;simp only[this]
theorem Rh{t:TypeId}{i:TypeInfo}{d:TypeDesc}(hi:P.info? t=some i)(hd:P.underlying t=some d){off:Nat}{L:List AV}{vs:Array Value}(hL:ax ρ μ L vs.toList)
  {a:AV} (hp:yl (U0 d) off i.size L=some a):∃v,(part t vs off).run P w=.ok v w∧aU ρ μ a v:=by
 simp only[part,sN,yj hd,pY];cases Rg:U0 d with
 |true=>
  rw[Rg]at hp;obtain⟨rfl,hn⟩:=M7 hp;refine⟨.agg (vs.extract off (off+i.size)),?_,.agg _ _ ?_⟩
  ·simp[bC hi]
  ·have:(vs.extract off (off+i.size)).toList=(vs.toList.drop off).take i.size:=by simp[List.extract]
   rw[this];exact(hL.drop off).take i.size
 |false=>
  rw[Rg]at hp;obtain⟨v,hv,hr⟩:=hL.get off a (M8 hp);refine⟨v,?_,hr⟩;have:vs[off]?=some v:=by simpa using hv
  simp[this]
end
def fC(op:BinOp)(x y:Int):Option Bool:=
 match op with
 |.eql=>some (x==y)
 |.neq=>some (x != y)
 |.lss=>some (decide (x<y))
 |.leq=>some (decide (x≤y))
 |.gtr=>some (decide (x>y))
 |.geq=>some (decide (x≥y))
 |_=>none
def fA(ρ:Nat→Int)(orc:jK):Prop:=∀op a b r,orc.ask op a b=some r→fC op (a.den ρ) (b.den ρ)=some r
theorem fA.nil(ρ:Nat→Int):fA ρ []:=by intro op a b r h;cases h
theorem fA.cons{ρ:Nat→Int}{orc:jK}{o:BinOp}{x y:SI}{r:Bool}(h:fC o (x.den ρ) (y.den ρ)=some r)(h':fA ρ orc):fA ρ ((o,x,y,r) ::orc):=by
 intro op a b r' e;simp only[jK.ask]at e;cases hc:Nh o op&&SI.beq x a&&SI.beq y b with
 |false=>rw[hc]at e;exact h' op a b r' e
 |true=>rw[hc]at e;simp only[cond_true,dS]at e;simp only[kW]at hc;rw[←Xu hc.1.1,←SI.eq_of_beq hc.1.2,←SI.eq_of_beq hc.2,←e];exact h
theorem y0{ρ:Nat→Int}{orc:jK}(ho:fA ρ orc){op:BinOp}{a b:SI}{r:Bool}(h:Is orc op a b=some r):fC op (a.den ρ) (b.den ρ)=some r:=by
 unfold Is at h;split at h
 ·rename_i x y;simp only[SI.den];cases op<;>simp only[eqI_eq,KA,dS]at h<;>first|(cases h;done)|skip
  all_goals simp only[fC,dS]
  all_goals subst h
  all_goals first|rfl|skip
  ·simp[←decide_not,Int.not_lt]
  ·simp[←decide_not,Int.not_lt]
 ·cases hb:SI.beq a b with
  |false=>rw[hb]at h;exact ho op a b r h
  |true=>
   rw[hb]at h;rw[SI.eq_of_beq hb];simp only[cond_true]at h;cases op<;>simp only[dS]at h<;>first|(cases h;done)|skip
   all_goals subst h
   all_goals simp[fC]
theorem agH{P:Program}{w:World}{op:BinOp}{x y:Int}{r:Bool}(h:fC op x y=some r):(Op.intCmp op x y).run P w=.ok (.bool r) w:=by cases op<;>simp only[fC,dS]at h<;>first|(cases h;done)|(subst h;rfl)
theorem wrap_u64(x:Nat):IntKind.wrap .u64 ((x%2^64:Nat):Int)=Int.emod (.ofNat x) 18446744073709551616:=by simp only[IntKind.wrap,IntKind.signed,IntKind.bits,Bool.false_and,WA,if_false];show((x%2^64:Nat):Int)%2^64=(x:Int)%18446744073709551616;omega
theorem aEc(m n:Nat):IntKind.wrap .u64 ((BitVec.ofInt 64 (Int.ofNat m) &&& BitVec.ofInt 64 (Int.ofNat n)).toNat:Int)=Int.emod (.ofNat (Nat.land m n)) 18446744073709551616:=by rw[←wrap_u64];show IntKind.wrap .u64 ((BitVec.ofInt 64 (m:Int) &&& BitVec.ofInt 64 (n:Int)).toNat:Int)=IntKind.wrap .u64 (((m &&& n)%2^64:Nat):Int);rw[BitVec.ofInt_natCast,BitVec.ofInt_natCast,BitVec.toNat_and,BitVec.toNat_ofNat,BitVec.toNat_ofNat,Nat.and_mod_two_pow]
theorem aMX(m n:Nat):IntKind.wrap .u64 ((BitVec.ofInt 64 (Int.ofNat m) ||| BitVec.ofInt 64 (Int.ofNat n)).toNat:Int)=Int.emod (.ofNat (Nat.lor m n)) 18446744073709551616:=by rw[←wrap_u64];show IntKind.wrap .u64 ((BitVec.ofInt 64 (m:Int) ||| BitVec.ofInt 64 (n:Int)).toNat:Int)=IntKind.wrap .u64 (((m ||| n)%2^64:Nat):Int);rw[BitVec.ofInt_natCast,BitVec.ofInt_natCast,BitVec.toNat_or,BitVec.toNat_ofNat,BitVec.toNat_ofNat,Nat.or_mod_two_pow]
theorem aEd(m n:Nat):IntKind.wrap .u64 ((BitVec.ofInt 64 (Int.ofNat m) ^^^ BitVec.ofInt 64 (Int.ofNat n)).toNat:Int)=Int.emod (.ofNat (Nat.xor m n)) 18446744073709551616:=by rw[←wrap_u64];show IntKind.wrap .u64 ((BitVec.ofInt 64 (m:Int) ^^^ BitVec.ofInt 64 (n:Int)).toNat:Int)=IntKind.wrap .u64 (((m ^^^ n)%2^64:Nat):Int);rw[BitVec.ofInt_natCast,BitVec.ofInt_natCast,BitVec.toNat_xor,BitVec.toNat_ofNat,BitVec.toNat_ofNat,Nat.xor_mod_two_pow]
theorem agM(k:IntKind)(x:Int):(BitVec.ofInt k.bits x).toNat=QM k x:=by rw[BitVec.toNat_ofInt];unfold QM;cases k<;>rfl
theorem O3{ρ:Nat→Int}{P:Program}{w:World}{op:BinOp}{k:IntKind}{a b s:SI}(t:TypeId)(h:arith op k a b=some s) :
  (binOp op t (.int k (a.den ρ)) (.int k (b.den ρ))).run P w=.ok (.int k (s.den ρ)) w:=by
 unfold arith at h;split at h
 ·rename_i x y;simp only[SI.den];cases op<;>simp only[dS]at h<;>first|(cases h;done)|skip
  ·subst h;simp only[SI.den,dx];simp[binOp,Op.intArith]
  ·subst h;simp only[SI.den,dx];simp[binOp,Op.intArith];rfl
  ·subst h;simp only[SI.den,dx];simp[binOp,Op.intArith]
  ·rw[eqI_eq]at h;cases hy:(y==0)with
   |true=>rw[hy]at h;cases h
   |false=>
    rw[hy]at h;simp only[cond_false,dS]at h;subst h;have:y≠0:=by simpa using hy
    simp[SI.den,dx,binOp,Op.intDiv,this]
  ·rw[eqI_eq]at h;cases hy:(y==0)with
   |true=>rw[hy]at h;cases h
   |false=>
    rw[hy]at h;simp only[cond_false,dS]at h;subst h;have:y≠0:=by simpa using hy
    simp[SI.den,binOp,Op.intDiv,this]
  ·split at h
   ·rename_i m n;simp only[dS]at h;subst h;simp only[SI.den,binOp,ne_eq,not_true_eq_false,if_false,Op.intBits,wY,Result.ok.injEq,Value.int.injEq,true_and,and_true];exact aEc m n
   ·simp only[dS]at h;subst h;simp only[SI.den,binOp,ne_eq,not_true_eq_false,if_false,Op.intBits,wY,Result.ok.injEq,Value.int.injEq,true_and,and_true,BitVec.toNat_and,agM,dx];rfl
  ·split at h
   ·rename_i m n;simp only[dS]at h;subst h;simp only[SI.den,binOp,ne_eq,not_true_eq_false,if_false,Op.intBits,wY,Result.ok.injEq,Value.int.injEq,true_and,and_true];exact aMX m n
   ·simp only[dS]at h;subst h;simp only[SI.den,binOp,ne_eq,not_true_eq_false,if_false,Op.intBits,wY,Result.ok.injEq,Value.int.injEq,true_and,and_true,BitVec.toNat_or,agM,dx];rfl
  ·split at h
   ·rename_i m n;simp only[dS]at h;subst h;simp only[SI.den,binOp,ne_eq,not_true_eq_false,if_false,Op.intBits,wY,Result.ok.injEq,Value.int.injEq,true_and,and_true];exact aEd m n
   ·simp only[dS]at h;subst h;simp only[SI.den,binOp,ne_eq,not_true_eq_false,if_false,Op.intBits,wY,Result.ok.injEq,Value.int.injEq,true_and,and_true,BitVec.toNat_xor,agM,dx];rfl
 ·split at h
  ·cases h;simp[SI.den,binOp,Op.intArith]
  ·cases h;simp[SI.den,binOp,Op.intArith]
  ·cases h;simp[SI.den,binOp,Op.intArith]
  ·cases h
theorem Zr{k:IntKind}{n:Nat}(h:Ni k n=true):n≤k.bits:=by cases k<;>simpa[Ni,IntKind.bits,Nat.ble_eq]using h
theorem agN(a b:List UInt8):enc (a++b)=enc a+256^a.length*enc b:=by
 induction a with
 |nil=>simp[enc]
 |cons x a ih=>simp only[List.cons_append,enc,ih,HW,Nat.pow_succ];rw[Nat.mul_add,←Nat.mul_assoc,Nat.mul_comm 256 (256^a.length)];omega
theorem abG(l:List UInt8)(i:Nat):enc (l.drop i)=enc l / 256^i:=by
 induction i generalizing l with
 |zero=>simp
 |succ i ih=>
  cases l with
  |nil=>simp[enc]
  |cons x l=>have hx:x.toNat<256:=x.toNat_lt;simp only[List.drop_succ_cons,ih l,enc,Nat.pow_succ];rw[Nat.mul_comm (256^i) 256,←Nat.div_div_eq_div_mul];congr 1;omega
theorem aog(l:List UInt8)(n:Nat):enc (l.take n)=enc l%256^n:=by
 induction n generalizing l with
 |zero=>simp[enc,Nat.mod_one]
 |succ n ih=>
  cases l with
  |nil=>simp[enc]
  |cons x l=>
   have hx:x.toNat<256:=x.toNat_lt;simp only[List.take_succ_cons,enc,ih l,Nat.pow_succ];rw[Nat.mul_comm (256^n) 256];have hp:0<256^n:=Nat.pow_pos (by omega);have:=Nat.mod_mul (x:=x.toNat+256*enc l) (a:=256) (b:=256^n);rw[this];have h1:(x.toNat+256*enc l)%256=x.toNat:=by omega
   have h2:(x.toNat+256*enc l) / 256=enc l:=by omega
   rw[h1,h2]
theorem asx(l:List UInt8)(i:Nat)(h:i<l.length):enc l / 256^i%256=(l[i]).toNat:=by rw[←abG,zqt h];have hx:(l[i]).toNat<256:=(l[i]).toNat_lt;simp only[enc];omega
theorem aiH:∀{a b:List UInt8},a.length=b.length→enc a=enc b→a=b
 | [],[],_,_=>rfl
 | [],_ ::_,h,_=>by simp at h
 |_ ::_,[],h,_=>by simp at h
 |x ::a,y ::b,h,he=>by
  have hx:x.toNat<256:=x.toNat_lt;have hy:y.toNat<256:=y.toNat_lt;simp only[enc]at he;have h1:x.toNat=y.toNat:=by omega
  have h2:enc a=enc b:=by omega
  rw[UInt8.toNat_inj.1 h1,aiH (by simpa using h) h2]
theorem YU(n:Nat):2^(8*n)=256^n:=by rw[Nat.pow_mul]
theorem Zq(a b:List UInt8):(Nat.beq a.length b.length&&Nat.beq (enc a) (enc b))=(a==b):=by rw[beqN_eq,beqN_eq,Bool.eq_iff_iff];simp only[kW,decide_eq_true_eq,beq_iff_eq];exact⟨fun h=>aiH h.1 h.2,fun h=>by subst h;exact⟨rfl,rfl⟩⟩
theorem apL:∀(a b:List UInt8),ltS a.length (enc a) b.length (enc b)=Op.bytesLess a b
 | [],[]=>rfl
 | [],y ::b=>by simp[ltS,Op.bytesLess,beqN_eq]
 |x ::a,[]=>by simp[ltS,Op.bytesLess,beqN_eq]
 |x ::a,y ::b=>by
  have hx:x.toNat<256:=x.toNat_lt;have hy:y.toNat<256:=y.toNat_lt;have h1:(x.toNat+256*enc a)%256=x.toNat:=by omega
  have h2:(x.toNat+256*enc a) / 256=enc a:=by omega
  have h3:(y.toNat+256*enc b)%256=y.toNat:=by omega
  have h4:(y.toNat+256*enc b) / 256=enc b:=by omega
  simp only[HW,ltS,enc,h1,h2,h3,h4,Nat.add_sub_cancel,apL a b,Op.bytesLess,beqN_eq,bltN_eq];by_cases c1:x.toNat<y.toNat
  ·have:x<y:=UInt8.lt_iff_toNat_lt.2 c1;simp[c1,this]
  ·have n1:¬x<y:=fun h=>c1 (UInt8.lt_iff_toNat_lt.1 h);by_cases c2:x.toNat=y.toNat
   ·have:x=y:=UInt8.toNat_inj.1 c2;subst this;simp
   ·have:x≠y:=fun h=>c2 (by rw[h]);simp[c1,c2,n1,this]
theorem wU:∀(a b:List UInt8),Op.bytesLess b a=!(Op.bytesLess a b||a==b)
 | [],[]=>rfl
 | [],y ::b=>by simp[Op.bytesLess]
 |x ::a,[]=>by simp[Op.bytesLess]
 |x ::a,y ::b=>by
  simp only[Op.bytesLess,wU a b];by_cases c1:x<y
  ·have c2:¬y<x:=fun h=>by have:=UInt8.lt_iff_toNat_lt.1 c1;have:=UInt8.lt_iff_toNat_lt.1 h;omega
   have c3:y≠x:=fun h=>by subst h;exact c2 c1
   simp[c1,c2,c3]
  ·by_cases c3:x=y
   ·subst c3;simp
   ·have c2:y<x:=by rw[UInt8.lt_iff_toNat_lt]at c1 ⊢;have:x.toNat≠y.toNat:=fun h=>c3 (UInt8.toNat_inj.1 h);omega
    simp[c1,c2,c3]
theorem akt{ρ:Nat→Int}{μ:Mu}{P:Program}{w:World}{op:BinOp}{x y:ByteArray}{a:AV}
  (h:opS op x.data.toList.length (enc x.data.toList) y.data.toList.length (enc y.data.toList)=some a) :
  ∃v,(Op.stringOp op x y).run P w=.ok v w∧aU ρ μ a v:=by
 unfold opS at h;cases op<;>simp only[dS]at h<;>first|(cases h;done)|skip
 ·cases hb:Nat.ble (x.data.toList.length+y.data.toList.length) 4611686018427387904 with
  |false=>rw[hb]at h;cases h
  |true=>
  rw[hb]at h;simp only[cond_true,dS]at h;subst h;have xL:x.size+y.size≤4611686018427387904:=by rw[Nat.ble_eq]at hb;rw[Lib.size_eq,Lib.size_eq];exact hb
  refine⟨.string (x++y),?_,.str _ _ _ ?_ ?_⟩
  ·have hle:¬(((x.size+y.size:Nat):Int)>IntKind.i64.max):=by
    have:IntKind.i64.max=9223372036854775807:=by decide
    rw[this];omega
   simp only[Op.stringOp,if_neg hle,wY]
  ·rw[ByteArray.data_append];simp
  ·rw[ByteArray.data_append,Array.toList_append,agN];show _=_+Nat.shiftLeft _ _;have:Nat.shiftLeft (enc y.data.toList) (8*x.data.toList.length)=enc y.data.toList*2^(8*x.data.toList.length):=Nat.shiftLeft_eq _ _;rw[this,YU,Nat.mul_comm]
 all_goals subst h
 all_goals refine⟨_,?_,.bool _⟩
 all_goals simp only[Op.stringOp,ByteArray.toList_eq,wY,Result.ok.injEq,Value.bool.injEq,and_true,Zq,apL]
 ·rw[wU x.data.toList y.data.toList,Bool.not_not]
 ·rw[wU x.data.toList y.data.toList]
def BH(P:Program)(ρ:Nat→Int)(μ:Mu)(nt:Nat)(xs:List Operand)(tm:T AV)(ev:Operand→Value):Prop:=
 ∀x∈xs,∀px a,pX P nt x=some px→px.at tm=some a→aU ρ μ a (ev x)
theorem BH.sub{P:Program}{ρ:Nat→Int}{μ:Mu}{nt:Nat}{xs ys:List Operand}{tm:T AV}{ev:Operand→Value}(h:BH P ρ μ nt xs tm ev)(hs:∀y∈ys,y∈xs):BH P ρ μ nt ys tm ev:=
 fun x hx=>h x (hs x hx)
theorem map_some{α β:Type}{f:α→β}{x:Option α}{y:β}(h:x.map f=some y):∃a,x=some a∧f a=y:=by
 cases x with
 |none=>cases h
 |some a=>exact⟨a,rfl,by simpa using h⟩
theorem Qi(vs:List Value)(arr:Array Value)(o:Nat)(h:o+vs.length≤arr.size) :
  (mW arr o vs).toList=arr.toList.take o++vs++arr.toList.drop (o+vs.length):=by
 apply List.ext_getElem?;intro j;rw[Array.getElem?_toList,kA vs arr o j h];by_cases h1:j<o
 ·rw[if_neg (by omega),List.append_assoc,List.getElem?_append_left (by simp;omega),List.getElem?_take_of_lt h1];simp
 ·by_cases h2:j<o+vs.length
  ·rw[if_pos (by omega),List.append_assoc,List.getElem?_append_right (by simp;omega),List.getElem?_append_left (by simp;omega)];congr 1;simp;omega
  ·rw[if_neg (by omega),List.getElem?_append_right (by simp;omega),List.getElem?_drop];have:o+vs.length+(j-(arr.toList.take o++vs).length)=j:=by simp;omega
   rw[this];simp
theorem Ht(off:Nat):∀(l:List Value) (k:Nat) (vs:Array Value),
  (l.zipIdx k).foldl (fun(cs:Array Value) (p:Value×Nat)=>cs.setIfInBounds (off+p.2) p.1) vs=mW vs (off+k) l
 | [],_,_=>rfl
 |v ::l,k,vs=>by simp only[List.zipIdx_cons,List.foldl_cons,mW];rw[Ht off l (k+1)];rfl
section
variable{P:Program}{ρ:Nat→Int}{w0:W0}{w:World}{μ:Mu}{G:Key→Option ai}{nx:Nat}{nt:Nat}{tm:T AV}{ev:Operand→Value}
theorem mY:∀{xs:List Operand} {ps:List PX} {l:List AV},Q1 P nt xs=some ps→atAll tm ps=some l→BH P ρ μ nt xs tm ev→ax ρ μ l (xs.map ev)
 | [],ps,l,hp,ha,hE=>by simp only[Q1,dS]at hp;subst hp;simp only[atAll,dS]at ha;subst ha;exact .nil
 |x ::xs,ps,l,hp,ha,hE=>by
  simp only[Q1]at hp;split at hp
  ·rename_i a r h1 h2;cases hp;simp only[atAll]at ha;split at ha
   ·cases ha
   ·rename_i v hv;split at ha
    ·cases ha
    ·rename_i m hm;cases ha;exact .cons _ _ _ _ (hE x (by simp) a v h1 hv) (mY h2 hm (hE.sub fun y hy=>by simp[hy]))
  ·cases hp
theorem AG{place:Nat→Option (Nat×Nat)}:∀{parts:List (Nat×Operand)} {ps:List (Nat×Nat×PX)} {cs xJ:List AV} {vs:Array Value},
  JT P nt place parts=some ps→Lj tm ps cs=some xJ→BH P ρ μ nt (parts.map (·.2)) tm ev→ax ρ μ cs vs.toList→
  ∃vs',Instr.fill place vs (parts.map fun(i,x)=>(i,ev x))=some vs'∧ax ρ μ xJ vs'.toList
 | [],ps,cs,xJ,vs,hp,hf,hE,hv=>by simp only[JT,dS]at hp;subst hp;simp only[Lj,dS]at hf;subst hf;exact⟨vs,rfl,hv⟩
 |(i,x) ::parts,ps,cs,xJ,vs,hp,hf,hE,hv=>by
  simp only[JT]at hp;split at hp
  ·rename_i off size a r h1 h2 h3;cases hp;simp only[Lj]at hf;split at hf
   ·cases hf
   ·rename_i u hu;cases hb:Nat.beq (lenL u.cells) size with
    |false=>rw[hb]at hf;cases hf
    |true=>
     rw[hb]at hf;simp only[cond_true,putC_eq]at hf;split at hf
     ·rename_i hle;have hs:u.cells.length=size:=by rw[lenL_eq]at hb;exact pZ hb
      have hr:aU ρ μ u (ev x):=hE x (by simp) a u h2 hu;have hrc:=hr.cells;have hlen:(ev x).cells.size=size:=by rw[←hs,hrc.length];simp
      have UL:cs.length=vs.size:=by rw[hv.length];simp
      have amJ:((ev x).cells.zipIdx.foldl (fun cs (c,j)=>cs.setIfInBounds (off+j) c) vs).toList=vs.toList.take off++(ev x).cells.toList++vs.toList.drop (off+(ev x).cells.toList.length):=by rw[←Qi _ _ _ (by simp;omega),←Nat.add_zero off,←Ht];rw[←Array.foldl_toList];simp
      obtain⟨vs',aLM,tU⟩:=AG (vs:=(ev x).cells.zipIdx.foldl (fun cs (c,j)=>cs.setIfInBounds (off+j) c) vs) h3 hf (hE.sub fun y hy=>by simp at hy ⊢;exact .inr hy) (by rw[amJ];refine((hv.take off).append hrc).append ?_;rw[←hrc.length];exact hv.drop _)
      refine⟨vs',?_,tU⟩;simp only[zqx,Instr.fill,h1];rw[if_neg (by simp[hlen];omega)];exact aLM
     ·cases hf
  ·cases hp
end
section
variable{P:Program}{ρ:Nat→Int}{w0:W0}{w:World}{μ:Mu}{G:Key→Option ai}{nx:Nat}{orc:jK}
theorem jn{a:AV}{v:Value}{j:Nat}(h:rj a=some j)(hr:aU ρ μ a v):∃k,v=.int k (j:Int):=by
 unfold rj at h;split at h
 ·simp only[dS]at h;subst h;cases hr with
  |int k s n hn=>exact⟨_,by rw[←hn];rfl⟩
 ·cases h
theorem aaR{a b:AV}{r:Bool}(h:kq orc .bool a b=some r):∃x y,a=.bool x∧b=.bool y∧(x==y)=r:=by
 cases a<;>first|(simp[kq]at h;done)|skip
 cases b<;>first|(simp[kq]at h;done)|skip
 exact⟨_,_,rfl,rfl,by simpa[kq]using h⟩
theorem ato{a b:AV}{r:Bool}(h:kq orc .int a b=some r):∃k x y,a=.int k x∧b=.int k y∧Is orc .eql x y=some r:=by
 cases a<;>first|(simp[kq]at h;done)|skip
 cases b<;>first|(simp[kq]at h;done)|skip
 rename_i k1 s1 k2 s2;simp only[kq]at h;cases hk:beqKind k1 k2 with
 |false=>rw[hk]at h;cases h
 |true=>rw[hk]at h;have:=uk hk;subst this;exact⟨_,_,_,rfl,rfl,h⟩
theorem atp{a b:AV}{r:Bool}(h:kq orc .str a b=some r):∃n c m d,a=.str n c∧b=.str m d∧(Nat.beq n m&&Nat.beq c d)=r:=by
 cases a<;>first|(simp[kq]at h;done)|skip
 cases b<;>first|(simp[kq]at h;done)|skip
 simp only[kq,dS]at h;exact⟨_,_,_,_,rfl,rfl,h⟩
theorem ahH{a b:AV}{r:Bool}(h:kq orc .ptr a b=some r) :
  (a=.nilp∧b=.nilp∧r=true)∨(a=.nilp∧((∃k o,b=.ptr k o)∨∃l,b=.cref l)∧r=false)∨(((∃k o,a=.ptr k o)∨∃l,a=.cref l)∧b=.nilp∧r=false)∨
   (∃k o o',a=.ptr k o∧b=.ptr k o'∧decide (o=o')=r):=by
 cases a<;>first|(simp[kq]at h;done)|skip
 ·cases b<;>first|(simp[kq]at h;done)|skip
  ·rename_i b1 o1 b2 o2;simp only[kq]at h;cases hb:Key.beq b1 b2 with
   |false=>rw[hb]at h;cases h
   |true=>rw[hb]at h;have:=Key.eq_of_beq hb;subst this;simp only[cond_true,dS,beqN_eq]at h;exact .inr (.inr (.inr ⟨_,_,_,rfl,rfl,h⟩))
  ·simp only[kq,dS]at h;exact .inr (.inr (.inl ⟨.inl ⟨_,_,rfl⟩,rfl,h.symm⟩))
 ·cases b<;>first|(simp[kq]at h;done)|skip
  ·simp only[kq,dS]at h;exact .inr (.inl ⟨rfl,.inl ⟨_,_,rfl⟩,h.symm⟩)
  ·simp only[kq,dS]at h;exact .inl ⟨rfl,rfl,h.symm⟩
  ·simp only[kq,dS]at h;exact .inr (.inl ⟨rfl,.inr ⟨_,rfl⟩,h.symm⟩)
 ·cases b<;>first|(simp[kq]at h;done)|skip
  simp only[kq,dS]at h;exact .inr (.inr (.inl ⟨.inr ⟨_,rfl⟩,rfl,h.symm⟩))
theorem W9{a b:AV}{r:Bool}(h:kq orc .iface a b=some r) :
  (a=.nili∧b=.nili∧r=true)∨(a=.nili∧(∃t v,b=.iface t v)∧r=false)∨((∃t v,a=.iface t v)∧b=.nili∧r=false):=by
 cases a<;>first|(simp[kq]at h;done)|skip
 ·cases b<;>first|(simp[kq]at h;done)|skip
  simp only[kq,dS]at h;exact .inr (.inr ⟨⟨_,_,rfl⟩,rfl,h.symm⟩)
 ·cases b<;>first|(simp[kq]at h;done)|skip
  ·simp only[kq,dS]at h;exact .inr (.inl ⟨rfl,⟨_,_,rfl⟩,h.symm⟩)
  ·simp only[kq,dS]at h;exact .inl ⟨rfl,rfl,h.symm⟩
theorem Xa{a b:AV}{r:Bool}(h:kq orc .slice a b=some r) :
  (a=.nils∧b=.nils∧r=true)∨(a=.nils∧((∃k o l s,b=.slice k o l s)∨∃k o l s,b=.sl k o l s)∧r=false)∨(((∃k o l s,a=.slice k o l s)∨∃k o l s,a=.sl k o l s)∧b=.nils∧r=false):=by
 cases a<;>first|(simp[kq]at h;done)|skip
 ·cases b<;>first|(simp[kq]at h;done)|skip
  simp only[kq,dS]at h;exact .inr (.inr ⟨.inl ⟨_,_,_,_,rfl⟩,rfl,h.symm⟩)
 ·cases b<;>first|(simp[kq]at h;done)|skip
  ·simp only[kq,dS]at h;exact .inr (.inl ⟨rfl,.inl ⟨_,_,_,_,rfl⟩,h.symm⟩)
  ·simp only[kq,dS]at h;exact .inl ⟨rfl,rfl,h.symm⟩
  ·simp only[kq,dS]at h;exact .inr (.inl ⟨rfl,.inr ⟨_,_,_,_,rfl⟩,h.symm⟩)
 ·cases b<;>first|(simp[kq]at h;done)|skip
  simp only[kq,dS]at h;exact .inr (.inr ⟨.inr ⟨_,_,_,_,rfl⟩,rfl,h.symm⟩)
theorem aaS{a b:AV}{r:Bool}(h:kq orc .func a b=some r) :
  (a=.nilf∧b=.nilf∧r=true)∨(a=.nilf∧(∃f x y,b=.fn f x y)∧r=false)∨((∃f x y,a=.fn f x y)∧b=.nilf∧r=false):=by
 cases a<;>first|(simp[kq]at h;done)|skip
 ·cases b<;>first|(simp[kq]at h;done)|skip
  simp only[kq,dS]at h;exact .inr (.inr ⟨⟨_,_,_,rfl⟩,rfl,h.symm⟩)
 ·cases b<;>first|(simp[kq]at h;done)|skip
  ·simp only[kq,dS]at h;exact .inr (.inl ⟨rfl,⟨_,_,_,rfl⟩,h.symm⟩)
  ·simp only[kq,dS]at h;exact .inl ⟨rfl,rfl,h.symm⟩
theorem ahI{a b:AV}{r:Bool}(h:kq orc .map a b=some r) :
  (a=.nilm∧b=.nilm∧r=true)∨(a=.nilm∧(∃k,b=.map k)∧r=false)∨((∃k,a=.map k)∧b=.nilm∧r=false):=by
 cases a<;>first|(simp[kq]at h;done)|skip
 ·cases b<;>first|(simp[kq]at h;done)|skip
  simp only[kq,dS]at h;exact .inr (.inr ⟨⟨_,rfl⟩,rfl,h.symm⟩)
 ·cases b<;>first|(simp[kq]at h;done)|skip
  ·simp only[kq,dS]at h;exact .inr (.inl ⟨rfl,⟨_,rfl⟩,h.symm⟩)
  ·simp only[kq,dS]at h;exact .inl ⟨rfl,rfl,h.symm⟩
def SU(P:Program)(t:TypeId):MV→Prop
 |.bool=>P.underlying t=some .bool
 |.int=>∃k,P.underlying t=some (.int k)
 |.str=>P.underlying t=some .string
 |.ptr=>∃e i,P.underlying t=some (.pointer e)∧P.info? e=some i∧i.size≠0
 |.iface=>∃ms,P.underlying t=some (.interface ms)
 |.slice=>∃e,P.underlying t=some (.slice e)
 |.func=>∃a b c,P.underlying t=some (.func a b c)
 |.map=>∃a b,P.underlying t=some (.map a b)
 |.parts l=>(∃fs n,P.underlying t=some (.struct fs)∧P.stoodInHeld t=false∧eqFields P n fs.toList=some l)∨
   ∃len e i fs n l',P.underlying t=some (.array len e)∧P.info? e=some i∧P.underlying e=some (.struct fs)∧P.stoodInHeld e=false∧eqFields P n fs.toList=some l'∧(∀x∈l',x.1<i.size)∧l=MU l' i.size len 0
theorem Br{n:Nat}{t:TypeId}{p:MV}(hp:eqP P n t=some p):SU P t p:=by
 cases n with
 |zero=>simp[eqP]at hp
 |succ n=>
 unfold eqP at hp;split at hp
 ·cases hp;assumption
 ·cases hp;exact⟨_,‹_›⟩
 ·cases hp;assumption
 ·rename_i e hu;split at hp
  ·rename_i i hi;cases hz:Nat.beq i.size 0 with
   |true=>rw[hz]at hp;cases hp
   |false=>rw[hz]at hp;simp only[cond_false,dS]at hp;subst hp;exact⟨e,i,hu,hi,by intro e;rw[e]at hz;cases hz⟩
  ·cases hp
 ·cases hp;exact⟨_,‹_›⟩
 ·cases hp;exact⟨_,‹_›⟩
 ·cases hp;exact⟨_,_,_,‹_›⟩
 ·cases hp;exact⟨_,_,‹_›⟩
 ·cases hs:P.stoodInHeld t with
  |true=>rw[hs]at hp;cases hp
  |false=>
   rw[hs]at hp;simp only[cond_false]at hp;split at hp
   ·cases hp;exact .inl ⟨_,n,‹_›,hs,‹_›⟩
   ·cases hp
 ·rename_i len e hu;split at hp
  ·rename_i fs l i hue Z0 hi;cases hb:l.all (fun x=>Nat.blt x.1 i.size)with
   |false=>rw[hb]at hp;cases hp
   |true=>
    rw[hb]at hp;simp only[cond_true,dS]at hp;subst hp;have dn:∀x∈l,x.1<i.size:=by
     intro x hx;have:=xM.1 hb x hx
     rwa [bltN_eq,decide_eq_true_eq]at this
    cases n with
    |zero=>simp[eqP]at Z0
    |succ n=>
    unfold eqP at Z0;rw[hue]at Z0;simp only at Z0;cases hs:P.stoodInHeld e with
    |true=>rw[hs]at Z0;cases Z0
    |false=>
     rw[hs]at Z0;simp only[cond_false]at Z0;split at Z0
     ·simp only[dS,MV.parts.injEq]at Z0;subst Z0;exact .inr ⟨len,e,i,fs,n,_,hu,hi,hue,hs,‹_›,dn,rfl⟩
     ·cases Z0
  ·cases hp
 ·cases hp
set_option maxHeartbeats 1000000 in
theorem qF(ho:fA ρ orc){p:MV}{t:TypeId}(hp:SU P t p)(cp:∀l,p≠.parts l){a b:AV}{r:Bool}(h:kq orc p a b=some r)
  {x y:Value} (hx:aU ρ μ a x) (hy:aU ρ μ b y) (d:Nat):(Op.equalIn (d+1) t x y).run P w=.ok r w:=by
 cases p with
 |bool=>obtain⟨x',y',rfl,rfl,hr⟩:=aaR h;cases hx;cases hy;have hu:P.underlying t=some .bool:=hp;simp only[Op.equalIn,sN,av hu,pY,wY,hr]
 |int=>
  obtain⟨k,x',y',rfl,rfl,hr⟩:=ato h;obtain⟨k',hu⟩:=hp;have hc:=y0 ho hr;cases hx with|int _ _ n1 h1=>cases hy with|int _ _ n2 h2=>
  rw[h1,h2]at hc;simp only[fC,dS]at hc;simp only[Op.equalIn,sN,av hu,pY,if_true,wY,hc]
 |str=>
  obtain⟨n1,c1,n2,c2,rfl,rfl,hr⟩:=atp h;have hu:P.underlying t=some .string:=hp;cases hx with|str _ _ s1 h1 qR=>cases hy with|str _ _ s2 h2 DF=>
  subst h1 qR h2 DF;rw[Zq]at hr;simp only[Op.equalIn,sN,av hu,pY,wY,Result.ok.injEq,and_true];rw[beq_toListBytes,ByteArray.toList_eq,ByteArray.toList_eq];exact hr
 |ptr=>
  obtain⟨e,i,hu,hi,xL⟩:=hp;rcases ahH h with⟨rfl,rfl,rfl⟩|⟨rfl,⟨_,_,rfl⟩|⟨_,rfl⟩,rfl⟩|⟨⟨_,_,rfl⟩|⟨_,rfl⟩,rfl,rfl⟩|⟨k,o1,o2,rfl,rfl,hr⟩
  ·cases hx;cases hy;simp[Op.equalIn,av hu]
  ·cases hx;cases hy;simp[Op.equalIn,av hu]
  ·cases hx;cases hy;simp[Op.equalIn,av hu]
  ·cases hx;cases hy;simp[Op.equalIn,av hu]
  ·cases hx;cases hy;simp[Op.equalIn,av hu]
  ·cases hx with|ptr _ _ l1 a1 m1 e1=>cases hy with|ptr _ _ l2 a2 m2 e2=>
   rw[m1]at m2;cases m2;subst e1 e2;simp only[Op.equalIn,sN,av hu,pY,bC hi,Sem.run_ite,ne_eq,xL,not_false_eq_true,if_true,sameAddr,beq_self_eq_true,wY];simp only[Result.ok.injEq,and_true];rw[←hr,Bool.eq_iff_iff];simp
 |iface=>obtain⟨ms,hu⟩:=hp;rcases W9 h with⟨rfl,rfl,rfl⟩|⟨rfl,⟨_,_,rfl⟩,rfl⟩|⟨⟨_,_,rfl⟩,rfl,rfl⟩<;>(cases hx;cases hy;simp[Op.equalIn,av hu])
 |slice=>obtain⟨e,hu⟩:=hp;rcases Xa h with⟨rfl,rfl,rfl⟩|⟨rfl,⟨_,_,_,_,rfl⟩|⟨_,_,_,_,rfl⟩,rfl⟩|⟨⟨_,_,_,_,rfl⟩|⟨_,_,_,_,rfl⟩,rfl,rfl⟩<;>(cases hx;cases hy;simp[Op.equalIn,av hu])
 |func=>obtain⟨_,_,_,hu⟩:=hp;rcases aaS h with⟨rfl,rfl,rfl⟩|⟨rfl,⟨_,_,_,rfl⟩,rfl⟩|⟨⟨_,_,_,rfl⟩,rfl,rfl⟩<;>(cases hx;cases hy;simp[Op.equalIn,av hu])
 |map=>obtain⟨_,_,hu⟩:=hp;rcases ahI h with⟨rfl,rfl,rfl⟩|⟨rfl,⟨_,rfl⟩,rfl⟩|⟨⟨_,rfl⟩,rfl,rfl⟩<;>(cases hx;cases hy;simp[Op.equalIn,av hu])
 |parts l=>exact absurd rfl (cp l)
theorem zl(ho:fA ρ orc){A B:List AV}{xs ys:Array Value}(hx:ax ρ μ A xs.toList)(hy:ax ρ μ B ys.toList)(d:Nat) :
  ∀(n:Nat) (fs:List Field) (l:List (Nat×MV)) (r:Bool),eqFields P n fs=some l→c9 orc l A B=some r→(Op.eqFields (d+1) xs ys fs).run P w=.ok r w
 |n,[],l,r,hf,hp=>by
  have:l=[]:=by cases n<;>simpa[eqFields]using hf.symm
  subst this;simp only[c9,dS]at hp;subst hp;rfl
 |0,f ::fs,l,r,hf,hp=>by simp[eqFields]at hf
 |n+1,f ::fs,l,r,hf,hp=>by
  simp only[eqFields]at hf;cases hn : (f.name == "_") with
  |true=>rw[hn]at hf;cases hf
  |false=>
   rw[hn]at hf;simp only[cond_false]at hf;have key:∀(q:MV) (l':List (Nat×MV)),eqP P n f.type=some q→(∀l,q≠.parts l)→eqFields P n fs=some l'→l=(f.offset,q) ::l'→(Op.eqFields (d+1) xs ys (f ::fs)).run P w=.ok r w:=by
    intro q l' hq hqn Rx hl;subst hl;simp only[c9,nth_eq]at hp;split at hp
    ·rename_i x y h1 h2;have ym:=Br hq;obtain⟨d',Qq⟩:∃d',P.underlying f.type=some d':=by
      cases q with
      |bool=>exact⟨_,ym⟩
      |int=>obtain⟨k,hk⟩:=ym;exact⟨_,hk⟩
      |str=>exact⟨_,ym⟩
      |ptr=>obtain⟨_,_,hk,_⟩:=ym;exact⟨_,hk⟩
      |iface=>obtain⟨_,hk⟩:=ym;exact⟨_,hk⟩
      |slice=>obtain⟨_,hk⟩:=ym;exact⟨_,hk⟩
      |func=>obtain⟨_,_,_,hk⟩:=ym;exact⟨_,hk⟩
      |map=>obtain⟨_,_,hk⟩:=ym;exact⟨_,hk⟩
      |parts _=>exact absurd rfl (hqn _)
     have aMK:U0 d'=false:=by
      cases q with
      |bool=>have hk:P.underlying f.type=some .bool:=ym;rw[hk]at Qq;cases Qq;rfl
      |int=>obtain⟨k,hk⟩:=ym;rw[hk]at Qq;cases Qq;rfl
      |str=>have hk:P.underlying f.type=some .string:=ym;rw[hk]at Qq;cases Qq;rfl
      |ptr=>obtain⟨_,_,hk,_⟩:=ym;rw[hk]at Qq;cases Qq;rfl
      |iface=>obtain⟨_,hk⟩:=ym;rw[hk]at Qq;cases Qq;rfl
      |slice=>obtain⟨_,hk⟩:=ym;rw[hk]at Qq;cases Qq;rfl
      |func=>obtain⟨_,_,_,hk⟩:=ym;rw[hk]at Qq;cases Qq;rfl
      |map=>obtain⟨_,_,hk⟩:=ym;rw[hk]at Qq;cases Qq;rfl
      |parts _=>exact absurd rfl (hqn _)
     have avC:∀(L:List AV) (vs:Array Value) (u:AV),ax ρ μ L vs.toList→L[f.offset]?=some u→∃v,(part f.type vs f.offset).run P w=.ok v w∧aU ρ μ u v:=by
      intro L vs u hL hu;obtain⟨v,hv,hr⟩:=hL.get f.offset u hu;refine⟨v,?_,hr⟩;have:vs[f.offset]?=some v:=by simpa using hv
      simp[part,yj Qq,aMK,this]
     obtain⟨vx,hvx,hrx⟩:=avC A xs x hx h1;obtain⟨vy,hvy,hry⟩:=avC B ys y hy h2;have cp : f.name ≠ "_" := by simpa using hn
     simp only[Op.eqFields,ne_eq,cp,not_false_eq_true,if_true,sN,hvx,hvy,pY];split at hp
     ·rename_i he;rw[qF ho ym hqn he hrx hry d];simp only[pY,Bool.not_true,WA,if_false];exact zl ho hx hy d n fs l' r Rx hp
     ·rename_i he;cases hp;rw[qF ho ym hqn he hrx hry d];simp
     ·cases hp
    ·cases hp
   split at hf
   ·simp only[dS]at hf;exact key _ _ ‹_› (by intro l;simp) ‹_› hf.symm
   ·simp only[dS]at hf;exact key _ _ ‹_› (by intro l;simp) ‹_› hf.symm
   ·simp only[dS]at hf;exact key _ _ ‹_› (by intro l;simp) ‹_› hf.symm
   ·cases hf
theorem Pe(A B:List AV):∀(l m:List (Nat×MV)),c9 orc (l++m) A B=(match c9 orc l A B with|some true=>c9 orc m A B|some false=>some false|none=>none)
 | [],m=>by simp[c9]
 |(off,p) ::l,m=>by
  simp only[List.cons_append,c9,Pe A B l m];split
  ·split
   ·rfl
   ·rfl
   ·rfl
  ·rfl
theorem Jx(A B:List AV)(off sz:Nat):∀(l:List (Nat×MV)),(∀x∈l,x.1<sz)→c9 orc (l.map fun x=>(off+x.1,x.2)) A B=c9 orc l ((A.drop off).take sz) ((B.drop off).take sz)
 | [],_=>by simp[c9]
 |(o,p) ::l,h=>by
  have h0:o<sz:=h (o,p) (by simp);have e:∀(L:List AV),((L.drop off).take sz)[o]?=L[off+o]?:=by intro L;rw[List.getElem?_take_of_lt h0,List.getElem?_drop]
  simp only[zqx,c9,nth_eq,e,Jx A B off sz l fun x hx=>h x (by simp[hx])]
theorem adb{e:TypeId}{i:TypeInfo}{fs:Array Field}(hi:P.info? e=some i)(hu:P.underlying e=some (.struct fs))(xs:Array Value)(off:Nat) :
  (part e xs off).run P w=.ok (.agg (xs.extract off (off+i.size))) w:=by
 simp[part,yj hu,U0,bC hi]
theorem Pf{A:List AV}{xs:Array Value}(hx:ax ρ μ A xs.toList)(off n:Nat):ax ρ μ ((A.drop off).take n) (xs.extract off (off+n)).toList:=by
 have:(xs.extract off (off+n)).toList=(xs.toList.drop off).take n:=by simp[List.extract]
 rw[this];exact(hx.drop off).take n
theorem Jy(ho:fA ρ orc){e:TypeId}{i:TypeInfo}{fs:Array Field}{n:Nat}{l:List (Nat×MV)}(hi:P.info? e=some i)(hu:P.underlying e=some (.struct fs))(fy:P.stoodInHeld e=false)(hf:eqFields P n fs.toList=some l)(dn:∀x∈l,x.1<i.size)
  {A B:List AV} {xs ys:Array Value} (hx:ax ρ μ A xs.toList) (hy:ax ρ μ B ys.toList) (d:Nat) :
  ∀(m j:Nat) (r:Bool),c9 orc (MU l i.size m (j*i.size)) A B=some r→(Op.eqItems (d+2) e i.size xs ys (List.range' j m)).run P w=.ok r w
 |0,j,r,h=>by simp only[MU,c9,dS]at h;subst h;simp[Op.eqItems]
 |m+1,j,r,h=>by
  simp only[MU,Pe,Jx A B _ i.size l dn]at h;have hfo:P.fieldsOf e=fs:=by simp[Program.fieldsOf,hu]
  have he:∀q,c9 orc l ((A.drop (j*i.size)).take i.size) ((B.drop (j*i.size)).take i.size)=some q→
    (Op.equalIn (d+2) e (.agg (xs.extract (j*i.size) (j*i.size+i.size))) (.agg (ys.extract (j*i.size) (j*i.size+i.size)))).run P w=.ok q w:=by
   intro q hq;rw[show d+2=d+1+1 from rfl,run_equalIn_agg w (d+1) e _ _ (by rw[hfo];exact hu) fy,hfo];exact zl ho (Pf hx _ _) (Pf hy _ _) d n fs.toList l q hf hq
  simp only[List.range'_succ,Op.eqItems,sN,adb hi hu,pY];split at h
  ·rename_i hq;rw[he _ hq];simp only[pY,Bool.not_true,WA,if_false];have hj:(j+1)*i.size=j*i.size+i.size:=by rw[Nat.add_mul,Nat.one_mul]
   exact Jy ho hi hu fy hf dn hx hy d m (j+1) r (by rw[hj];exact h)
  ·rename_i hq;cases h;rw[he _ hq];simp
  ·cases h
theorem aaT(ho:fA ρ orc){t:TypeId}{l:List (Nat×MV)}(hp:SU P t (.parts l)){A B:List AV}{xs ys:Array Value}(hx:ax ρ μ A xs.toList)(hy:ax ρ μ B ys.toList){r:Bool}(h:c9 orc l A B=some r)(d:Nat) :
  (Op.equalIn (d+3) t (.agg xs) (.agg ys)).run P w=.ok r w:=by
 rcases hp with⟨fs,n,hu,fy,hf⟩|⟨len,e,i,fs,n,l',hu,hi,hue,fy,hf,dn,rfl⟩
 ·have hfo:P.fieldsOf t=fs:=by simp[Program.fieldsOf,hu]
  rw[show d+3=d+2+1 from rfl,run_equalIn_agg w (d+2) t xs ys (by rw[hfo];exact hu) fy,hfo];exact zl ho hx hy (d+1) n fs.toList l r hf h
 ·have hc:P.cellsOf e=i.size:=by simp[Program.cellsOf,hi]
  rw[show d+3=d+2+1 from rfl,run_equalIn_array w (d+2) xs ys hu hi,hc,List.range_eq_range'];exact Jy ho hi hue fy hf dn hx hy d len 0 r (by simpa using h)
end
section
variable{P:Program}{ρ:Nat→Int}{w0:W0}{w:World}{μ:Mu}{G:Key→Option ai}{nx:Nat}{orc:jK}{nt:Nat}{tm:T AV}{ev:Operand→Value}
theorem kr{lo:Option Operand}{plo:Option PX}(hp:ak0 P nt lo=some plo){aq1 l:Nat}(hb:nJ tm aq1 plo=some l){xs:List Operand}(hE:BH P ρ μ nt xs tm ev)
  (hx:∀x,lo=some x→x∈xs):(lo=none∧l=aq1)∨(∃x k,lo=some x∧ev x=.int k (l:Int)):=by
 cases lo with
 |none=>simp only[ak0,dS]at hp;subst hp;simp only[nJ,dS]at hb;exact .inl ⟨rfl,hb.symm⟩
 |some x=>
  right;simp only[ak0]at hp;split at hp
  ·rename_i a ha;cases hp;simp only[nJ]at hb;split at hb
   ·cases hb
   ·rename_i v hv;obtain⟨k,hk⟩:=jn hb (hE x (hx x rfl) a v ha hv);exact⟨x,k,rfl,hk⟩
  ·cases hp
theorem su{k:IntKind}{i y:Nat}(code:BoundsCode)(h:i≤y):(Instr.sliceBound (.int k (i:Int)) y code).run P w=.ok i w:=by simp only[Instr.sliceBound,asIntOf,sN,wY,pY];rw[if_pos (by omega)];simp
theorem qb{isSlice:Bool}{len cap l r:Nat}{lo hi:Option Value}(vk:(lo=none∧l=0)∨∃k,lo=some (.int k (l:Int)))(hhi:(hi=none∧r=len)∨∃k,hi=some (.int k (r:Int)))
  (h1:l≤r) (h2:r≤len) (h3:len≤cap):(Instr.sliceBounds isSlice len cap lo hi none).run P w=.ok (l,r,cap) w:=by
 rcases vk with⟨rfl,rfl⟩|⟨k,rfl⟩<;>rcases hhi with⟨rfl,rfl⟩|⟨k',rfl⟩<;>simp only[Instr.sliceBounds,sN,wY,pY]
 ·rw[su _ (by omega)];rfl
 ·rw[su _ (by omega)];rfl
 ·rw[su _ (by omega),pY,su _ (by omega)];rfl
def Dt(P:Program)(kt:TypeId)(sk:Bool)(kd:TypeDesc):Prop:=P.underlying kt=some kd∧(if sk then kd=.string else ∃k,kd=.int k)
theorem AN(ho:fA ρ orc){kt:TypeId}{kd:TypeDesc}{sk:Bool}(hu:Dt P kt sk kd){k a:AV}{x y:Value}(hx:aU ρ μ k x)(hy:aU ρ μ a y){b:Bool}
  (hb:keyEq orc sk k a=some b):Instr.sameNow kd x y=some b:=by
 obtain⟨_,Ib⟩:=hu;cases k<;>first|(simp[keyEq]at hb;done)|skip
 ·cases a<;>first|(simp[keyEq]at hb;done)|skip
  rename_i k1 s1 k2 s2;simp only[keyEq]at hb;cases hk:beqKind k1 k2 with
  |false=>rw[hk]at hb;cases hb
  |true=>
   rw[hk]at hb;cases sk with
   |true=>cases hb
   |false=>
    have:=uk hk;subst this;simp only[Bool.not_false,Bool.and_true,cond_true]at hb;have hc:=y0 ho hb;cases hx with|int _ _ n1 e1=>cases hy with|int _ _ n2 e2=>
    rw[e1,e2]at hc;simp only[fC,dS]at hc;obtain⟨k',rfl⟩:∃k,kd=.int k:=by simpa using Ib
    simp[Instr.sameNow,hc]
 ·cases a<;>first|(simp[keyEq]at hb;done)|skip
  cases sk with
  |false=>simp[keyEq]at hb
  |true=>
   simp only[keyEq,cond_true,dS]at hb;cases hx with|str _ _ s1 e1 Fk=>cases hy with|str _ _ s2 e2 e2'=>
   subst e1 Fk e2 e2';rw[Zq]at hb;have:kd=.string:=by simpa using Ib
   subst this;simp only[Instr.sameNow,dS];rw[beq_toListBytes,ByteArray.toList_eq,ByteArray.toList_eq];exact hb
def apC(ρ:Nat→Int)(μ:Mu):Option AV→Option (Nat×Value)→Prop
 |none,none=>True
 |some a,some (_,v)=>aU ρ μ a v
 |_,_=>False
theorem Hf(ho:fA ρ orc){kt:TypeId}{kd:TypeDesc}{sk:Bool}(hu:Dt P kt sk kd){k:AV}{x:Value}(hx:aU ρ μ k x) :
  ∀{l:List (AV×AV)} {es:List MapEntry} (i:Nat) {r:Option AV},Aw ρ μ l es→findK orc sk k l=some r→
   ∃f,Instr.findNow kd x es i=some f∧apC ρ μ r f
 | [],[],i,r,hp,h=>by simp only[findK,dS]at h;subst h;exact⟨none,rfl,trivial⟩
 | [],_ ::_,i,r,hp,h=>hp.elim
 |(_,_) ::_,[],i,r,hp,h=>hp.elim
 |(a,v) ::l,e ::es,i,r,hp,h=>by
  obtain⟨h1,h2,h3⟩:=hp;simp only[findK]at h;split at h
  ·rename_i hk;cases h;refine⟨some (i,e.val),?_,h2⟩;simp[Instr.findNow,AN ho hu hx h1 hk]
  ·rename_i hk;obtain⟨f,hf,hr⟩:=Hf ho hu hx (i+1) h3 h;refine⟨f,?_,hr⟩;simp[Instr.findNow,AN ho hu hx h1 hk,hf]
  ·cases h
theorem run_findKey{kt:TypeId}{kd:TypeDesc}(hu:P.underlying kt=some kd){x:Value}{es:List MapEntry}{f:Option (Nat×Value)}(h:Instr.findNow kd x es 0=some f) :
  (Instr.findKey kt x es).run P w=.ok f w:=by
 simp[Instr.findKey,av hu,h]
theorem run_checkKey{kt:TypeId}{kd:TypeDesc}{sk:Bool}(hu:Dt P kt sk kd)(e:Bool)(n:Nat)(x:Value):(Instr.checkKey e (n+1) kt x).run P w=.ok () w:=by
 obtain⟨hu,hk⟩:=hu;cases sk with
 |true=>
  have:kd=.string:=by simpa using hk
  subst this;simp[Instr.checkKey,av hu]
 |false=>
  obtain⟨k,rfl⟩:∃k,kd=.int k:=by simpa using hk
  simp[Instr.checkKey,av hu]
end
section
variable{P:Program}{ρ:Nat→Int}{w0:W0}{w:World}{μ:Mu}{G:Key→Option ai}{nx:Nat}{orc:jK}{nt:Nat}{tm:T AV}{H:T ai}{ev:Operand→Value}
theorem fU{s:Sem Value}{v:Value}{w':World}(h:s.run P w=.ok v w'):(do pure (Next.value (←s)):Sem Next).run P w=.ok (.value v) w':=by simp[h]
theorem aT{α:Type}{b:Bool}{x:Option α}{y:α}(h:(bif b then x else none)=some y):b=true∧x=some y:=by
 cases b with
 |true=>exact⟨rfl,h⟩
 |false=>cases h
theorem atl(k yk:IntKind)(a:Int)(n:Nat)(hle:n≤k.bits):(Op.shift .shl k a yk (n:Int)).run P w=.ok (.int k (k.wrap (a*2^n))) w:=by
 have h0:¬((n:Int)<0):=by omega
 have:min n k.bits=n:=by omega
 simp[Op.shift,h0,this]
theorem aiF(k yk:IntKind)(a:Int)(n:Nat)(hle:n≤k.bits):(Op.shift .shr k a yk (n:Int)).run P w=.ok (.int k (a.fdiv (2^n))) w:=by
 have h0:¬((n:Int)<0):=by omega
 have:min n k.bits=n:=by omega
 simp[Op.shift,h0,this]
theorem ajS(ho:fA ρ orc){op:BinOp}{t:TypeId}{X Y:Operand}{a b:AV}{x y:Value}(hx:aU ρ μ a x)(hy:aU ρ μ b y){r:AV}
  (h:lightOp orc (.bin op (.v a) (.v b)) tm H=some r) :
  ∃v,(do eqGuard op t X Y x y;Go.binOp op t x y:Sem Value).run P w=.ok v w∧aU ρ μ r v:=by
 simp only[lightOp,PX.at]at h;cases hx<;>first|(simp at h;done)|skip
 ·cases hy<;>first|(simp at h;done)|skip
  rename_i k1 s1 n1 e1 k2 s2 n2 e2;have hg:(eqGuard op t X Y (.int k1 n1) (.int k2 n2)).run P w=.ok () w:=by cases op<;>simp[eqGuard]
  simp only[sN,hg,pY];have rest:(bif beqKind k1 k2 then(bif isCmp op then(match Is orc op s1 s2 with|some r=>some (AV.bool r)|none=>none)else(match arith op k1 s1 s2 with|some r=>some (AV.int k1 r)|none=>none))else none)=some r→
    ∃v,(Go.binOp op t (.int k1 n1) (.int k2 n2)).run P w=.ok v w∧aU ρ μ r v:=by
   intro hq;obtain⟨hk,Xg⟩:=aT hq;have:=uk hk;subst this;clear hq h;cases hc:isCmp op with
   |true=>
    rw[hc]at Xg;simp only[cond_true]at Xg;split at Xg
    ·rename_i r' hr';cases Xg;have hd:=y0 ho hr';rw[e1,e2]at hd;refine⟨.bool r',?_,.bool _⟩;rw[←agH (P:=P) (w:=w) hd];cases op<;>simp[isCmp]at hc<;>simp[Go.binOp]
    ·cases Xg
   |false=>
    rw[hc]at Xg;simp only[cond_false]at Xg;split at Xg
    ·rename_i r' hr';cases Xg;have:=O3 (ρ:=ρ) (P:=P) (w:=w) t hr';rw[e1,e2]at this;exact⟨_,this,.int _ _ _ rfl⟩
    ·cases Xg
  cases op<;>first|exact rest h|skip
  ·simp only at h;split at h
   ·rename_i a n;obtain⟨hsh,h2⟩:=aT h;cases h2;have e2':n2=(n:Int):=e2.symm;have Fk:n1=a:=e1.symm;subst e2' Fk;refine⟨_,atl k1 k2 n1 n (Zr hsh),.int _ _ _ ?_⟩;simp only[SI.den,dx];apply congrArg;show n1*((2^n:Nat):Int)=n1*2^n;simp
   ·cases h
  ·simp only at h;split at h
   ·rename_i a n;obtain⟨hsh,h2⟩:=aT h;cases h2;have e2':n2=(n:Int):=e2.symm;have Fk:n1=(a:Int):=e1.symm;subst e2' Fk;refine⟨_,aiF k1 k2 a n (Zr hsh),.int _ _ _ ?_⟩;simp only[SI.den];show((a / 2^n:Nat):Int)=_;have hp:(0:Int)≤2^n:=by
     have:((2^n:Nat):Int)=2^n:=by simp
     exact this ▸ Int.natCast_nonneg _
    rw[Int.fdiv_eq_ediv_of_nonneg _ hp];simp
   ·rename_i a n;obtain⟨hsh,h2⟩:=aT h;cases h2;have e2':n2=(n:Int):=e2.symm;have Fk:n1=Int.negSucc a:=e1.symm;subst e2' Fk;refine⟨_,aiF k1 k2 (Int.negSucc a) n (Zr hsh),.int _ _ _ ?_⟩;simp only[SI.den];have hc:((2:Int)^n)=((2^n:Nat):Int):=by simp
    rw[hc];have SM:0<2^n:=Nat.two_pow_pos n;obtain⟨m,hm⟩:∃m,2^n=m+1:=⟨2^n-1,by omega⟩;show Int.negSucc (a / 2^n)=_;rw[hm];rfl
   ·cases h
 ·cases hy<;>first|(simp at h;done)|skip
  rename_i n1 c1 s1 h1 qR n2 c2 s2 h2 DF;subst h1 qR h2 DF;have hg:(eqGuard op t X Y (.string s1) (.string s2)).run P w=.ok () w:=by cases op<;>simp[eqGuard]
  simp only[sN,hg,pY];obtain⟨v,hv,hr⟩:=akt (P:=P) (w:=w) (ρ:=ρ) (μ:=μ) (x:=s1) (y:=s2) h;refine⟨v,?_,hr⟩;rw[←hv];cases op<;>simp[Go.binOp]
end
section
variable{P:Program}{ρ:Nat→Int}{w0:W0}{w:World}{μ:Mu}{G:Key→Option ai}{nx:Nat}{orc:jK}{nt:Nat}{tm:T AV}{H:T ai}{ev:Operand→Value}
theorem PY(op:BinOp)(t:TypeId){X Y:Operand}(h:kY X=true∨kY Y=true):(eqGuard op t X Y .nilIface .nilIface).run P w=.ok () w:=by
 rcases h with h|h
 ·cases X<;>simp[kY]at h;cases op<;>simp[eqGuard]
 ·cases Y<;>simp[kY]at h;cases op<;>simp[eqGuard]
theorem amZ(ho:fA ρ orc){op:BinOp}{neg:Bool}(pE:op=if neg then .neq else .eql){t:TypeId}{p:MV}(hp:SU P t p)(hni:p≠.int)(hns:p≠.str)
  {X Y:Operand} {a b:AV} {x y:Value} (hx:aU ρ μ a x) (hy:aU ρ μ b y) {r:Bool} (h:kq orc p a b=some r)
  (hg:(∃l,p=.parts l)→P.eqGuardType P.depth t=false) (hc:p=.iface→kY X=true∨kY Y=true) :
  (do eqGuard op t X Y x y;Go.binOp op t x y:Sem Value).run P w=.ok (.bool (bif neg then !r else r)) w:=by
 have fin:∀(x y:Value),(eqGuard op t X Y x y).run P w=.ok () w→(Op.equalIn 10000 t x y).run P w=.ok r w→(∀(k:IntKind) (n:Int),x≠.int k n)→(∀s,x≠.string s)→(∀k n,x≠.float k n)→(∀k n m,x≠.complex k n m)→
   (do eqGuard op t X Y x y;Go.binOp op t x y:Sem Value).run P w=.ok (.bool (bif neg then !r else r)) w:=by
  intro x y hg he h1 h2 h3 h4;simp only[sN,hg,pY];subst pE;cases neg with
  |false=>
   simp only[WA,if_false,cond_false];cases x<;>first|exact absurd rfl (h1 _ _)|exact absurd rfl (h2 _)|exact absurd rfl (h3 _ _)|exact absurd rfl (h4 _ _ _)|skip
   all_goals simp only[Go.binOp,Op.equal,Op.maxDepth,sN,he,pY,wY]
  |true=>
   simp only[if_true,cond_true];cases x<;>first|exact absurd rfl (h1 _ _)|exact absurd rfl (h2 _)|exact absurd rfl (h3 _ _)|exact absurd rfl (h4 _ _ _)|skip
   all_goals simp only[Go.binOp,Op.equal,Op.maxDepth,sN,he,pY,wY]
 have W8:∀(x y:Value),(∀v,x≠.agg v)→x≠.nilIface→(eqGuard op t X Y x y).run P w=.ok () w:=by intro x y h1 h2;subst pE;cases neg<;>cases x<;>first|exact absurd rfl (h1 _)|exact absurd rfl h2|simp[eqGuard]
 cases p with
 |int=>exact absurd rfl hni
 |str=>exact absurd rfl hns
 |bool=>have he:=qF (P:=P) (w:=w) ho hp (by intro l;simp) h hx hy 9999;obtain⟨x',y',rfl,rfl,hr⟩:=aaR h;cases hx;cases hy;exact fin _ _ (W8 _ _ (by simp) (by simp)) he (by simp) (by simp) (by simp) (by simp)
 |ptr=>
  have he:=qF (P:=P) (w:=w) ho hp (by intro l;simp) h hx hy 9999;have:∃q,x=.pointer q:=by rcases ahH h with⟨rfl,rfl,rfl⟩|⟨rfl,⟨_,_,rfl⟩|⟨_,rfl⟩,rfl⟩|⟨⟨_,_,rfl⟩|⟨_,rfl⟩,rfl,rfl⟩|⟨k,o1,o2,rfl,rfl,hr⟩<;>(cases hx;exact⟨_,rfl⟩)
  obtain⟨q,rfl⟩:=this;exact fin _ _ (W8 _ _ (by simp) (by simp)) he (by simp) (by simp) (by simp) (by simp)
 |iface=>
  have he:=qF (P:=P) (w:=w) ho hp (by intro l;simp) h hx hy 9999;have aHy:=hc rfl;have hgi:(eqGuard op t X Y .nilIface .nilIface).run P w=.ok () w:=PY op t aHy;rcases W9 h with⟨rfl,rfl,rfl⟩|⟨rfl,⟨_,_,rfl⟩,rfl⟩|⟨⟨_,_,rfl⟩,rfl,rfl⟩
  ·cases hx;cases hy;exact fin _ _ hgi he (by simp) (by simp) (by simp) (by simp)
  ·cases hx;cases hy;exact fin _ _ (by subst pE;cases neg<;>simp[eqGuard]) he (by simp) (by simp) (by simp) (by simp)
  ·cases hx;cases hy;exact fin _ _ (W8 _ _ (by simp) (by simp)) he (by simp) (by simp) (by simp) (by simp)
 |slice=>
  have he:=qF (P:=P) (w:=w) ho hp (by intro l;simp) h hx hy 9999;have:∃q l c,x=.slice q l c:=by rcases Xa h with⟨rfl,rfl,rfl⟩|⟨rfl,⟨_,_,_,_,rfl⟩|⟨_,_,_,_,rfl⟩,rfl⟩|⟨⟨_,_,_,_,rfl⟩|⟨_,_,_,_,rfl⟩,rfl,rfl⟩<;>(cases hx;exact⟨_,_,_,rfl⟩)
  obtain⟨_,_,_,rfl⟩:=this;exact fin _ _ (W8 _ _ (by simp) (by simp)) he (by simp) (by simp) (by simp) (by simp)
 |func=>have he:=qF (P:=P) (w:=w) ho hp (by intro l;simp) h hx hy 9999;rcases aaS h with⟨rfl,rfl,rfl⟩|⟨rfl,⟨_,_,_,rfl⟩,rfl⟩|⟨⟨_,_,_,rfl⟩,rfl,rfl⟩<;>(cases hx;exact fin _ _ (W8 _ _ (by simp) (by simp)) he (by simp) (by simp) (by simp) (by simp))
 |map=>have he:=qF (P:=P) (w:=w) ho hp (by intro l;simp) h hx hy 9999;rcases ahI h with⟨rfl,rfl,rfl⟩|⟨rfl,⟨_,rfl⟩,rfl⟩|⟨⟨_,rfl⟩,rfl,rfl⟩<;>(cases hx;exact fin _ _ (W8 _ _ (by simp) (by simp)) he (by simp) (by simp) (by simp) (by simp))
 |parts l=>
  cases a<;>first|(simp[kq]at h;done)|skip
  cases b<;>first|(simp[kq]at h;done)|skip
  simp only[kq]at h;cases hx with|agg _ xs hx=>cases hy with|agg _ ys hy=>
  have he:(Op.equalIn 10000 t (.agg xs) (.agg ys)).run P w=.ok r w:=aaT ho hp hx hy h 9997;exact fin _ _ (run_eqGuard_agg w op t X Y xs ys (hg ⟨l,rfl⟩)) he (by simp) (by simp) (by simp) (by simp)
end
section
variable{P:Program}{ρ:Nat→Int}{w0:W0}{w:World}{μ:Mu}{G:Key→Option ai}{nx:Nat}{orc:jK}{nt:Nat}{tm:T AV}{H:T ai}{ev:Operand→Value}
theorem ahX{xs:List Operand}{p:PX}(h:Q1 P nt xs=some [p]):∃x,xs=[x]∧pX P nt x=some p:=by
 cases xs with
 |nil=>simp[Q1]at h
 |cons x xs=>
  simp only[Q1]at h;split at h
  ·rename_i a r h1 h2;simp only[dS,List.cons.injEq]at h;obtain⟨rfl,rfl⟩:=h;cases xs with
   |nil=>exact⟨x,rfl,h1⟩
   |cons y ys=>simp only[Q1]at h2;split at h2<;>cases h2
  ·cases h
theorem ahY{xs:List Operand}{p q:PX}(h:Q1 P nt xs=some [p,q]):∃x y,xs=[x,y]∧pX P nt x=some p∧pX P nt y=some q:=by
 cases xs with
 |nil=>simp[Q1]at h
 |cons x xs=>
  simp only[Q1]at h;split at h
  ·rename_i a r h1 h2;simp only[dS,List.cons.injEq]at h;obtain⟨rfl,rfl⟩:=h;obtain⟨y,rfl,hy⟩:=ahX h2;exact⟨x,y,rfl,h1,hy⟩
  ·cases h
theorem ayE{op:BinOp}{x y:PX}{r:AV}(h:lightOp orc (.bin op x y) tm H=some r):∃a b,x.at tm=some a∧y.at tm=some b∧lightOp orc (.bin op (.v a) (.v b)) tm H=some r:=by
 cases hx:x.at tm with
 |none=>simp[lightOp,hx]at h
 |some a=>
  cases hy:y.at tm with
  |none=>simp[lightOp,hx,hy]at h
  |some b=>refine⟨a,b,rfl,rfl,?_⟩;have e1:(PX.v a).at tm=some a:=rfl;have e2:(PX.v b).at tm=some b:=rfl;simp only[lightOp,hx,hy,e1,e2]at h ⊢;exact h
set_option maxHeartbeats 2000000 in
theorem O0(hM:bB P ρ w0 μ G nx w)(hH:HSub H G)(ho:fA ρ orc){o:Oper}{op:KR}(hp:kb P nt o=some op)
  (hE:BH P ρ μ nt o.op.operands.toList tm ev) {a:AV} (hl:lightOp orc op tm H=some a) :
  ∃v,(Go.execOp ev o).run P w=.ok (.value v) w∧aU ρ μ a v:=by
 obtain⟨dst,Ic,ty,pos,after,guard⟩:=o;cases Ic with
 |move x=>obtain⟨px,hx,rfl⟩:=map_some hp;exact⟨ev x,rfl,hE x (by simp[Op.operands]) px a hx hl⟩
 |assign x=>obtain⟨px,hx,rfl⟩:=map_some hp;exact⟨ev x,rfl,hE x (by simp[Op.operands]) px a hx hl⟩
 |pick c x y=>
  simp only[kb]at hp;split at hp
  ·rename_i pc pa pb h1 h2 h3;cases hp;simp only[lightOp]at hl;split at hl
   ·rename_i hc;have hcv:=hE c (by simp[Op.operands]) pc _ h1 hc;have hv:=hE x (by simp[Op.operands]) pa _ h2 hl;generalize ZY:ev c=cc at hcv;cases hcv;exact⟨ev x,by simp[Go.execOp,ZY,asBool],hv⟩
   ·rename_i hc;have hcv:=hE c (by simp[Op.operands]) pc _ h1 hc;have hv:=hE y (by simp[Op.operands]) pb _ h3 hl;generalize ZY:ev c=cc at hcv;cases hcv;exact⟨ev y,by simp[Go.execOp,ZY,asBool],hv⟩
   ·cases hl
  ·cases hp
 |alloc t=>
  simp only[kb]at hp
  repeat' (first|replace hp:=(aT hp).2|split at hp)
  all_goals cases hp<;>simp[lightOp]at hl
 |box t x=>obtain⟨px,hx,rfl⟩:=map_some hp;simp[lightOp]at hl
 |build t parts=>
  have IE:∀y∈parts.toList.map (·.2),y∈(Op.build t parts).operands.toList:=by intro y hy;simpa[Op.operands]using hy
  simp only[kb]at hp;split at hp
  ·rename_i ti fs hti hu;obtain⟨i,d,z,hi,hd,hz,YT,xL,Rg⟩:=lf hti;split at hp
   ·rename_i pl uX;split at hp
    ·rename_i ps hps;cases hp;simp only[lightOp]at hl;split at hl
     ·rename_i cs C0;cases hl;have hzr:ax ρ μ ti.zero.cells z.cells.toList:=(jd we z ti.zero YT).cells;obtain⟨vs',hf,hr⟩:=AG (vs:=z.cells) hps C0 (hE.sub IE) hzr;have IF:∀(l:List Field) (r:List (Nat×Nat)),uV P l=some r→(l.mapM fun f=>(do pure (f.offset,←sizeOf f.type):Sem (Nat×Nat))).run P w=.ok r w:=by
       intro l
       induction l with
       |nil=>intro r hr;simp only[uV,dS]at hr;subst hr;rfl
       |cons f l ih=>
        intro r hr;simp only[uV]at hr;split at hr
        ·rename_i i' r' PJ hr';cases hr;rw[List.mapM_cons];simp only[sN,bC PJ,pY,wY,ih r' hr']
        ·cases hr
      refine⟨.agg vs',?_,.agg _ _ hr⟩;simp only[Go.execOp];refine fU ?_;have hm:(fs.mapM fun f=>(do pure (f.offset,←sizeOf f.type):Sem (Nat×Nat))).run P w=.ok pl.toArray w:=by rw[Array.mapM_eq_mapM_toList,Sem.run_map,IF _ _ uX];rfl
      simp only[Instr.build,sN,qB hi hz,pY,av hu]
      erw [hm]
      simp only[pY];have aLC:(fun x:Nat=>pl.toArray[x]?)=(fun x:Nat=>pl[x]?):=by funext x;simp
      have NT:(parts.map fun(i,x)=>(i,ev x)).toList=parts.toList.map fun(i,x)=>(i,ev x):=by simp
      rw[aLC,NT,hf];rfl
     ·cases hl
    ·cases hp
   ·cases hp
  ·rename_i ti n e hti hu;obtain⟨i,d,z,hi,hd,hz,YT,xL,Rg⟩:=lf hti;split at hp
   ·rename_i ie Nb;split at hp
    ·rename_i ps hps;cases hp;simp only[lightOp]at hl;split at hl
     ·rename_i cs C0;cases hl;have hzr:ax ρ μ ti.zero.cells z.cells.toList:=(jd we z ti.zero YT).cells;obtain⟨vs',hf,hr⟩:=AG (vs:=z.cells) hps C0 (hE.sub IE) hzr;refine⟨.agg vs',?_,.agg _ _ hr⟩;simp only[Go.execOp];refine fU ?_;simp only[Instr.build,sN,qB hi hz,pY,av hu,bC Nb];have NT:(parts.map fun(i,x)=>(i,ev x)).toList=parts.toList.map fun(i,x)=>(i,ev x):=by simp
      rw[NT,hf];rfl
     ·cases hl
    ·cases hp
   ·cases hp
  ·cases hp
 |buildSlice t len parts=>
  simp only[kb]at hp
  repeat' (first|replace hp:=(aT hp).2|split at hp)
  all_goals cases hp<;>simp[lightOp]at hl
 |insert t m k v=>
  simp only[kb]at hp
  repeat' (first|replace hp:=(aT hp).2|split at hp)
  all_goals cases hp<;>simp[lightOp]at hl
 |load t x=>
  simp only[kb]at hp;split at hp
  ·rename_i ti px hti hx;obtain⟨i,d,z,hi,hd,hz,YT,xL,Rg⟩:=lf hti;cases hp;simp only[lightOp]at hl;split at hl
   ·rename_i b off hb;have hv:=hE x (by simp[Op.operands]) px _ hx hb;simp only[loadB]at hl;split at hl
    ·rename_i L k hL;generalize qa:ev x=xx at hv;cases hv with|ptr _ _ l ad hm rk=>
     rw[Rg,xL]at hl;obtain⟨v,hv,hr⟩:=IW hM (hH _ _ hL) hi hd hl hm;refine⟨v,?_,hr⟩;subst rk;simp only[Go.execOp];refine fU ?_;simp only[qa,Instr.loadAt,Instr.sureAddr,sN,wY,pY,hv]
    ·cases hl
   ·rename_i l hb;have hv:=hE x (by simp[Op.operands]) px _ hx hb;generalize qa:ev x=xx at hv;cases hv with|cref _ c o ad vs hr rk hf=>
    subst rk;rw[Rg,xL]at hl;obtain⟨v,hv,hr⟩:=adU hM hr hf hi hd hl;refine⟨v,?_,hr⟩;simp only[Go.execOp];refine fU ?_;simp only[qa,Instr.loadAt,Instr.sureAddr,sN,wY,pY,hv]
   ·cases hl
  ·cases hp
 |store t x v=>
  simp only[kb]at hp;split at hp
  ·cases hp;simp[lightOp]at hl
  ·cases hp
 |ready g=>simp[kb]at hp
 |waits g=>simp[kb]at hp
 |nilCheck x=>
  obtain⟨px,hx,rfl⟩:=map_some hp;simp only[lightOp]at hl;split at hl
  all_goals first|(cases hl;done)|skip
  all_goals rename_i hb
  all_goals (cases hl;have hv:=hE x (by simp[Op.operands]) px _ hx hb;refine⟨ev x,?_,hv⟩;generalize qa:ev x=xx at hv;cases hv;simp[Go.execOp,qa])
 |binOp bop t x y yt=>
  simp only[kb]at hp;split at hp
  ·rename_i pa pb h1 h2;have aC9:some (KR.bin bop pa pb)=some op→∃v,(Go.execOp ev ⟨dst,.binOp bop t x y yt,ty,pos,after,guard⟩).run P w=.ok (.value v) w∧aU ρ μ a v:=by intro hp;cases hp;obtain⟨va,vb,ha,hb,hl⟩:=ayE hl;have hva:=hE x (by simp[Op.operands]) pa _ h1 ha;have hvb:=hE y (by simp[Op.operands]) pb _ h2 hb;obtain⟨v,hv,hr⟩:=ajS (P:=P) (w:=w) (t:=t) (X:=x) (Y:=y) ho hva hvb hl;exact⟨v,fU hv,hr⟩
   have heq:∀(neg:Bool) (p:MV),bop=(if neg then .neq else .eql)→SU P t p→p≠.int→p≠.str→((∃l,p=.parts l)→P.eqGuardType P.depth t=false)→(p=.iface→kY x=true∨kY y=true)→
     op=.eq neg p pa pb→∃v,(Go.execOp ev ⟨dst,.binOp bop t x y yt,ty,pos,after,guard⟩).run P w=.ok (.value v) w∧aU ρ μ a v:=by
    intro neg p hb ym hi hs hg hc e;subst e;simp only[lightOp]at hl;split at hl
    ·rename_i va vb ha wc;split at hl
     ·rename_i r hr;cases hl;have hva:=hE x (by simp[Op.operands]) pa _ h1 ha;have hvb:=hE y (by simp[Op.operands]) pb _ h2 wc;exact⟨_,fU (amZ (P:=P) (w:=w) (X:=x) (Y:=y) ho hb ym hi hs hva hvb hr hg hc),.bool _⟩
     ·cases hl
    ·cases hl
   split at hp
   ·exact aC9 hp
   ·exact aC9 hp
   ·rename_i ms hu;replace hp:=aT hp;obtain⟨hc,hp⟩:=hp;have hc':kY x=true∨kY y=true:=by simpa using hc
    split at hp
    ·simp only[dS]at hp;exact heq false .iface rfl ⟨_,hu⟩ (by simp) (by simp) (by simp) (fun _=>hc') hp.symm
    ·simp only[dS]at hp;exact heq true .iface rfl ⟨_,hu⟩ (by simp) (by simp) (by simp) (fun _=>hc') hp.symm
    ·cases hp
   ·rename_i fs hu;cases OP:P.eqGuardType P.depth t with
    |true=>rw[OP]at hp;cases hp
    |false=>
     rw[OP]at hp;simp only[cond_false]at hp;have Mm:∀q,eqP P 100 t=some q→q≠.int∧q≠.str∧q≠.iface:=by
      intro q hq;have hk:=Br hq;refine⟨?_,?_,?_⟩
      ·rintro rfl;obtain⟨k,hk⟩:=hk;rw[hu]at hk;cases hk
      ·rintro rfl;have hk:P.underlying t=some .string:=hk;rw[hu]at hk;cases hk
      ·rintro rfl;obtain⟨k,hk⟩:=hk;rw[hu]at hk;cases hk
     split at hp
     ·rename_i q hq;simp only[dS]at hp;obtain⟨n1,n2,n3⟩:=Mm q hq;exact heq false q rfl (Br hq) n1 n2 (fun _=>OP) (fun e=>absurd e n3) hp.symm
     ·rename_i q hq;simp only[dS]at hp;obtain⟨n1,n2,n3⟩:=Mm q hq;exact heq true q rfl (Br hq) n1 n2 (fun _=>OP) (fun e=>absurd e n3) hp.symm
     ·cases hp
   ·rename_i aUO aUP hu;cases OP:P.eqGuardType P.depth t with
    |true=>rw[OP]at hp;cases hp
    |false=>
     rw[OP]at hp;simp only[cond_false]at hp;have Mm:∀q,eqP P 100 t=some q→q≠.int∧q≠.str∧q≠.iface:=by
      intro q hq;have hk:=Br hq;refine⟨?_,?_,?_⟩
      ·rintro rfl;obtain⟨k,hk⟩:=hk;rw[hu]at hk;cases hk
      ·rintro rfl;have hk:P.underlying t=some .string:=hk;rw[hu]at hk;cases hk
      ·rintro rfl;obtain⟨k,hk⟩:=hk;rw[hu]at hk;cases hk
     split at hp
     ·rename_i q hq;simp only[dS]at hp;obtain⟨n1,n2,n3⟩:=Mm q hq;exact heq false q rfl (Br hq) n1 n2 (fun _=>OP) (fun e=>absurd e n3) hp.symm
     ·rename_i q hq;simp only[dS]at hp;obtain⟨n1,n2,n3⟩:=Mm q hq;exact heq true q rfl (Br hq) n1 n2 (fun _=>OP) (fun e=>absurd e n3) hp.symm
     ·cases hp
   ·rename_i d hn1 hn2 hn3 hn4 hn5 hu;have Mm:∀q,eqP P 100 t=some q→q≠.iface:=by intro q hq;have hk:=Br hq;rintro rfl;obtain⟨k,hk⟩:=hk;rw[hu]at hk;cases hk;exact absurd rfl (hn3 _)
    split at hp
    ·rename_i q hq;cases hfl:XC q with
     |true=>rw[hfl]at hp;cases hp
     |false=>rw[hfl]at hp;simp only[cond_false,dS]at hp;exact heq false q rfl (Br hq) (by rintro rfl;cases hfl) (by rintro rfl;cases hfl) (by rintro⟨l,rfl⟩;cases hfl) (fun e=>absurd e (Mm q hq)) hp.symm
    ·rename_i q hq;cases hfl:XC q with
     |true=>rw[hfl]at hp;cases hp
     |false=>rw[hfl]at hp;simp only[cond_false,dS]at hp;exact heq true q rfl (Br hq) (by rintro rfl;cases hfl) (by rintro rfl;cases hfl) (by rintro⟨l,rfl⟩;cases hfl) (fun e=>absurd e (Mm q hq)) hp.symm
    ·cases hp
   ·cases hp
  ·cases hp
 |unOp uop t x=>
  obtain⟨px,hx,rfl⟩:=map_some hp;simp only[lightOp]at hl;split at hl
  ·rename_i b hb;cases hl;have hv:=hE x (by simp[Op.operands]) px _ hx hb;generalize qa:ev x=xx at hv;cases hv;exact⟨_,by simp[Go.execOp,qa,Op.unary],.bool _⟩
  ·rename_i k s hb;split at hl
   ·rename_i r hr;cases hl;have hv:=hE x (by simp[Op.operands]) px _ hx hb;generalize qa:ev x=xx at hv;cases hv with|int _ _ n hn=>
    have:=O3 (ρ:=ρ) (P:=P) (w:=w) 0 hr;rw[hn]at this;refine⟨_,?_,.int _ _ _ rfl⟩;simp only[Go.execOp];refine fU ?_;simp only[qa,Op.unary];simpa[Go.binOp,SI.den]using this
   ·cases hl
  ·cases hl
 |convert src dst x=>
  simp only[kb]at hp;split at hp
  ·rename_i px k0 k hx hs hd;cases hp;simp only[lightOp]at hl;split at hl
   ·rename_i k1 n hb;cases hl;have hv:=hE x (by simp[Op.operands]) px _ hx hb;generalize qa:ev x=xx at hv;cases hv with|int _ _ n' hn=>
    refine⟨.int k (k.wrap n'),?_,.int _ _ _ (by rw[←hn];simp only[SI.den,dx])⟩;simp only[Go.execOp];refine fU ?_;simp[qa,Go.convert,av hs,av hd,Conv.intToInt]
   ·cases hl
  ·split at hp
   ·cases hp;simp[lightOp]at hl
   ·cases hp
  ·cases hp
 |sliceToArrayPointer t x=>simp[kb]at hp
 |makeInterface t x=>
  simp only[kb]at hp;split at hp
  ·cases hp
  ·cases hp
  ·rename_i d hn hu;obtain⟨px,hx,rfl⟩:=map_some hp;simp only[lightOp]at hl;split at hl
   ·rename_i v hb;cases hl;have hv:=hE x (by simp[Op.operands]) px _ hx hb;refine⟨.iface t (ev x),?_,.iface _ _ _ hv⟩;simp only[Go.execOp];refine fU ?_;simp only[Instr.makeInterface,sN,av hu,pY];cases d<;>first|rfl|exact absurd rfl (hn _)
   ·cases hl
 |makeFunc f first cap=>
  cases f with
  |func f=>
   simp only[kb]at hp;split at hp
   ·rename_i pf pc h1 h2;cases hp;simp only[lightOp]at hl;split at hl
    ·rename_i la lc ha hc;cases hl;have e1:=mY (ev:=ev) h1 ha (hE.sub fun y hy=>by simp[Op.operands]at hy ⊢;exact .inl hy);have e2:=mY (ev:=ev) h2 hc (hE.sub fun y hy=>by simp[Op.operands]at hy ⊢;exact .inr hy);refine⟨.func (.func f) (first.map ev) (cap.map ev),?_,.fn _ _ _ _ _ (by simpa using e1) (by simpa using e2)⟩;simp[Go.execOp,Instr.makeFunc]
    ·cases hl
   ·cases hp
  |method n=>simp[kb]at hp
  |methodOf t n=>simp[kb]at hp
  |via t p f b=>simp[kb]at hp
  |yield l=>simp[kb]at hp
 |makeMap t r=>cases r<;>simp[kb]at hp;subst hp;simp[lightOp]at hl
 |makeChan t s=>simp[kb]at hp
 |makeSlice t l c=>
  simp only[kb]at hp
  repeat' (first|replace hp:=(aT hp).2|split at hp)
  all_goals cases hp<;>simp[lightOp]at hl
 |slice t x lo hi mx=>
  cases mx with
  |some m=>simp[kb]at hp
  |none=>
   have asv:∀x',lo=some x'→x'∈(Op.slice t x lo hi none).operands.toList:=by intro x' e;subst e;simp[Op.operands]
   have asw:∀x',hi=some x'→x'∈(Op.slice t x lo hi none).operands.toList:=by intro x' e;subst e;simp[Op.operands]
   simp only[kb]at hp;split at hp
   ·rename_i px plo phi hx vk hhi;split at hp
    ·rename_i hu;cases hp;simp only[lightOp]at hl;split at hl
     ·rename_i n c hb;split at hl
      ·rename_i l r Ri hr1;replace hl:=aT hl;obtain⟨IG,hl⟩:=hl;cases hl;simp only[kW,Nat.ble_eq]at IG;have hv:=hE x (by simp[Op.operands]) px _ hx hb;generalize qa:ev x=xx at hv;cases hv with|str _ _ s hs hs'=>
       have xL:s.size=n:=by rw[Lib.size_eq];exact hs
       have b1:=kr vk Ri hE asv;have b2:=kr hhi hr1 hE asw;have hb:=qb (P:=P) (w:=w) (isSlice:=false) (len:=s.size) (cap:=s.size) (l:=l) (r:=r) (lo:=lo.map ev) (hi:=hi.map ev)
        (by rcases b1 with⟨e,e'⟩|⟨x',k,e,e'⟩<;>subst e<;>simp[e']) (by rcases b2 with⟨e,e'⟩|⟨x',k,e,e'⟩<;>subst e<;>simp[e',xL]) IG.1 (by omega) (gi _)
       refine⟨.string (s.extract l r),?_,.str _ _ _ ?_ ?_⟩
       ·simp only[Go.execOp];refine fU ?_;simp only[qa,Instr.sliceAt,sN,av hu,pY,Instr.slice,Option.map_none,Option.isSome_none,WA,if_false,hb,wY]
       ·rw[Lib.extract_data];simp;omega
       ·rw[Lib.extract_data,aog,abG,hs'];show _=Nat.mod (Nat.shiftRight c (8*l)) (Nat.pow 2 (8*(r-l)));have e1:Nat.shiftRight c (8*l)=c / 2^(8*l):=Nat.shiftRight_eq_div_pow _ _;have e2:Nat.pow 2 (8*(r-l))=256^(r-l):=YU (r-l);rw[e1,e2,YU];rfl
      ·cases hl
     ·cases hl
    ·rename_i e hu;split at hp
     ·rename_i ie Nb;replace hp:=aT hp;obtain⟨SM,hp⟩:=hp;cases hp;simp only[lightOp]at hl;split at hl
      ·rename_i b off len KM hb;split at hl
       ·rename_i l r Ri hr1;replace hl:=aT hl;obtain⟨IG,hl⟩:=hl;cases hl;simp only[kW,Nat.ble_eq]at IG;have Tz:=pZ IG.2;subst Tz;have hv:=hE x (by simp[Op.operands]) px _ hx hb;generalize qa:ev x=xx at hv;cases hv with|slice _ _ _ _ cap lc ad hm Bh hlen rk=>
        have b1:=kr vk Ri hE asv;have b2:=kr hhi hr1 hE asw;have hb:=qb (P:=P) (w:=w) (isSlice:=true) (len:=len) (cap:=cap) (l:=l) (r:=r) (lo:=lo.map ev) (hi:=hi.map ev)
         (by rcases b1 with⟨e,e'⟩|⟨x',k,e,e'⟩<;>subst e<;>simp[e']) (by rcases b2 with⟨e,e'⟩|⟨x',k,e,e'⟩<;>subst e<;>simp[e']) IG.1.1 IG.1.2 hlen
        have UL:l≤cap:=by omega
        refine⟨.slice (if cap=l then some ad else some (ad.add (l*ie.size))) (r-l) (cap-l),?_,?_⟩
        ·simp only[Go.execOp];refine fU ?_;simp only[qa,Instr.sliceAt,sN,av hu,pY,Instr.slice,Option.map_none,hb,bC Nb,wY,Option.map_some]
        ·have adP:off+l*ie.size+(cap-l)*ie.size=lc.ext:=by rw[←Bh,Nat.add_assoc,←Nat.add_mul];congr 2;omega
         by_cases he:cap=l
         ·rw[if_pos he];exact .slice b _ _ _ _ lc ad hm adP (by omega) (.inl (by omega))
         ·rw[if_neg he];refine .slice b _ _ _ _ lc _ hm adP (by omega) (.inr ?_);rcases rk with h0|h0
          ·omega
          ·subst h0;rw[rp];simp[Nat.add_assoc]
       ·cases hl
      ·rename_i hb;split at hl
       ·rename_i l r Ri hr1;replace hl:=aT hl;obtain⟨IG,hl⟩:=hl;cases hl;simp only[kW]at IG;have h0:=pZ IG.1;have h1:=pZ IG.2;subst h0 h1;have hv:=hE x (by simp[Op.operands]) px _ hx hb;generalize qa:ev x=xx at hv;cases hv;have b1:=kr vk Ri hE asv;have b2:=kr hhi hr1 hE asw;have hb:=qb (P:=P) (w:=w) (isSlice:=true) (len:=0) (cap:=0) (l:=0) (r:=0) (lo:=lo.map ev) (hi:=hi.map ev)
         (by rcases b1 with⟨e,e'⟩|⟨x',k,e,e'⟩<;>subst e<;>simp[e']) (by rcases b2 with⟨e,e'⟩|⟨x',k,e,e'⟩<;>subst e<;>simp[e']) (gi _) (gi _) (gi _)
        refine⟨.slice none 0 0,?_,.nils⟩;simp only[Go.execOp];refine fU ?_;simp only[qa,Instr.sliceAt,sN,av hu,pY,Instr.slice,Option.map_none,hb,bC Nb,wY,if_true]
       ·cases hl
      ·rename_i L len KM fl hb;split at hl
       ·rename_i l r Ri hr1;replace hl:=aT hl;obtain⟨IG,hl⟩:=hl;simp only[kW,Nat.ble_eq]at IG;have Tz:=pZ IG.2;subst Tz;rw[takeC_eq,dropL_eq]at hl;split at hl
        ·rename_i WT;cases hl;have hv:=hE x (by simp[Op.operands]) px _ hx hb;generalize qa:ev x=xx at hv;cases hv with|sl _ _ _ _ cap c o ad vs tU hn hle rk hf hg=>
         have b1:=kr vk Ri hE asv;have b2:=kr hhi hr1 hE asw;have hb:=qb (P:=P) (w:=w) (isSlice:=true) (len:=len) (cap:=cap) (l:=l) (r:=r) (lo:=lo.map ev) (hi:=hi.map ev)
          (by rcases b1 with⟨e,e'⟩|⟨x',k,e,e'⟩<;>subst e<;>simp[e']) (by rcases b2 with⟨e,e'⟩|⟨x',k,e,e'⟩<;>subst e<;>simp[e']) IG.1.1 IG.1.2 hle
         refine⟨.slice (if cap=l then some ad else some (ad.add (l*ie.size))) (r-l) (cap-l),?_,?_⟩
         ·simp only[Go.execOp];refine fU ?_;simp only[qa,Instr.sliceAt,sN,av hu,pY,Instr.slice,Option.map_none,hb,bC Nb,wY,Option.map_some]
         ·have ahT:((L.drop (l*ie.size)).take ((r-l)*ie.size)).length=(r-l)*ie.size:=by rw[zqy];omega
          have hfl:SX μ c (o+l*ie.size) (r-l) (cap-l) ie.size (bif Nat.beq r len then fl else .any):=by
           cases hrl:Nat.beq r len with
           |false=>trivial
           |true=>
            have hrl:=pZ hrl;subst hrl;cases fl with
            |any=>trivial
            |tok tb=>
             have hg:μ tb=some ⟨c,o+r*ie.size,(cap-r)*ie.size⟩:=hg;show μ tb=some ⟨c,o+l*ie.size+(r-l)*ie.size,(cap-l-(r-l))*ie.size⟩;rw[hg];have e1:o+r*ie.size=o+l*ie.size+(r-l)*ie.size:=by rw[Nat.add_assoc,←Nat.add_mul];congr 2;omega
             have e2:cap-r=cap-l-(r-l):=by omega
             rw[e1,e2]
          by_cases he:cap=l
          ·rw[if_pos he];exact .sl _ _ _ _ _ c (o+l*ie.size) ad _ ((tU.drop _).take _) ahT (by omega) (.inl (by omega)) (XO (FH hf _) _) hfl
          ·rw[if_neg he];refine .sl _ _ _ _ _ c (o+l*ie.size) _ _ ((tU.drop _).take _) ahT (by omega) (.inr ?_) (XO (FH hf _) _) hfl;rcases rk with h0|h0
           ·omega
           ·subst h0;rw[rp]
        ·cases hl
       ·cases hl
      ·cases hl
     ·cases hp
    ·cases hp
   ·cases hp
 |fieldAddr s x f=>
  simp only[kb]at hp;split at hp
  ·rename_i fs hu;split at hp
   ·rename_i fd YI;split at hp
    ·rename_i i px hi hx;cases hz:Nat.beq i.size 0 with
     |true=>rw[hz]at hp;cases hp
     |false=>
      rw[hz]at hp;simp only[cond_false,dS]at hp;subst hp;have xL:i.size≠0:=by intro e;rw[e]at hz;cases hz
      simp only[lightOp]at hl;split at hl
      ·rename_i b o hb;cases hl;have hv:=hE x (by simp[Op.operands]) px _ hx hb;generalize qa:ev x=xx at hv;cases hv with|ptr _ _ l ad hm rk=>
       subst rk;refine⟨.pointer (some ⟨l.c,l.base+(o+fd.offset),none⟩),?_,.ptr _ _ l _ hm rfl⟩;simp only[Go.execOp];refine fU ?_;simp only[qa,Instr.fieldAt,sN,av hu,pY,YI,Instr.sureAddr,wY,fieldPlace,bC hi,Sem.run_ite,xL,if_false,rp,Nat.add_assoc]
      ·rename_i l hb;cases hl;have hv:=hE x (by simp[Op.operands]) px _ hx hb;generalize qa:ev x=xx at hv;cases hv with|cref _ c o ad vs hr rk hf=>
       subst rk;rw[dropL_eq];refine⟨.pointer (some ⟨c,o+fd.offset,none⟩),?_,.cref _ c (o+fd.offset) _ _ (hr.drop _) rfl (FH hf _)⟩;simp only[Go.execOp];refine fU ?_;simp only[qa,Instr.fieldAt,sN,av hu,pY,YI,Instr.sureAddr,wY,fieldPlace,bC hi,Sem.run_ite,xL,if_false,rp]
      ·cases hl
    ·cases hp
   ·cases hp
  ·cases hp
 |field t x f=>
  simp only[kb]at hp;split at hp
  ·rename_i fs hu;split at hp
   ·rename_i fd YI;split at hp
    ·rename_i ti px hti hx;obtain⟨i,d,z,hi,hd,hz,YT,xL,Rg⟩:=lf hti;cases hp;simp only[lightOp]at hl;split at hl
     ·rename_i L hb;have hv:=hE x (by simp[Op.operands]) px _ hx hb;generalize qa:ev x=xx at hv;cases hv with|agg _ vs hL=>
      rw[Rg,xL]at hl;obtain⟨v,hv,hr⟩:=Rh (P:=P) (w:=w) hi hd hL hl;refine⟨v,?_,hr⟩;simp only[Go.execOp];refine fU ?_;simp only[qa,Instr.field,sN,av hu,pY,YI,asAgg,wY,hv]
     ·cases hl
    ·cases hp
   ·cases hp
  ·cases hp
 |indexAddr t x ix=>
  simp only[kb]at hp;split at hp
  ·rename_i len e px pi hu hx PJ;split at hp
   ·rename_i ie Nb;replace hp:=aT hp;obtain⟨SM,hp⟩:=hp;cases hp;simp only[lightOp]at hl;split at hl
    ·rename_i b o vi hb Wv;split at hl
     ·rename_i j hj;replace hl:=aT hl;obtain⟨dn,hl⟩:=hl;cases hl;rw[bltN_eq,decide_eq_true_eq]at dn;have hv:=hE x (by simp[Op.operands]) px _ hx hb;obtain⟨k,hk⟩:=jn hj (hE ix (by simp[Op.operands]) pi _ PJ Wv);generalize qa:ev x=xx at hv;cases hv with|ptr _ _ l ad hm rk=>
      subst rk;refine⟨.pointer (some ⟨l.c,l.base+(o+j*ie.size),none⟩),?_,.ptr _ _ l _ hm rfl⟩;simp only[Go.execOp];refine fU ?_;have hr:(0:Int)≤(j:Int)∧(j:Int)<(len:Int):=by omega
      simp only[qa,hk,Instr.indexAt,asIntOf,sN,av hu,pY,Instr.sureAddr,wY,hr,and_self,if_true,bC Nb,rp,Int.toNat_natCast,Nat.add_assoc]
     ·cases hl
    ·rename_i L vi hb Wv;split at hl
     ·rename_i j hj;replace hl:=aT hl;obtain⟨dn,hl⟩:=hl;cases hl;rw[bltN_eq,decide_eq_true_eq]at dn;have hv:=hE x (by simp[Op.operands]) px _ hx hb;obtain⟨k,hk⟩:=jn hj (hE ix (by simp[Op.operands]) pi _ PJ Wv);generalize qa:ev x=xx at hv;cases hv with|cref _ c o ad vs tU rk hf=>
      subst rk;rw[dropL_eq];refine⟨.pointer (some ⟨c,o+j*ie.size,none⟩),?_,.cref _ c (o+j*ie.size) _ _ (tU.drop _) rfl (FH hf _)⟩;simp only[Go.execOp];refine fU ?_;have hr:(0:Int)≤(j:Int)∧(j:Int)<(len:Int):=by omega
      simp only[qa,hk,Instr.indexAt,asIntOf,sN,av hu,pY,Instr.sureAddr,wY,hr,and_self,if_true,bC Nb,rp,Int.toNat_natCast]
     ·cases hl
    ·cases hl
   ·cases hp
  ·rename_i e px pi hu hx PJ;split at hp
   ·rename_i ie Nb;replace hp:=aT hp;obtain⟨SM,hp⟩:=hp;cases hp;simp only[lightOp]at hl;split at hl
    ·rename_i b off len KM vi hb Wv;split at hl
     ·rename_i j hj;replace hl:=aT hl;obtain⟨dn,hl⟩:=hl;cases hl;simp only[kW]at dn;have Tz:=pZ dn.2;subst Tz;have dn:=dn.1;rw[bltN_eq,decide_eq_true_eq]at dn;have hv:=hE x (by simp[Op.operands]) px _ hx hb;obtain⟨k,hk⟩:=jn hj (hE ix (by simp[Op.operands]) pi _ PJ Wv);generalize qa:ev x=xx at hv;cases hv with|slice _ _ _ _ cap l ad hm Bh hlen rk=>
      have rk:ad=⟨l.c,l.base+off,none⟩:=rk.resolve_left (by omega);subst rk;refine⟨.pointer (some ⟨l.c,l.base+(off+j*ie.size),none⟩),?_,.ptr _ _ l _ hm rfl⟩;simp only[Go.execOp];refine fU ?_;have hr:(0:Int)≤(j:Int)∧(j:Int)<(len:Int):=by omega
      simp only[qa,hk,Instr.indexAt,asIntOf,sN,av hu,pY,wY,hr,and_self,if_true,bC Nb,rp,Int.toNat_natCast,Nat.add_assoc]
     ·cases hl
    ·rename_i L len KM fl vi hb Wv;split at hl
     ·rename_i j hj;replace hl:=aT hl;obtain⟨dn,hl⟩:=hl;simp only[kW]at dn;have Tz:=pZ dn.2;subst Tz;have dn:=dn.1;rw[bltN_eq,decide_eq_true_eq]at dn;rw[takeC_eq,dropL_eq]at hl;split at hl
      ·rename_i WT;cases hl;have hv:=hE x (by simp[Op.operands]) px _ hx hb;obtain⟨k,hk⟩:=jn hj (hE ix (by simp[Op.operands]) pi _ PJ Wv);generalize qa:ev x=xx at hv;cases hv with|sl _ _ _ _ cap c o ad vs tU hn hle rk hf hg=>
       have rk:ad=⟨c,o,none⟩:=rk.resolve_left (by omega);subst rk;refine⟨.pointer (some ⟨c,o+j*ie.size,none⟩),?_,.cref _ c (o+j*ie.size) _ _ ((tU.drop _).take _) rfl (XO (FH hf _) _)⟩;simp only[Go.execOp];refine fU ?_;have hr:(0:Int)≤(j:Int)∧(j:Int)<(len:Int):=by omega
       simp only[qa,hk,Instr.indexAt,asIntOf,sN,av hu,pY,wY,hr,and_self,if_true,bC Nb,rp,Int.toNat_natCast]
      ·cases hl
     ·cases hl
    ·cases hl
   ·cases hp
  ·cases hp
 |index t x ix=>
  simp only[kb]at hp;split at hp
  ·rename_i px pi hu hx PJ;cases hp;simp only[lightOp]at hl;split at hl
   ·rename_i n c vi hb Wv;split at hl
    ·rename_i j hj;replace hl:=aT hl;obtain⟨dn,hl⟩:=hl;cases hl;rw[bltN_eq,decide_eq_true_eq]at dn;have hv:=hE x (by simp[Op.operands]) px _ hx hb;obtain⟨k,hk⟩:=jn hj (hE ix (by simp[Op.operands]) pi _ PJ Wv);generalize qa:ev x=xx at hv;cases hv with|str _ _ s hs hs'=>
     have fu:j<s.data.toList.length:=by omega
     have hjs:s[j]?=some s.data.toList[j]:=by
      have:j<s.size:=by rw[Lib.size_eq];exact fu
      rw[getElem?_pos s j this];rfl
     refine⟨.int .u8 (s.data.toList[j]).toNat,?_,.int _ _ _ ?_⟩
     ·simp only[Go.execOp];refine fU ?_;have h0:(0:Int)≤(j:Int):=by omega
      simp only[qa,hk,Instr.index,asIntOf,sN,wY,av hu,pY,h0,if_true,Int.toNat_natCast,hjs]
     ·simp only[SI.den];show((Nat.mod (Nat.shiftRight c (8*j)) 256:Nat):Int)=_;have e1:Nat.shiftRight c (8*j)=c / 2^(8*j):=Nat.shiftRight_eq_div_pow _ _;rw[e1,YU,←hs'];have:=asx s.data.toList j fu;show((enc s.data.toList / 256^j%256:Nat):Int)=_;rw[this]
    ·cases hl
   ·cases hl
  ·rename_i len e px pi hu hx PJ;split at hp
   ·rename_i ti hti;obtain⟨i,d,z,hi,hd,hz,YT,xL,Rg⟩:=lf hti;cases hp;simp only[lightOp]at hl;split at hl
    ·rename_i L vi hb Wv;split at hl
     ·rename_i j hj;replace hl:=aT hl;obtain⟨dn,hl⟩:=hl;rw[bltN_eq,decide_eq_true_eq]at dn;have hv:=hE x (by simp[Op.operands]) px _ hx hb;obtain⟨k,hk⟩:=jn hj (hE ix (by simp[Op.operands]) pi _ PJ Wv);generalize qa:ev x=xx at hv;cases hv with|agg _ vs hL=>
      rw[Rg,xL]at hl;obtain⟨v,hv,hr⟩:=Rh (P:=P) (w:=w) hi hd hL hl;refine⟨v,?_,hr⟩;simp only[Go.execOp];refine fU ?_;have hr:(0:Int)≤(j:Int)∧(j:Int)<(len:Int):=by omega
      simp only[qa,hk,Instr.index,asIntOf,sN,wY,av hu,pY,hr,and_self,if_true,bC hi,Int.toNat_natCast,hv]
     ·cases hl
    ·cases hl
   ·cases hp
  ·cases hp
 |lookup t m k ok=>
  simp only[kb]at hp;split at hp
  ·rename_i kt e hu;have main:∀(sk:Bool) (kd:TypeDesc) (ti:TI) (pm pk:PX),Dt P kt sk kd→tyI P e=some ti→pX P nt m=some pm→pX P nt k=some pk→op=.lookup sk ti.zero ok pm pk→
     ∃v,(Go.execOp ev ⟨dst,.lookup t m k ok,ty,pos,after,guard⟩).run P w=.ok (.value v) w∧aU ρ μ a v:=by
    intro sk kd ti pm pk EU hti hm hk e';subst e';obtain⟨i,d,z,hi,hd,hz,YT,xL,Rg⟩:=lf hti;simp only[lightOp]at hl;split at hl
    ·rename_i b ka hb hka;split at hl
     ·rename_i L hL;have hvm:=hE m (by simp[Op.operands]) pm _ hm hb;have hvk:=hE k (by simp[Op.operands]) pk _ hk hka;generalize hmm:ev m=mm at hvm;cases hvm with|map _ l r C8 hr=>
      subst hr;obtain⟨l',o',h1,h2,h3⟩:=hM.wa b _ (hH _ _ hL);rw[C8]at h1;cases h1;cases h3 with|map _ _ es clock YV=>
      have EY:(getObj l.c).run P w=.ok (.map es clock) w:=by simp[getObj,Sem.run,h2]
      have aDd:∀f,Instr.findNow kd (ev k) es.toList 0=some f→∀v okv,(match f with|some (_,v')=>v'=v∧okv=true|none=>z=v∧okv=false)→
        (Go.execOp ev ⟨dst,.lookup t m k ok,ty,pos,after,guard⟩).run P w=.ok (.value (if ok then .tuple #[v,.bool okv]else v)) w:=by
       intro f hf v okv hfv;simp only[Go.execOp];refine fU ?_;simp only[hmm,Instr.lookup,sN,av hu,pY,EY,wY,run_checkKey EU _ 9999,run_findKey EU.1 hf];cases f with
       |none=>obtain⟨rfl,rfl⟩:=hfv;simp[qB hi hz]
       |some p=>obtain⟨j,v'⟩:=p;obtain⟨rfl,rfl⟩:=hfv;simp
      split at hl
      ·rename_i v hf;obtain⟨f,hf1,hf2⟩:=Hf ho EU hvk 0 YV hf;cases f with
       |none=>exact hf2.elim
       |some p=>
        obtain⟨j,v'⟩:=p;have:=aDd _ hf1 v' true ⟨rfl,rfl⟩;cases hl;refine⟨_,this,?_⟩;cases ok with
        |true=>exact .tuple _ _ (.cons _ _ _ _ hf2 (.one (.bool _)))
        |false=>exact hf2
      ·rename_i hf;obtain⟨f,hf1,hf2⟩:=Hf ho EU hvk 0 YV hf;cases f with
       |some p=>exact hf2.elim
       |none=>
        have:=aDd _ hf1 z false ⟨rfl,rfl⟩;cases hl;refine⟨_,this,?_⟩;cases ok with
        |true=>exact .tuple _ _ (.cons _ _ _ _ (jd we z ti.zero YT) (.one (.bool _)))
        |false=>exact jd we z ti.zero YT
      ·cases hl
     ·cases hl
    ·cases hl
   split at hp
   ·simp only[dS]at hp;exact main false _ _ _ _ ⟨‹_›,by simp⟩ ‹_› ‹_› ‹_› hp.symm
   ·simp only[dS]at hp;exact main true _ _ _ _ ⟨‹_›,by simp⟩ ‹_› ‹_› ‹_› hp.symm
   ·cases hp
  ·cases hp
 |mapUpdate t m k v=>
  simp only[kb]at hp
  repeat' (first|replace hp:=(aT hp).2|split at hp)
  all_goals cases hp<;>simp[lightOp]at hl
 |mapEntry t m k=>simp[kb]at hp
 |entryStore t m k v=>simp[kb]at hp
 |range t x=>simp[kb]at hp
 |next it s=>simp[kb]at hp
 |entry it=>simp[kb]at hp
 |typeAssert x xt t ok=>
  simp only[kb]at hp;split at hp
  ·cases hp
  ·rename_i d ti px hn hu hti hx;obtain⟨i,d',z,hi,hd,hz,YT,xL,Rg⟩:=lf hti;cases hp;simp only[lightOp]at hl;split at hl
   ·rename_i t' u hb;have hv:=hE x (by simp[Op.operands]) px _ hx hb;generalize qa:ev x=xx at hv;cases hv with|iface _ _ vv hvv=>
    have gD : ∀ r, (if t' = t then (pure (if ok then .tuple #[vv, .bool true] else vv) : Sem Value) else (if ok then do pure (.tuple #[← zeroValue t, .bool false]) else runtimePanic (.typeAssertion (some xt) (some t') t ""))).run P w = .ok r w →
      (Go.execOp ev ⟨dst,.typeAssert x xt t ok,ty,pos,after,guard⟩).run P w=.ok (.value r) w:=by
     intro r hr;simp only[Go.execOp];refine fU ?_;simp only[qa,Instr.typeAssert,sN,av hu,pY];cases d<;>first|exact absurd rfl (hn _ _ _)|exact hr
    cases ok with
    |true=>
     simp only[cond_true]at hl;cases ht:Nat.beq t t' with
     |true=>rw[ht]at hl;simp only[cond_true,dS]at hl;subst hl;have:=pZ ht;subst this;exact⟨_,gD _ (by simp),.tuple _ _ (.cons _ _ _ _ hvv (.one (.bool _)))⟩
     |false=>
      rw[ht]at hl;simp only[cond_false,dS]at hl;subst hl;have cp:¬t'=t:=by intro e;subst e;simp[beqN_eq]at ht
      exact⟨_,gD (.tuple #[z,.bool false]) (by simp[cp,qB hi hz]),.tuple _ _ (.cons _ _ _ _ (jd we z ti.zero YT) (.one (.bool _)))⟩
    |false=>simp only[cond_false]at hl;replace hl:=aT hl;obtain⟨ht,hl⟩:=hl;cases hl;have:=pZ ht;subst this;exact⟨_,gD _ (by simp),hvv⟩
   ·cases hl
  ·cases hp
 |extract x i=>
  simp only[kb]at hp;split at hp
  ·rename_i px hx;cases hp;simp only[lightOp]at hl;split at hl
   ·rename_i L hb;have hv:=hE x (by simp[Op.operands]) px _ hx hb;generalize qa:ev x=xx at hv;cases hv with|tuple _ vs hL=>
    rw[nth_eq]at hl;obtain⟨v,hv,hr⟩:=hL.get i a hl;have hvi:vs[i]?=some v:=by simpa using hv
    exact⟨v,by simp[Go.execOp,qa,Instr.extract,hvi],hr⟩
   ·cases hl
  ·cases hp
 |call c=>
  obtain⟨callee,args,argTypes⟩:=c;simp only[kb]at hp;split at hp
  ·split at hp
   ·replace hp:=aT hp;obtain⟨_,hp⟩:=hp;cases hp;simp[lightOp]at hl
   ·cases hp
  ·split at hp
   ·cases hp;simp[lightOp]at hl
   ·cases hp
  ·cases hp
  ·rename_i b;have hex:∀(X:Sem Value),Go.builtin b argTypes ty (args.map fun|.const _=>true|_=>false) (args.map ev)=(do pure (.value (←X)))→
     Go.execOp ev ⟨dst,.call ⟨.builtin b,args,argTypes⟩,ty,pos,after,guard⟩=(do pure (.value (←X))):=by
    intro X hX;rw[←hX];rfl
   have mx:∀(isMax:Bool) (pa pb:PX),Q1 P nt args.toList=some [pa,pb]→b=(if isMax then .max else .min)→op=.mx isMax pa pb→
     ∃v,(Go.execOp ev ⟨dst,.call ⟨.builtin b,args,argTypes⟩,ty,pos,after,guard⟩).run P w=.ok (.value v) w∧aU ρ μ a v:=by
    intro isMax pa pb hpx hb pE;obtain⟨X,Y,eu,hX,hY⟩:=ahY hpx;have aeL:args=#[X,Y]:=by apply Array.ext';simpa using eu
    subst aeL pE;simp only[lightOp]at hl;split at hl
    ·rename_i k1 s1 k2 s2 h1 h2;replace hl:=aT hl;obtain⟨hk,hl⟩:=hl;have:=uk hk;subst this;have hv1:=hE X (by simp[Op.operands,Call.operands]) pa _ hX h1;have hv2:=hE Y (by simp[Op.operands,Call.operands]) pb _ hY h2;generalize qa:ev X=xx at hv1;generalize hyy:ev Y=yy at hv2;cases hv1 with|int _ _ n1 e1=>cases hv2 with|int _ _ n2 e2=>
     cases isMax with
     |true=>
      simp only[if_true]at hb;subst hb;simp only[cond_true]at hl;have gD:∀r:Bool,Is orc .gtr s2 s1=some r→(Go.execOp ev ⟨dst,.call ⟨.builtin .max,#[X,Y],argTypes⟩,ty,pos,after,guard⟩).run P w=.ok (.value (.int k1 (if r then n2 else n1))) w:=by intro r hr;have hc:=y0 ho hr;rw[e1,e2]at hc;simp only[fC,dS]at hc;rw[hex (Builtin.max_ argTypes ty (#[X,Y].map ev)) rfl];refine fU ?_;subst hc;simp[Builtin.max_,qa,hyy,Builtin.max2]
      split at hl
      ·rename_i hr;cases hl;exact⟨_,gD _ hr,.int _ _ _ e2⟩
      ·rename_i hr;cases hl;exact⟨_,gD _ hr,.int _ _ _ e1⟩
      ·cases hl
     |false=>
      simp only[WA,if_false]at hb;subst hb;simp only[cond_false]at hl;have gD:∀r:Bool,Is orc .lss s2 s1=some r→(Go.execOp ev ⟨dst,.call ⟨.builtin .min,#[X,Y],argTypes⟩,ty,pos,after,guard⟩).run P w=.ok (.value (.int k1 (if r then n2 else n1))) w:=by intro r hr;have hc:=y0 ho hr;rw[e1,e2]at hc;simp only[fC,dS]at hc;rw[hex (Builtin.min_ argTypes ty (#[X,Y].map ev)) rfl];refine fU ?_;subst hc;simp[Builtin.min_,qa,hyy,Builtin.min2]
      split at hl
      ·rename_i hr;cases hl;exact⟨_,gD _ hr,.int _ _ _ e2⟩
      ·rename_i hr;cases hl;exact⟨_,gD _ hr,.int _ _ _ e1⟩
      ·cases hl
    ·cases hl
   split at hp
   ·rename_i px hpx;obtain⟨X,eu,hX⟩:=ahX hpx;have aeL:args=#[X]:=by apply Array.ext';simpa using eu
    subst aeL;split at hp
    ·rename_i t hty;have asz:argTypes=#[t]:=by apply Array.ext';simpa using hty
     subst asz;rw[hex (Builtin.len_ #[t] ty (#[X].map ev)) rfl];split at hp
     ·rename_i hu;cases hp;simp only[lightOp]at hl;split at hl
      ·rename_i n c hb;cases hl;have hv:=hE X (by simp[Op.operands,Call.operands]) px _ hX hb;generalize qa:ev X=xx at hv;cases hv with|str _ _ s hs hs'=>
       refine⟨goInt s.size,?_,.int _ _ _ (by rw[Lib.size_eq,hs];rfl)⟩;refine fU ?_;simp[Builtin.len_,qa,av hu]
      ·cases hl
     ·rename_i e hu;cases hp;simp only[lightOp]at hl;split at hl
      ·rename_i hb;cases hl;have hv:=hE X (by simp[Op.operands,Call.operands]) px _ hX hb;generalize qa:ev X=xx at hv;cases hv;refine⟨_,?_,.int _ _ _ rfl⟩;refine fU ?_;simp[Builtin.len_,qa,av hu,goInt,SI.den]
      ·rename_i hb;cases hl;have hv:=hE X (by simp[Op.operands,Call.operands]) px _ hX hb;generalize qa:ev X=xx at hv;cases hv;refine⟨_,?_,.int _ _ _ rfl⟩;refine fU ?_;simp[Builtin.len_,qa,av hu,goInt,SI.den]
      ·rename_i hb;cases hl;have hv:=hE X (by simp[Op.operands,Call.operands]) px _ hX hb;generalize qa:ev X=xx at hv;cases hv;refine⟨_,?_,.int _ _ _ rfl⟩;refine fU ?_;simp[Builtin.len_,qa,av hu,goInt,SI.den]
      ·cases hl
     ·cases hp
    ·cases hp
   ·repeat' (first|replace hp:=(aT hp).2|split at hp)
    all_goals cases hp<;>simp[lightOp]at hl
   ·simp only[dS]at hp;exact mx true _ _ ‹_› rfl hp.symm
   ·simp only[dS]at hp;exact mx false _ _ ‹_› rfl hp.symm
   ·cases hp;simp[lightOp]at hl
   ·cases hp
 |go c=>simp[kb]at hp
 |defer c=>
  simp only[kb]at hp
  repeat' (first|replace hp:=(aT hp).2|split at hp)
  all_goals cases hp<;>simp[lightOp]at hl
 |panic x=>obtain⟨px,hx,rfl⟩:=map_some hp;simp[lightOp]at hl
 |send c x=>simp[kb]at hp
 |recv t c ok=>simp[kb]at hp
 |select cs b=>simp[kb]at hp
end
end Go.Sx
