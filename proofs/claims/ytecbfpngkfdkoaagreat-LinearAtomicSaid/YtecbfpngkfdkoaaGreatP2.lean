/- A part of the proof. No condition. -/
import Derived.Test.YtecbfpngkfdkoaaGreatP1
import GoSem.Dispatch
import Derived.Laws.StructEq
import Derived.Lib.Strings
import Derived.ChangeKeysEq
set_option linter.unusedSimpArgs false
set_option linter.unusedVariables false
set_option linter.unusedSectionVars false
namespace Go.Sx
open Go.RowKit
section
variable{P:Program}{w:World}
theorem az{t:TypeId}{d:TypeDesc}(h:P.underlying t=some d):(underlying t).run P w=.ok d w:=by simp[underlying,h]
theorem kD{t:TypeId}{i:TypeInfo}(h:P.info? t=some i):(typeInfo t).run P w=.ok i w:=by simp[typeInfo,h]
theorem bG{t:TypeId}{i:TypeInfo}(h:P.info? t=some i):(sizeOf t).run P w=.ok i.size w:=by simp[sizeOf,kD h]
theorem qc{t:TypeId}{i:TypeInfo}{z:Value}(h:P.info? t=some i)(hz:i.zero=some z):(zeroValue t).run P w=.ok z w:=by simp[zeroValue,kD h,hz]
def UQ:TypeDesc→Bool
 |.struct _=>true
 |.array _ _=>true
 |_=>false
theorem y0{t:TypeId}{d:TypeDesc}(h:P.underlying t=some d):(isAgg t).run P w=.ok (UQ d) w:=by simp only[isAgg,sJ,az h,o4];cases d<;>rfl
end
theorem kq{P:Program}{t:TypeId}{ti:TI}(h:tyI P t=some ti) :
  ∃i d z,P.info? t=some i∧P.underlying t=some d∧i.zero=some z∧kY wN z=some ti.zero∧ti.size=i.size∧ti.agg=UQ d:=by
 unfold tyI at h;split at h
 ·rename_i i d hi hd;split at h
  ·rename_i z hz;split at h
   ·rename_i a ha;simp only[dP]at h;subst h;exact⟨i,d,z,hi,hd,hz,ha,rfl,by cases d<;>rfl⟩
   ·simp at h
  ·simp at h
 ·simp at h
section
variable{P:Program}{ρ:Nat→Int}{w0:W0}{w:World}{μ:Mu}{G:Key→Option ah}{nx:Nat}
theorem Cs{L:List AV}{base:Nat}{arr:Array Value}(hc:∀i a,L[i]?=some a→∃v,arr[base+i]?=some v∧aX ρ μ a v)
  (hs:base+L.length≤arr.size) {off n:Nat} (h:off+n≤L.length) :
  aB ρ μ ((L.drop off).take n) ((arr.toList.drop (base+off)).take n):=by
 refine aB.Ry ?_ ?_
 ·simp;omega
 ·intro i a ha;have hi:i<n:=by
   rcases KA i n with h'|h'
   ·exact h'
   ·rw[zqo (by simp;omega)]at ha;cases ha
  rw[List.getElem?_take_of_lt hi,List.getElem?_drop]at ha;obtain⟨v,hv,hr⟩:=hc (off+i) a ha;refine⟨v,?_,hr⟩;rw[List.getElem?_take_of_lt hi,List.getElem?_drop];simpa[Nat.add_assoc]using hv
theorem NL{off n:Nat}{L:List AV}{a:AV}(h:y8 true off n L=some a):a=.agg ((L.drop off).take n)∧(off+n≤L.length∨(n=0∧L.length<off)):=by
 simp only[y8,cond_true,takeC_eq,dropL_eq]at h;split at h
 ·rename_i hn;simp only[dP]at h;refine⟨h.symm,?_⟩;simp at hn;omega
 ·cases h
theorem NM{off n:Nat}{L:List AV}{a:AV}(h:y8 false off n L=some a):L[off]?=some a:=by simpa only[y8,cond_false,nth_eq]using h
theorem I7(hM:bB P ρ w0 μ G nx w){b:Key}{L:List AV}{k:CK}(hb:G b=some (.cells L k)){t:TypeId}{i:TypeInfo}{d:TypeDesc}
  (hi:P.info? t=some i) (hd:P.underlying t=some d) {off:Nat} {a:AV} (hp:y8 (UQ d) off i.size L=some a) {l:Loc} (hl:μ b=some l) :
  ∃v,(loadVar t ⟨l.c,l.base+off,none⟩).run P w=.ok v w∧aX ρ μ a v:=by
 obtain⟨l',arr,elem,fz,h1,h2,hc,hs,hle,_⟩:=hM.cells hb;rw[hl]at h1;cases h1;simp only[loadVar,sJ,y0 hd,o4];cases Rz:UQ d with
 |true=>
  rw[Rz]at hp;obtain⟨rfl,hn⟩:=NL hp;by_cases h0:i.size=0
  ·refine⟨.agg #[],?_,?_⟩
   ·simp[bG hi,h0,loadCells,loadCellsFrom]
   ·rw[h0];simp only[List.take_zero];exact .agg _ _ .nil
  ·have hn:off+i.size≤L.length:=by omega
   refine⟨.agg ((arr.toList.drop (l.base+off)).take i.size).toArray,?_,.agg _ _ ?_⟩
   ·simp only[if_true,sJ,bG hi,o4,nY P w l.c (l.base+off) arr elem fz h2 i.size (by omega),xA]
   ·simpa using Cs hc (by omega) hn
 |false=>rw[Rz]at hp;obtain⟨v,hv,hr⟩:=hc off a (NM hp);refine⟨v,?_,hr⟩;simp only[Wh,if_false,run_load,Q4 h2,hv]
theorem ZU(hM:bB P ρ w0 μ G nx w){c o:Nat}{vs:List Value}(hf:∀i v,vs[i]?=some v→μ.fz c (o+i)=some v)(bW:0<vs.length) :
  ∃arr elem f,w.heap[c]?=some (.cells arr elem f)∧∀i v,vs[i]?=some v→arr[o+i]?=some v:=by
 obtain⟨v,hv⟩:∃v,vs[0]?=some v:=⟨vs[0],by simp[bW]⟩;obtain⟨arr,elem,f,h1,_⟩:=hM.Xw _ _ _ (hf 0 v hv);refine⟨arr,elem,f,h1,fun i u hu=>?_⟩;obtain⟨KB,Wi,f',h2,h3⟩:=hM.Xw _ _ _ (hf i u hu);rw[h1]at h2;cases h2;exact h3
theorem Xx(hM:bB P ρ w0 μ G nx w){c o:Nat}{vs:List Value}(hf:∀i v,vs[i]?=some v→μ.fz c (o+i)=some v){n:Nat}(hn:n≤vs.length) :
  (loadCells ⟨c,o,none⟩ n).run P w=.ok (vs.take n).toArray w:=by
 by_cases h0:n=0
 ·subst h0;simp[loadCells,loadCellsFrom]
 ·obtain⟨arr,elem,f,h1,h2⟩:=ZU hM hf (by omega);have aAa:o+n≤arr.size:=by
   have h3:=h2 (n-1) vs[n-1] (by simp);rcases KA (o+(n-1)) arr.size with h'|h'
   ·omega
   ·rw[ZS h']at h3;cases h3
  rw[nY P w c o arr elem f h1 n aAa];congr 1;congr 1;apply List.ext_getElem?;intro i;by_cases hi:i<n
  ·rw[List.getElem?_take_of_lt hi,List.getElem?_take_of_lt hi,List.getElem?_drop];have hv:vs[i]?=some (vs[i]'(by omega)):=by simp
   rw[hv];simpa using h2 i _ hv
  ·rw[zqo (by simp;omega),zqo (by simp;omega)]
theorem GJ{c o:Nat}{vs:List Value}(hf:∀i v,vs[i]?=some v→μ.fz c (o+i)=some v)(off:Nat):∀i v,(vs.drop off)[i]?=some v→μ.fz c (o+off+i)=some v:=by intro i v h;rw[List.getElem?_drop]at h;rw[Nat.add_assoc];exact hf _ _ h
theorem Xy{c o:Nat}{vs:List Value}(hf:∀i v,vs[i]?=some v→μ.fz c (o+i)=some v)(n:Nat):∀i v,(vs.take n)[i]?=some v→μ.fz c (o+i)=some v:=by
 intro i v h;by_cases hi:i<n
 ·rw[List.getElem?_take_of_lt hi]at h;exact hf _ _ h
 ·rw[zqo (by simp;omega)]at h;cases h
theorem adM(hM:bB P ρ w0 μ G nx w){l:List AV}{vs:List Value}(hr:aB ρ μ l vs){c o:Nat}(hf:∀i v,vs[i]?=some v→μ.fz c (o+i)=some v){t:TypeId}{i:TypeInfo}{d:TypeDesc}
  (hi:P.info? t=some i) (hd:P.underlying t=some d) {a:AV} (hp:y8 (UQ d) 0 i.size l=some a) :
  ∃v,(loadVar t ⟨c,o,none⟩).run P w=.ok v w∧aX ρ μ a v:=by
 simp only[loadVar,sJ,y0 hd,o4];have hlen:=hr.length;cases Rz:UQ d with
 |true=>
  rw[Rz]at hp;obtain⟨rfl,hn⟩:=NL hp;have hn:i.size≤vs.length:=by omega
  refine⟨.agg (vs.take i.size).toArray,?_,.agg _ _ ?_⟩
  ·simp only[if_true,sJ,bG hi,o4,Xx hM hf hn,xA]
  ·simpa using hr.take i.size
 |false=>
  rw[Rz]at hp;obtain⟨v,hv,hvr⟩:=hr.get 0 a (NM hp);obtain⟨arr,elem,f,h1,h2⟩:=ZU hM hf (by
   rcases Nat.eq_zero_or_pos vs.length with h'|h'
   ·rw[zqr h']at hv;cases hv
   ·exact h')
  refine⟨v,?_,hvr⟩;have:=h2 0 v hv;simp only[Wh,if_false,run_load,Q4 h1,Nat.add_zero]at this ⊢;simp only[this]
theorem RA{t:TypeId}{i:TypeInfo}{d:TypeDesc}(hi:P.info? t=some i)(hd:P.underlying t=some d){off:Nat}{L:List AV}{vs:Array Value}(hL:aB ρ μ L vs.toList)
  {a:AV} (hp:y8 (UQ d) off i.size L=some a):∃v,(part t vs off).run P w=.ok v w∧aX ρ μ a v:=by
 simp only[part,sJ,y0 hd,o4];cases Rz:UQ d with
 |true=>
  rw[Rz]at hp;obtain⟨rfl,hn⟩:=NL hp;refine⟨.agg (vs.extract off (off+i.size)),?_,.agg _ _ ?_⟩
  ·simp[bG hi]
  ·have:(vs.extract off (off+i.size)).toList=(vs.toList.drop off).take i.size:=by simp[List.extract]
   rw[this];exact(hL.drop off).take i.size
 |false=>
  rw[Rz]at hp;obtain⟨v,hv,hr⟩:=hL.get off a (NM hp);refine⟨v,?_,hr⟩;have:vs[off]?=some v:=by simpa using hv
  simp[this]
end
def fS(op:BinOp)(x y:Int):Option Bool:=
 match op with
 |.eql=>some (x==y)
 |.neq=>some (x != y)
 |.lss=>some (decide (x<y))
 |.leq=>some (decide (x≤y))
 |.gtr=>some (decide (x>y))
 |.geq=>some (decide (x≥y))
 |_=>none
def fk(ρ:Nat→Int)(orc:iV):Prop:=∀op a b r,orc.ask op a b=some r→fS op (a.den ρ) (b.den ρ)=some r
theorem fk.nil(ρ:Nat→Int):fk ρ []:=by intro op a b r h;cases h
theorem fk.cons{ρ:Nat→Int}{orc:iV}{o:BinOp}{x y:SI}{r:Bool}(h:fS o (x.den ρ) (y.den ρ)=some r)(h':fk ρ orc):fk ρ ((o,x,y,r) ::orc):=by
 intro op a b r' e;simp only[iV.ask]at e;cases hc:NR o op&&SI.beq x a&&SI.beq y b with
 |false=>rw[hc]at e;exact h' op a b r' e
 |true=>rw[hc]at e;simp only[cond_true,dP]at e;simp only[jq]at hc;rw[←Xa hc.1.1,←SI.eq_of_beq hc.1.2,←SI.eq_of_beq hc.2,←e];exact h
theorem z7{ρ:Nat→Int}{orc:iV}(ho:fk ρ orc){op:BinOp}{a b:SI}{r:Bool}(h:IJ orc op a b=some r):fS op (a.den ρ) (b.den ρ)=some r:=by
 unfold IJ at h;split at h
 ·rename_i x y;simp only[SI.den];cases op<;>simp only[eqI_eq,Oz,dP]at h<;>first|(cases h;done)|skip
  all_goals simp only[fS,dP]
  all_goals subst h
  all_goals first|rfl|skip
  ·simp[←decide_not,Int.not_lt]
  ·simp[←decide_not,Int.not_lt]
 ·cases hb:SI.beq a b with
  |false=>rw[hb]at h;exact ho op a b r h
  |true=>
   rw[hb]at h;rw[SI.eq_of_beq hb];simp only[cond_true]at h;cases op<;>simp only[dP]at h<;>first|(cases h;done)|skip
   all_goals subst h
   all_goals simp[fS]
theorem agE{P:Program}{w:World}{op:BinOp}{x y:Int}{r:Bool}(h:fS op x y=some r):(Op.intCmp op x y).run P w=.ok (.bool r) w:=by cases op<;>simp only[fS,dP]at h<;>first|(cases h;done)|(subst h;rfl)
theorem wrap_u64(x:Nat):IntKind.wrap .u64 ((x%2^64:Nat):Int)=Int.emod (.ofNat x) 18446744073709551616:=by simp only[IntKind.wrap,IntKind.signed,IntKind.bits,Bool.false_and,Wh,if_false];show((x%2^64:Nat):Int)%2^64=(x:Int)%18446744073709551616;omega
theorem aCT(m n:Nat):IntKind.wrap .u64 ((BitVec.ofInt 64 (Int.ofNat m) &&& BitVec.ofInt 64 (Int.ofNat n)).toNat:Int)=Int.emod (.ofNat (Nat.land m n)) 18446744073709551616:=by rw[←wrap_u64];show IntKind.wrap .u64 ((BitVec.ofInt 64 (m:Int) &&& BitVec.ofInt 64 (n:Int)).toNat:Int)=IntKind.wrap .u64 (((m &&& n)%2^64:Nat):Int);rw[BitVec.ofInt_natCast,BitVec.ofInt_natCast,BitVec.toNat_and,BitVec.toNat_ofNat,BitVec.toNat_ofNat,Nat.and_mod_two_pow]
theorem aK0(m n:Nat):IntKind.wrap .u64 ((BitVec.ofInt 64 (Int.ofNat m) ||| BitVec.ofInt 64 (Int.ofNat n)).toNat:Int)=Int.emod (.ofNat (Nat.lor m n)) 18446744073709551616:=by rw[←wrap_u64];show IntKind.wrap .u64 ((BitVec.ofInt 64 (m:Int) ||| BitVec.ofInt 64 (n:Int)).toNat:Int)=IntKind.wrap .u64 (((m ||| n)%2^64:Nat):Int);rw[BitVec.ofInt_natCast,BitVec.ofInt_natCast,BitVec.toNat_or,BitVec.toNat_ofNat,BitVec.toNat_ofNat,Nat.or_mod_two_pow]
theorem aCU(m n:Nat):IntKind.wrap .u64 ((BitVec.ofInt 64 (Int.ofNat m) ^^^ BitVec.ofInt 64 (Int.ofNat n)).toNat:Int)=Int.emod (.ofNat (Nat.xor m n)) 18446744073709551616:=by rw[←wrap_u64];show IntKind.wrap .u64 ((BitVec.ofInt 64 (m:Int) ^^^ BitVec.ofInt 64 (n:Int)).toNat:Int)=IntKind.wrap .u64 (((m ^^^ n)%2^64:Nat):Int);rw[BitVec.ofInt_natCast,BitVec.ofInt_natCast,BitVec.toNat_xor,BitVec.toNat_ofNat,BitVec.toNat_ofNat,Nat.xor_mod_two_pow]
theorem agL(k:IntKind)(x:Int):(BitVec.ofInt k.bits x).toNat=Q7 k x:=by rw[BitVec.toNat_ofInt];unfold Q7;cases k<;>rfl
theorem PD{ρ:Nat→Int}{P:Program}{w:World}{op:BinOp}{k:IntKind}{a b s:SI}(t:TypeId)(h:arith op k a b=some s) :
  (binOp op t (.int k (a.den ρ)) (.int k (b.den ρ))).run P w=.ok (.int k (s.den ρ)) w:=by
 unfold arith at h;split at h
 ·rename_i x y;simp only[SI.den];cases op<;>simp only[dP]at h<;>first|(cases h;done)|skip
  ·subst h;simp only[SI.den,eK];simp[binOp,Op.intArith]
  ·subst h;simp only[SI.den,eK];simp[binOp,Op.intArith];rfl
  ·subst h;simp only[SI.den,eK];simp[binOp,Op.intArith]
  ·rw[eqI_eq]at h;cases hy:(y==0)with
   |true=>rw[hy]at h;cases h
   |false=>
    rw[hy]at h;simp only[cond_false,dP]at h;subst h;have:y≠0:=by simpa using hy
    simp[SI.den,eK,binOp,Op.intDiv,this]
  ·rw[eqI_eq]at h;cases hy:(y==0)with
   |true=>rw[hy]at h;cases h
   |false=>
    rw[hy]at h;simp only[cond_false,dP]at h;subst h;have:y≠0:=by simpa using hy
    simp[SI.den,binOp,Op.intDiv,this]
  ·split at h
   ·rename_i m n;simp only[dP]at h;subst h;simp only[SI.den,binOp,ne_eq,not_true_eq_false,if_false,Op.intBits,xA,Result.ok.injEq,Value.int.injEq,true_and,and_true];exact aCT m n
   ·simp only[dP]at h;subst h;simp only[SI.den,binOp,ne_eq,not_true_eq_false,if_false,Op.intBits,xA,Result.ok.injEq,Value.int.injEq,true_and,and_true,BitVec.toNat_and,agL,eK];rfl
  ·split at h
   ·rename_i m n;simp only[dP]at h;subst h;simp only[SI.den,binOp,ne_eq,not_true_eq_false,if_false,Op.intBits,xA,Result.ok.injEq,Value.int.injEq,true_and,and_true];exact aK0 m n
   ·simp only[dP]at h;subst h;simp only[SI.den,binOp,ne_eq,not_true_eq_false,if_false,Op.intBits,xA,Result.ok.injEq,Value.int.injEq,true_and,and_true,BitVec.toNat_or,agL,eK];rfl
  ·split at h
   ·rename_i m n;simp only[dP]at h;subst h;simp only[SI.den,binOp,ne_eq,not_true_eq_false,if_false,Op.intBits,xA,Result.ok.injEq,Value.int.injEq,true_and,and_true];exact aCU m n
   ·simp only[dP]at h;subst h;simp only[SI.den,binOp,ne_eq,not_true_eq_false,if_false,Op.intBits,xA,Result.ok.injEq,Value.int.injEq,true_and,and_true,BitVec.toNat_xor,agL,eK];rfl
 ·split at h
  ·cases h;simp[SI.den,binOp,Op.intArith]
  ·cases h;simp[SI.den,binOp,Op.intArith]
  ·cases h;simp[SI.den,binOp,Op.intArith]
  ·cases h
theorem Y6{k:IntKind}{n:Nat}(h:NS k n=true):n≤k.bits:=by cases k<;>simpa[NS,IntKind.bits,Nat.ble_eq]using h
theorem agM(a b:List UInt8):enc (a++b)=enc a+256^a.length*enc b:=by
 induction a with
 |nil=>simp[enc]
 |cons x a ih=>simp only[List.cons_append,enc,ih,ZW,Nat.pow_succ];rw[Nat.mul_add,←Nat.mul_assoc,Nat.mul_comm 256 (256^a.length)];omega
theorem abr(l:List UInt8)(i:Nat):enc (l.drop i)=enc l / 256^i:=by
 induction i generalizing l with
 |zero=>simp
 |succ i ih=>
  cases l with
  |nil=>simp[enc]
  |cons x l=>have hx:x.toNat<256:=x.toNat_lt;simp only[List.drop_succ_cons,ih l,enc,Nat.pow_succ];rw[Nat.mul_comm (256^i) 256,←Nat.div_div_eq_div_mul];congr 1;omega
theorem anE(l:List UInt8)(n:Nat):enc (l.take n)=enc l%256^n:=by
 induction n generalizing l with
 |zero=>simp[enc,Nat.mod_one]
 |succ n ih=>
  cases l with
  |nil=>simp[enc]
  |cons x l=>
   have hx:x.toNat<256:=x.toNat_lt;simp only[List.take_succ_cons,enc,ih l,Nat.pow_succ];rw[Nat.mul_comm (256^n) 256];have hp:0<256^n:=Nat.pow_pos (by omega);have:=Nat.mod_mul (x:=x.toNat+256*enc l) (a:=256) (b:=256^n);rw[this];have h1:(x.toNat+256*enc l)%256=x.toNat:=by omega
   have h2:(x.toNat+256*enc l) / 256=enc l:=by omega
   rw[h1,h2]
theorem arO(l:List UInt8)(i:Nat)(h:i<l.length):enc l / 256^i%256=(l[i]).toNat:=by rw[←abr,zqt h];have hx:(l[i]).toNat<256:=(l[i]).toNat_lt;simp only[enc];omega
theorem aiz:∀{a b:List UInt8},a.length=b.length→enc a=enc b→a=b
 | [],[],_,_=>rfl
 | [],_ ::_,h,_=>by simp at h
 |_ ::_,[],h,_=>by simp at h
 |x ::a,y ::b,h,he=>by
  have hx:x.toNat<256:=x.toNat_lt;have hy:y.toNat<256:=y.toNat_lt;simp only[enc]at he;have h1:x.toNat=y.toNat:=by omega
  have h2:enc a=enc b:=by omega
  rw[UInt8.toNat_inj.1 h1,aiz (by simpa using h) h2]
theorem Yz(n:Nat):2^(8*n)=256^n:=by rw[Nat.pow_mul]
theorem Y5(a b:List UInt8):(Nat.beq a.length b.length&&Nat.beq (enc a) (enc b))=(a==b):=by rw[beqN_eq,beqN_eq,Bool.eq_iff_iff];simp only[jq,decide_eq_true_eq,beq_iff_eq];exact⟨fun h=>aiz h.1 h.2,fun h=>by subst h;exact⟨rfl,rfl⟩⟩
theorem apd:∀(a b:List UInt8),ltS a.length (enc a) b.length (enc b)=Op.bytesLess a b
 | [],[]=>rfl
 | [],y ::b=>by simp[ltS,Op.bytesLess,beqN_eq]
 |x ::a,[]=>by simp[ltS,Op.bytesLess,beqN_eq]
 |x ::a,y ::b=>by
  have hx:x.toNat<256:=x.toNat_lt;have hy:y.toNat<256:=y.toNat_lt;have h1:(x.toNat+256*enc a)%256=x.toNat:=by omega
  have h2:(x.toNat+256*enc a) / 256=enc a:=by omega
  have h3:(y.toNat+256*enc b)%256=y.toNat:=by omega
  have h4:(y.toNat+256*enc b) / 256=enc b:=by omega
  simp only[ZW,ltS,enc,h1,h2,h3,h4,Nat.add_sub_cancel,apd a b,Op.bytesLess,beqN_eq,bltN_eq];by_cases c1:x.toNat<y.toNat
  ·have:x<y:=UInt8.lt_iff_toNat_lt.2 c1;simp[c1,this]
  ·have n1:¬x<y:=fun h=>c1 (UInt8.lt_iff_toNat_lt.1 h);by_cases c2:x.toNat=y.toNat
   ·have:x=y:=UInt8.toNat_inj.1 c2;subst this;simp
   ·have:x≠y:=fun h=>c2 (by rw[h]);simp[c1,c2,n1,this]
theorem xp:∀(a b:List UInt8),Op.bytesLess b a=!(Op.bytesLess a b||a==b)
 | [],[]=>rfl
 | [],y ::b=>by simp[Op.bytesLess]
 |x ::a,[]=>by simp[Op.bytesLess]
 |x ::a,y ::b=>by
  simp only[Op.bytesLess,xp a b];by_cases c1:x<y
  ·have c2:¬y<x:=fun h=>by have:=UInt8.lt_iff_toNat_lt.1 c1;have:=UInt8.lt_iff_toNat_lt.1 h;omega
   have c3:y≠x:=fun h=>by subst h;exact c2 c1
   simp[c1,c2,c3]
  ·by_cases c3:x=y
   ·subst c3;simp
   ·have c2:y<x:=by rw[UInt8.lt_iff_toNat_lt]at c1 ⊢;have:x.toNat≠y.toNat:=fun h=>c3 (UInt8.toNat_inj.1 h);omega
    simp[c1,c2,c3]
theorem aks{ρ:Nat→Int}{μ:Mu}{P:Program}{w:World}{op:BinOp}{x y:ByteArray}{a:AV}
  (h:opS op x.data.toList.length (enc x.data.toList) y.data.toList.length (enc y.data.toList)=some a) :
  ∃v,(Op.stringOp op x y).run P w=.ok v w∧aX ρ μ a v:=by
 unfold opS at h;cases op<;>simp only[dP]at h<;>first|(cases h;done)|skip
 ·cases hb:Nat.ble (x.data.toList.length+y.data.toList.length) 4611686018427387904 with
  |false=>rw[hb]at h;cases h
  |true=>
  rw[hb]at h;simp only[cond_true,dP]at h;subst h;have yw:x.size+y.size≤4611686018427387904:=by rw[Nat.ble_eq]at hb;rw[Lib.size_eq,Lib.size_eq];exact hb
  refine⟨.string (x++y),?_,.str _ _ _ ?_ ?_⟩
  ·have hle:¬(((x.size+y.size:Nat):Int)>IntKind.i64.max):=by
    have:IntKind.i64.max=9223372036854775807:=by decide
    rw[this];omega
   simp only[Op.stringOp,if_neg hle,xA]
  ·rw[ByteArray.data_append];simp
  ·rw[ByteArray.data_append,Array.toList_append,agM];show _=_+Nat.shiftLeft _ _;have:Nat.shiftLeft (enc y.data.toList) (8*x.data.toList.length)=enc y.data.toList*2^(8*x.data.toList.length):=Nat.shiftLeft_eq _ _;rw[this,Yz,Nat.mul_comm]
 all_goals subst h
 all_goals refine⟨_,?_,.bool _⟩
 all_goals simp only[Op.stringOp,ByteArray.toList_eq,xA,Result.ok.injEq,Value.bool.injEq,and_true,Y5,apd]
 ·rw[xp x.data.toList y.data.toList,Bool.not_not]
 ·rw[xp x.data.toList y.data.toList]
def Co(P:Program)(ρ:Nat→Int)(μ:Mu)(nt:Nat)(xs:List Operand)(tm:T AV)(ev:Operand→Value):Prop:=
 ∀x∈xs,∀px a,pX P nt x=some px→px.at tm=some a→aX ρ μ a (ev x)
theorem Co.sub{P:Program}{ρ:Nat→Int}{μ:Mu}{nt:Nat}{xs ys:List Operand}{tm:T AV}{ev:Operand→Value}(h:Co P ρ μ nt xs tm ev)(hs:∀y∈ys,y∈xs):Co P ρ μ nt ys tm ev:=
 fun x hx=>h x (hs x hx)
theorem map_some{α β:Type}{f:α→β}{x:Option α}{y:β}(h:x.map f=some y):∃a,x=some a∧f a=y:=by
 cases x with
 |none=>cases h
 |some a=>exact⟨a,rfl,by simpa using h⟩
theorem QF(vs:List Value)(arr:Array Value)(o:Nat)(h:o+vs.length≤arr.size) :
  (mg arr o vs).toList=arr.toList.take o++vs++arr.toList.drop (o+vs.length):=by
 apply List.ext_getElem?;intro j;rw[Array.getElem?_toList,jZ vs arr o j h];by_cases h1:j<o
 ·rw[if_neg (by omega),List.append_assoc,List.getElem?_append_left (by simp;omega),List.getElem?_take_of_lt h1];simp
 ·by_cases h2:j<o+vs.length
  ·rw[if_pos (by omega),List.append_assoc,List.getElem?_append_right (by simp;omega),List.getElem?_append_left (by simp;omega)];congr 1;simp;omega
  ·rw[if_neg (by omega),List.getElem?_append_right (by simp;omega),List.getElem?_drop];have:o+vs.length+(j-(arr.toList.take o++vs).length)=j:=by simp;omega
   rw[this];simp
theorem HN(off:Nat):∀(l:List Value) (k:Nat) (vs:Array Value),
  (l.zipIdx k).foldl (fun(cs:Array Value) (p:Value×Nat)=>cs.setIfInBounds (off+p.2) p.1) vs=mg vs (off+k) l
 | [],_,_=>rfl
 |v ::l,k,vs=>by simp only[List.zipIdx_cons,List.foldl_cons,mg];rw[HN off l (k+1)];rfl
section
variable{P:Program}{ρ:Nat→Int}{w0:W0}{w:World}{μ:Mu}{G:Key→Option ah}{nx:Nat}{nt:Nat}{tm:T AV}{ev:Operand→Value}
theorem mh:∀{xs:List Operand} {ps:List PX} {l:List AV},Rh P nt xs=some ps→atAll tm ps=some l→Co P ρ μ nt xs tm ev→aB ρ μ l (xs.map ev)
 | [],ps,l,hp,ha,hE=>by simp only[Rh,dP]at hp;subst hp;simp only[atAll,dP]at ha;subst ha;exact .nil
 |x ::xs,ps,l,hp,ha,hE=>by
  simp only[Rh]at hp;split at hp
  ·rename_i a r h1 h2;cases hp;simp only[atAll]at ha;split at ha
   ·cases ha
   ·rename_i v hv;split at ha
    ·cases ha
    ·rename_i m hm;cases ha;exact .cons _ _ _ _ (hE x (by simp) a v h1 hv) (mh h2 hm (hE.sub fun y hy=>by simp[hy]))
  ·cases hp
theorem Bp{place:Nat→Option (Nat×Nat)}:∀{parts:List (Nat×Operand)} {ps:List (Nat×Nat×PX)} {cs yu:List AV} {vs:Array Value},
  Kk P nt place parts=some ps→L5 tm ps cs=some yu→Co P ρ μ nt (parts.map (·.2)) tm ev→aB ρ μ cs vs.toList→
  ∃vs',Instr.fill place vs (parts.map fun(i,x)=>(i,ev x))=some vs'∧aB ρ μ yu vs'.toList
 | [],ps,cs,yu,vs,hp,hf,hE,hv=>by simp only[Kk,dP]at hp;subst hp;simp only[L5,dP]at hf;subst hf;exact⟨vs,rfl,hv⟩
 |(i,x) ::parts,ps,cs,yu,vs,hp,hf,hE,hv=>by
  simp only[Kk]at hp;split at hp
  ·rename_i off size a r h1 h2 h3;cases hp;simp only[L5]at hf;split at hf
   ·cases hf
   ·rename_i u hu;cases hb:Nat.beq (lenL u.cells) size with
    |false=>rw[hb]at hf;cases hf
    |true=>
     rw[hb]at hf;simp only[cond_true,putC_eq]at hf;split at hf
     ·rename_i hle;have hs:u.cells.length=size:=by rw[lenL_eq]at hb;exact o5 hb
      have hr:aX ρ μ u (ev x):=hE x (by simp) a u h2 hu;have hrc:=hr.cells;have hlen:(ev x).cells.size=size:=by rw[←hs,hrc.length];simp
      have SZ:cs.length=vs.size:=by rw[hv.length];simp
      have al4:((ev x).cells.zipIdx.foldl (fun cs (c,j)=>cs.setIfInBounds (off+j) c) vs).toList=vs.toList.take off++(ev x).cells.toList++vs.toList.drop (off+(ev x).cells.toList.length):=by rw[←QF _ _ _ (by simp;omega),←Nat.add_zero off,←HN];rw[←Array.foldl_toList];simp
      obtain⟨vs',aJX,tZ⟩:=Bp (vs:=(ev x).cells.zipIdx.foldl (fun cs (c,j)=>cs.setIfInBounds (off+j) c) vs) h3 hf (hE.sub fun y hy=>by simp at hy ⊢;exact .inr hy) (by rw[al4];refine((hv.take off).append hrc).append ?_;rw[←hrc.length];exact hv.drop _)
      refine⟨vs',?_,tZ⟩;simp only[ZC,Instr.fill,h1];rw[if_neg (by simp[hlen];omega)];exact aJX
     ·cases hf
  ·cases hp
end
section
variable{P:Program}{ρ:Nat→Int}{w0:W0}{w:World}{μ:Mu}{G:Key→Option ah}{nx:Nat}{orc:iV}
theorem iQ{a:AV}{v:Value}{j:Nat}(h:qL a=some j)(hr:aX ρ μ a v):∃k,v=.int k (j:Int):=by
 unfold qL at h;split at h
 ·simp only[dP]at h;subst h;cases hr with
  |int k s n hn=>exact⟨_,by rw[←hn];rfl⟩
 ·cases h
theorem aaI{a b:AV}{r:Bool}(h:jM orc .bool a b=some r):∃x y,a=.bool x∧b=.bool y∧(x==y)=r:=by
 cases a<;>first|(simp[jM]at h;done)|skip
 cases b<;>first|(simp[jM]at h;done)|skip
 exact⟨_,_,rfl,rfl,by simpa[jM]using h⟩
theorem asP{a b:AV}{r:Bool}(h:jM orc .int a b=some r):∃k x y,a=.int k x∧b=.int k y∧IJ orc .eql x y=some r:=by
 cases a<;>first|(simp[jM]at h;done)|skip
 cases b<;>first|(simp[jM]at h;done)|skip
 rename_i k1 s1 k2 s2;simp only[jM]at h;cases hk:beqKind k1 k2 with
 |false=>rw[hk]at h;cases h
 |true=>rw[hk]at h;have:=uz hk;subst this;exact⟨_,_,_,rfl,rfl,h⟩
theorem asQ{a b:AV}{r:Bool}(h:jM orc .str a b=some r):∃n c m d,a=.str n c∧b=.str m d∧(Nat.beq n m&&Nat.beq c d)=r:=by
 cases a<;>first|(simp[jM]at h;done)|skip
 cases b<;>first|(simp[jM]at h;done)|skip
 simp only[jM,dP]at h;exact⟨_,_,_,_,rfl,rfl,h⟩
theorem ahr{a b:AV}{r:Bool}(h:jM orc .ptr a b=some r) :
  (a=.nilp∧b=.nilp∧r=true)∨(a=.nilp∧((∃k o,b=.ptr k o)∨∃l,b=.cref l)∧r=false)∨(((∃k o,a=.ptr k o)∨∃l,a=.cref l)∧b=.nilp∧r=false)∨
   (∃k o o',a=.ptr k o∧b=.ptr k o'∧decide (o=o')=r):=by
 cases a<;>first|(simp[jM]at h;done)|skip
 ·cases b<;>first|(simp[jM]at h;done)|skip
  ·rename_i b1 o1 b2 o2;simp only[jM]at h;cases hb:Key.beq b1 b2 with
   |false=>rw[hb]at h;cases h
   |true=>rw[hb]at h;have:=Key.eq_of_beq hb;subst this;simp only[cond_true,dP,beqN_eq]at h;exact .inr (.inr (.inr ⟨_,_,_,rfl,rfl,h⟩))
  ·simp only[jM,dP]at h;exact .inr (.inr (.inl ⟨.inl ⟨_,_,rfl⟩,rfl,h.symm⟩))
 ·cases b<;>first|(simp[jM]at h;done)|skip
  ·simp only[jM,dP]at h;exact .inr (.inl ⟨rfl,.inl ⟨_,_,rfl⟩,h.symm⟩)
  ·simp only[jM,dP]at h;exact .inl ⟨rfl,rfl,h.symm⟩
  ·simp only[jM,dP]at h;exact .inr (.inl ⟨rfl,.inr ⟨_,rfl⟩,h.symm⟩)
 ·cases b<;>first|(simp[jM]at h;done)|skip
  simp only[jM,dP]at h;exact .inr (.inr (.inl ⟨.inr ⟨_,rfl⟩,rfl,h.symm⟩))
theorem WH{a b:AV}{r:Bool}(h:jM orc .iface a b=some r) :
  (a=.nili∧b=.nili∧r=true)∨(a=.nili∧(∃t v,b=.iface t v)∧r=false)∨((∃t v,a=.iface t v)∧b=.nili∧r=false):=by
 cases a<;>first|(simp[jM]at h;done)|skip
 ·cases b<;>first|(simp[jM]at h;done)|skip
  simp only[jM,dP]at h;exact .inr (.inr ⟨⟨_,_,rfl⟩,rfl,h.symm⟩)
 ·cases b<;>first|(simp[jM]at h;done)|skip
  ·simp only[jM,dP]at h;exact .inr (.inl ⟨rfl,⟨_,_,rfl⟩,h.symm⟩)
  ·simp only[jM,dP]at h;exact .inl ⟨rfl,rfl,h.symm⟩
theorem WJ{a b:AV}{r:Bool}(h:jM orc .slice a b=some r) :
  (a=.nils∧b=.nils∧r=true)∨(a=.nils∧((∃k o l s,b=.slice k o l s)∨∃k o l s,b=.sl k o l s)∧r=false)∨(((∃k o l s,a=.slice k o l s)∨∃k o l s,a=.sl k o l s)∧b=.nils∧r=false):=by
 cases a<;>first|(simp[jM]at h;done)|skip
 ·cases b<;>first|(simp[jM]at h;done)|skip
  simp only[jM,dP]at h;exact .inr (.inr ⟨.inl ⟨_,_,_,_,rfl⟩,rfl,h.symm⟩)
 ·cases b<;>first|(simp[jM]at h;done)|skip
  ·simp only[jM,dP]at h;exact .inr (.inl ⟨rfl,.inl ⟨_,_,_,_,rfl⟩,h.symm⟩)
  ·simp only[jM,dP]at h;exact .inl ⟨rfl,rfl,h.symm⟩
  ·simp only[jM,dP]at h;exact .inr (.inl ⟨rfl,.inr ⟨_,_,_,_,rfl⟩,h.symm⟩)
 ·cases b<;>first|(simp[jM]at h;done)|skip
  simp only[jM,dP]at h;exact .inr (.inr ⟨.inr ⟨_,_,_,_,rfl⟩,rfl,h.symm⟩)
theorem aaJ{a b:AV}{r:Bool}(h:jM orc .func a b=some r) :
  (a=.nilf∧b=.nilf∧r=true)∨(a=.nilf∧(∃f x y,b=.fn f x y)∧r=false)∨((∃f x y,a=.fn f x y)∧b=.nilf∧r=false):=by
 cases a<;>first|(simp[jM]at h;done)|skip
 ·cases b<;>first|(simp[jM]at h;done)|skip
  simp only[jM,dP]at h;exact .inr (.inr ⟨⟨_,_,_,rfl⟩,rfl,h.symm⟩)
 ·cases b<;>first|(simp[jM]at h;done)|skip
  ·simp only[jM,dP]at h;exact .inr (.inl ⟨rfl,⟨_,_,_,rfl⟩,h.symm⟩)
  ·simp only[jM,dP]at h;exact .inl ⟨rfl,rfl,h.symm⟩
theorem ahs{a b:AV}{r:Bool}(h:jM orc .map a b=some r) :
  (a=.nilm∧b=.nilm∧r=true)∨(a=.nilm∧(∃k,b=.map k)∧r=false)∨((∃k,a=.map k)∧b=.nilm∧r=false):=by
 cases a<;>first|(simp[jM]at h;done)|skip
 ·cases b<;>first|(simp[jM]at h;done)|skip
  simp only[jM,dP]at h;exact .inr (.inr ⟨⟨_,rfl⟩,rfl,h.symm⟩)
 ·cases b<;>first|(simp[jM]at h;done)|skip
  ·simp only[jM,dP]at h;exact .inr (.inl ⟨rfl,⟨_,rfl⟩,h.symm⟩)
  ·simp only[jM,dP]at h;exact .inl ⟨rfl,rfl,h.symm⟩
def S8(P:Program)(t:TypeId):Nx→Prop
 |.bool=>P.underlying t=some .bool
 |.int=>∃k,P.underlying t=some (.int k)
 |.str=>P.underlying t=some .string
 |.ptr=>∃e i,P.underlying t=some (.pointer e)∧P.info? e=some i∧i.size≠0
 |.iface=>∃ms,P.underlying t=some (.interface ms)
 |.slice=>∃e,P.underlying t=some (.slice e)
 |.func=>∃a b c,P.underlying t=some (.func a b c)
 |.map=>∃a b,P.underlying t=some (.map a b)
 |.parts l=>(∃fs n,P.underlying t=some (.struct fs)∧P.stoodInHeld t=false∧eqFields P n fs.toList=some l)∨
   ∃len e i fs n l',P.underlying t=some (.array len e)∧P.info? e=some i∧P.underlying e=some (.struct fs)∧P.stoodInHeld e=false∧eqFields P n fs.toList=some l'∧(∀x∈l',x.1<i.size)∧l=Nw l' i.size len 0
theorem BY{n:Nat}{t:TypeId}{p:Nx}(hp:eqP P n t=some p):S8 P t p:=by
 cases n with
 |zero=>simp[eqP]at hp
 |succ n=>
 unfold eqP at hp;split at hp
 ·cases hp;assumption
 ·cases hp;exact⟨_,‹_›⟩
 ·cases hp;assumption
 ·rename_i e hu;split at hp
  ·rename_i i hi;cases hz:Nat.beq i.size 0 with
   |true=>rw[hz]at hp;cases hp
   |false=>rw[hz]at hp;simp only[cond_false,dP]at hp;subst hp;exact⟨e,i,hu,hi,by intro e;rw[e]at hz;cases hz⟩
  ·cases hp
 ·cases hp;exact⟨_,‹_›⟩
 ·cases hp;exact⟨_,‹_›⟩
 ·cases hp;exact⟨_,_,_,‹_›⟩
 ·cases hp;exact⟨_,_,‹_›⟩
 ·cases hs:P.stoodInHeld t with
  |true=>rw[hs]at hp;cases hp
  |false=>
   rw[hs]at hp;simp only[cond_false]at hp;split at hp
   ·cases hp;exact .inl ⟨_,n,‹_›,hs,‹_›⟩
   ·cases hp
 ·rename_i len e hu;split at hp
  ·rename_i fs l i hue ZI hi;cases hb:l.all (fun x=>Nat.blt x.1 i.size)with
   |false=>rw[hb]at hp;cases hp
   |true=>
    rw[hb]at hp;simp only[cond_true,dP]at hp;subst hp;have cQ:∀x∈l,x.1<i.size:=by
     intro x hx;have:=sF.1 hb x hx
     rwa [bltN_eq,decide_eq_true_eq]at this
    cases n with
    |zero=>simp[eqP]at ZI
    |succ n=>
    unfold eqP at ZI;rw[hue]at ZI;simp only at ZI;cases hs:P.stoodInHeld e with
    |true=>rw[hs]at ZI;cases ZI
    |false=>
     rw[hs]at ZI;simp only[cond_false]at ZI;split at ZI
     ·simp only[dP,Nx.parts.injEq]at ZI;subst ZI;exact .inr ⟨len,e,i,fs,n,_,hu,hi,hue,hs,‹_›,cQ,rfl⟩
     ·cases ZI
  ·cases hp
 ·cases hp
set_option maxHeartbeats 1000000 in
theorem qg(ho:fk ρ orc){p:Nx}{t:TypeId}(hp:S8 P t p)(bW:∀l,p≠.parts l){a b:AV}{r:Bool}(h:jM orc p a b=some r)
  {x y:Value} (hx:aX ρ μ a x) (hy:aX ρ μ b y) (d:Nat):(Op.equalIn (d+1) t x y).run P w=.ok r w:=by
 cases p with
 |bool=>obtain⟨x',y',rfl,rfl,hr⟩:=aaI h;cases hx;cases hy;have hu:P.underlying t=some .bool:=hp;simp only[Op.equalIn,sJ,az hu,o4,xA,hr]
 |int=>
  obtain⟨k,x',y',rfl,rfl,hr⟩:=asP h;obtain⟨k',hu⟩:=hp;have hc:=z7 ho hr;cases hx with|int _ _ n1 h1=>cases hy with|int _ _ n2 h2=>
  rw[h1,h2]at hc;simp only[fS,dP]at hc;simp only[Op.equalIn,sJ,az hu,o4,if_true,xA,hc]
 |str=>
  obtain⟨n1,c1,n2,c2,rfl,rfl,hr⟩:=asQ h;have hu:P.underlying t=some .string:=hp;cases hx with|str _ _ s1 h1 yG=>cases hy with|str _ _ s2 h2 Nq=>
  subst h1 yG h2 Nq;rw[Y5]at hr;simp only[Op.equalIn,sJ,az hu,o4,xA,Result.ok.injEq,and_true];rw[beq_toListBytes,ByteArray.toList_eq,ByteArray.toList_eq];exact hr
 |ptr=>
  obtain⟨e,i,hu,hi,yw⟩:=hp;rcases ahr h with⟨rfl,rfl,rfl⟩|⟨rfl,⟨_,_,rfl⟩|⟨_,rfl⟩,rfl⟩|⟨⟨_,_,rfl⟩|⟨_,rfl⟩,rfl,rfl⟩|⟨k,o1,o2,rfl,rfl,hr⟩
  ·cases hx;cases hy;simp[Op.equalIn,az hu]
  ·cases hx;cases hy;simp[Op.equalIn,az hu]
  ·cases hx;cases hy;simp[Op.equalIn,az hu]
  ·cases hx;cases hy;simp[Op.equalIn,az hu]
  ·cases hx;cases hy;simp[Op.equalIn,az hu]
  ·cases hx with|ptr _ _ l1 a1 m1 e1=>cases hy with|ptr _ _ l2 a2 m2 e2=>
   rw[m1]at m2;cases m2;subst e1 e2;simp only[Op.equalIn,sJ,az hu,o4,bG hi,Sem.run_ite,ne_eq,yw,not_false_eq_true,if_true,sameAddr,beq_self_eq_true,xA];simp only[Result.ok.injEq,and_true];rw[←hr,Bool.eq_iff_iff];simp
 |iface=>obtain⟨ms,hu⟩:=hp;rcases WH h with⟨rfl,rfl,rfl⟩|⟨rfl,⟨_,_,rfl⟩,rfl⟩|⟨⟨_,_,rfl⟩,rfl,rfl⟩<;>(cases hx;cases hy;simp[Op.equalIn,az hu])
 |slice=>obtain⟨e,hu⟩:=hp;rcases WJ h with⟨rfl,rfl,rfl⟩|⟨rfl,⟨_,_,_,_,rfl⟩|⟨_,_,_,_,rfl⟩,rfl⟩|⟨⟨_,_,_,_,rfl⟩|⟨_,_,_,_,rfl⟩,rfl,rfl⟩<;>(cases hx;cases hy;simp[Op.equalIn,az hu])
 |func=>obtain⟨_,_,_,hu⟩:=hp;rcases aaJ h with⟨rfl,rfl,rfl⟩|⟨rfl,⟨_,_,_,rfl⟩,rfl⟩|⟨⟨_,_,_,rfl⟩,rfl,rfl⟩<;>(cases hx;cases hy;simp[Op.equalIn,az hu])
 |map=>obtain⟨_,_,hu⟩:=hp;rcases ahs h with⟨rfl,rfl,rfl⟩|⟨rfl,⟨_,rfl⟩,rfl⟩|⟨⟨_,rfl⟩,rfl,rfl⟩<;>(cases hx;cases hy;simp[Op.equalIn,az hu])
 |parts l=>exact absurd rfl (bW l)
theorem Ah(ho:fk ρ orc){A B:List AV}{xs ys:Array Value}(hx:aB ρ μ A xs.toList)(hy:aB ρ μ B ys.toList)(d:Nat) :
  ∀(n:Nat) (fs:List Field) (l:List (Nat×Nx)) (r:Bool),eqFields P n fs=some l→db orc l A B=some r→(Op.eqFields (d+1) xs ys fs).run P w=.ok r w
 |n,[],l,r,hf,hp=>by
  have:l=[]:=by cases n<;>simpa[eqFields]using hf.symm
  subst this;simp only[db,dP]at hp;subst hp;rfl
 |0,f ::fs,l,r,hf,hp=>by simp[eqFields]at hf
 |n+1,f ::fs,l,r,hf,hp=>by
  simp only[eqFields]at hf;cases hn : (f.name == "_") with
  |true=>rw[hn]at hf;cases hf
  |false=>
   rw[hn]at hf;simp only[cond_false]at hf;have key:∀(q:Nx) (l':List (Nat×Nx)),eqP P n f.type=some q→(∀l,q≠.parts l)→eqFields P n fs=some l'→l=(f.offset,q) ::l'→(Op.eqFields (d+1) xs ys (f ::fs)).run P w=.ok r w:=by
    intro q l' hq hqn RK hl;subst hl;simp only[db,nth_eq]at hp;split at hp
    ·rename_i x y h1 h2;have pB:=BY hq;obtain⟨d',QR⟩:∃d',P.underlying f.type=some d':=by
      cases q with
      |bool=>exact⟨_,pB⟩
      |int=>obtain⟨k,hk⟩:=pB;exact⟨_,hk⟩
      |str=>exact⟨_,pB⟩
      |ptr=>obtain⟨_,_,hk,_⟩:=pB;exact⟨_,hk⟩
      |iface=>obtain⟨_,hk⟩:=pB;exact⟨_,hk⟩
      |slice=>obtain⟨_,hk⟩:=pB;exact⟨_,hk⟩
      |func=>obtain⟨_,_,_,hk⟩:=pB;exact⟨_,hk⟩
      |map=>obtain⟨_,_,hk⟩:=pB;exact⟨_,hk⟩
      |parts _=>exact absurd rfl (hqn _)
     have aKM:UQ d'=false:=by
      cases q with
      |bool=>have hk:P.underlying f.type=some .bool:=pB;rw[hk]at QR;cases QR;rfl
      |int=>obtain⟨k,hk⟩:=pB;rw[hk]at QR;cases QR;rfl
      |str=>have hk:P.underlying f.type=some .string:=pB;rw[hk]at QR;cases QR;rfl
      |ptr=>obtain⟨_,_,hk,_⟩:=pB;rw[hk]at QR;cases QR;rfl
      |iface=>obtain⟨_,hk⟩:=pB;rw[hk]at QR;cases QR;rfl
      |slice=>obtain⟨_,hk⟩:=pB;rw[hk]at QR;cases QR;rfl
      |func=>obtain⟨_,_,_,hk⟩:=pB;rw[hk]at QR;cases QR;rfl
      |map=>obtain⟨_,_,hk⟩:=pB;rw[hk]at QR;cases QR;rfl
      |parts _=>exact absurd rfl (hqn _)
     have auT:∀(L:List AV) (vs:Array Value) (u:AV),aB ρ μ L vs.toList→L[f.offset]?=some u→∃v,(part f.type vs f.offset).run P w=.ok v w∧aX ρ μ u v:=by
      intro L vs u hL hu;obtain⟨v,hv,hr⟩:=hL.get f.offset u hu;refine⟨v,?_,hr⟩;have:vs[f.offset]?=some v:=by simpa using hv
      simp[part,y0 QR,aKM,this]
     obtain⟨vx,hvx,hrx⟩:=auT A xs x hx h1;obtain⟨vy,hvy,hry⟩:=auT B ys y hy h2;have bW : f.name ≠ "_" := by simpa using hn
     simp only[Op.eqFields,ne_eq,bW,not_false_eq_true,if_true,sJ,hvx,hvy,o4];split at hp
     ·rename_i he;rw[qg ho pB hqn he hrx hry d];simp only[o4,Bool.not_true,Wh,if_false];exact Ah ho hx hy d n fs l' r RK hp
     ·rename_i he;cases hp;rw[qg ho pB hqn he hrx hry d];simp
     ·cases hp
    ·cases hp
   split at hf
   ·simp only[dP]at hf;exact key _ _ ‹_› (by intro l;simp) ‹_› hf.symm
   ·simp only[dP]at hf;exact key _ _ ‹_› (by intro l;simp) ‹_› hf.symm
   ·simp only[dP]at hf;exact key _ _ ‹_› (by intro l;simp) ‹_› hf.symm
   ·cases hf
theorem PO(A B:List AV):∀(l m:List (Nat×Nx)),db orc (l++m) A B=(match db orc l A B with|some true=>db orc m A B|some false=>some false|none=>none)
 | [],m=>by simp[db]
 |(off,p) ::l,m=>by
  simp only[List.cons_append,db,PO A B l m];split
  ·split
   ·rfl
   ·rfl
   ·rfl
  ·rfl
theorem J4(A B:List AV)(off sz:Nat):∀(l:List (Nat×Nx)),(∀x∈l,x.1<sz)→db orc (l.map fun x=>(off+x.1,x.2)) A B=db orc l ((A.drop off).take sz) ((B.drop off).take sz)
 | [],_=>by simp[db]
 |(o,p) ::l,h=>by
  have h0:o<sz:=h (o,p) (by simp);have e:∀(L:List AV),((L.drop off).take sz)[o]?=L[off+o]?:=by intro L;rw[List.getElem?_take_of_lt h0,List.getElem?_drop]
  simp only[ZC,db,nth_eq,e,J4 A B off sz l fun x hx=>h x (by simp[hx])]
theorem acT{e:TypeId}{i:TypeInfo}{fs:Array Field}(hi:P.info? e=some i)(hu:P.underlying e=some (.struct fs))(xs:Array Value)(off:Nat) :
  (part e xs off).run P w=.ok (.agg (xs.extract off (off+i.size))) w:=by
 simp[part,y0 hu,UQ,bG hi]
theorem PQ{A:List AV}{xs:Array Value}(hx:aB ρ μ A xs.toList)(off n:Nat):aB ρ μ ((A.drop off).take n) (xs.extract off (off+n)).toList:=by
 have:(xs.extract off (off+n)).toList=(xs.toList.drop off).take n:=by simp[List.extract]
 rw[this];exact(hx.drop off).take n
theorem J5(ho:fk ρ orc){e:TypeId}{i:TypeInfo}{fs:Array Field}{n:Nat}{l:List (Nat×Nx)}(hi:P.info? e=some i)(hu:P.underlying e=some (.struct fs))(fj:P.stoodInHeld e=false)(hf:eqFields P n fs.toList=some l)(cQ:∀x∈l,x.1<i.size)
  {A B:List AV} {xs ys:Array Value} (hx:aB ρ μ A xs.toList) (hy:aB ρ μ B ys.toList) (d:Nat) :
  ∀(m j:Nat) (r:Bool),db orc (Nw l i.size m (j*i.size)) A B=some r→(Op.eqItems (d+2) e i.size xs ys (List.range' j m)).run P w=.ok r w
 |0,j,r,h=>by simp only[Nw,db,dP]at h;subst h;simp[Op.eqItems]
 |m+1,j,r,h=>by
  simp only[Nw,PO,J4 A B _ i.size l cQ]at h;have hfo:P.fieldsOf e=fs:=by simp[Program.fieldsOf,hu]
  have he:∀q,db orc l ((A.drop (j*i.size)).take i.size) ((B.drop (j*i.size)).take i.size)=some q→
    (Op.equalIn (d+2) e (.agg (xs.extract (j*i.size) (j*i.size+i.size))) (.agg (ys.extract (j*i.size) (j*i.size+i.size)))).run P w=.ok q w:=by
   intro q hq;rw[show d+2=d+1+1 from rfl,run_equalIn_agg w (d+1) e _ _ (by rw[hfo];exact hu) fj,hfo];exact Ah ho (PQ hx _ _) (PQ hy _ _) d n fs.toList l q hf hq
  simp only[List.range'_succ,Op.eqItems,sJ,acT hi hu,o4];split at h
  ·rename_i hq;rw[he _ hq];simp only[o4,Bool.not_true,Wh,if_false];have hj:(j+1)*i.size=j*i.size+i.size:=by rw[Nat.add_mul,Nat.one_mul]
   exact J5 ho hi hu fj hf cQ hx hy d m (j+1) r (by rw[hj];exact h)
  ·rename_i hq;cases h;rw[he _ hq];simp
  ·cases h
theorem aaK(ho:fk ρ orc){t:TypeId}{l:List (Nat×Nx)}(hp:S8 P t (.parts l)){A B:List AV}{xs ys:Array Value}(hx:aB ρ μ A xs.toList)(hy:aB ρ μ B ys.toList){r:Bool}(h:db orc l A B=some r)(d:Nat) :
  (Op.equalIn (d+3) t (.agg xs) (.agg ys)).run P w=.ok r w:=by
 rcases hp with⟨fs,n,hu,fj,hf⟩|⟨len,e,i,fs,n,l',hu,hi,hue,fj,hf,cQ,rfl⟩
 ·have hfo:P.fieldsOf t=fs:=by simp[Program.fieldsOf,hu]
  rw[show d+3=d+2+1 from rfl,run_equalIn_agg w (d+2) t xs ys (by rw[hfo];exact hu) fj,hfo];exact Ah ho hx hy (d+1) n fs.toList l r hf h
 ·have hc:P.cellsOf e=i.size:=by simp[Program.cellsOf,hi]
  rw[show d+3=d+2+1 from rfl,run_equalIn_array w (d+2) xs ys hu hi,hc,List.range_eq_range'];exact J5 ho hi hue fj hf cQ hx hy d len 0 r (by simpa using h)
end
section
variable{P:Program}{ρ:Nat→Int}{w0:W0}{w:World}{μ:Mu}{G:Key→Option ah}{nx:Nat}{orc:iV}{nt:Nat}{tm:T AV}{ev:Operand→Value}
theorem jP{lo:Option Operand}{plo:Option PX}(hp:ak0 P nt lo=some plo){aqA l:Nat}(hb:mF tm aqA plo=some l){xs:List Operand}(hE:Co P ρ μ nt xs tm ev)
  (hx:∀x,lo=some x→x∈xs):(lo=none∧l=aqA)∨(∃x k,lo=some x∧ev x=.int k (l:Int)):=by
 cases lo with
 |none=>simp only[ak0,dP]at hp;subst hp;simp only[mF,dP]at hb;exact .inl ⟨rfl,hb.symm⟩
 |some x=>
  right;simp only[ak0]at hp;split at hp
  ·rename_i a ha;cases hp;simp only[mF]at hb;split at hb
   ·cases hb
   ·rename_i v hv;obtain⟨k,hk⟩:=iQ hb (hE x (hx x rfl) a v ha hv);exact⟨x,k,rfl,hk⟩
  ·cases hp
theorem sB{k:IntKind}{i y:Nat}(code:BoundsCode)(h:i≤y):(Instr.sliceBound (.int k (i:Int)) y code).run P w=.ok i w:=by simp only[Instr.sliceBound,asIntOf,sJ,xA,o4];rw[if_pos (by omega)];simp
theorem pj{isSlice:Bool}{len cap l r:Nat}{lo hi:Option Value}(lV:(lo=none∧l=0)∨∃k,lo=some (.int k (l:Int)))(hhi:(hi=none∧r=len)∨∃k,hi=some (.int k (r:Int)))
  (h1:l≤r) (h2:r≤len) (h3:len≤cap):(Instr.sliceBounds isSlice len cap lo hi none).run P w=.ok (l,r,cap) w:=by
 rcases lV with⟨rfl,rfl⟩|⟨k,rfl⟩<;>rcases hhi with⟨rfl,rfl⟩|⟨k',rfl⟩<;>simp only[Instr.sliceBounds,sJ,xA,o4]
 ·rw[sB _ (by omega)];rfl
 ·rw[sB _ (by omega)];rfl
 ·rw[sB _ (by omega),o4,sB _ (by omega)];rfl
def Ec(P:Program)(kt:TypeId)(sk:Bool)(kd:TypeDesc):Prop:=P.underlying kt=some kd∧(if sk then kd=.string else ∃k,kd=.int k)
theorem By(ho:fk ρ orc){kt:TypeId}{kd:TypeDesc}{sk:Bool}(hu:Ec P kt sk kd){k a:AV}{x y:Value}(hx:aX ρ μ k x)(hy:aX ρ μ a y){b:Bool}
  (hb:keyEq orc sk k a=some b):Instr.sameNow kd x y=some b:=by
 obtain⟨_,Jn⟩:=hu;cases k<;>first|(simp[keyEq]at hb;done)|skip
 ·cases a<;>first|(simp[keyEq]at hb;done)|skip
  rename_i k1 s1 k2 s2;simp only[keyEq]at hb;cases hk:beqKind k1 k2 with
  |false=>rw[hk]at hb;cases hb
  |true=>
   rw[hk]at hb;cases sk with
   |true=>cases hb
   |false=>
    have:=uz hk;subst this;simp only[Bool.not_false,Bool.and_true,cond_true]at hb;have hc:=z7 ho hb;cases hx with|int _ _ n1 e1=>cases hy with|int _ _ n2 e2=>
    rw[e1,e2]at hc;simp only[fS,dP]at hc;obtain⟨k',rfl⟩:∃k,kd=.int k:=by simpa using Jn
    simp[Instr.sameNow,hc]
 ·cases a<;>first|(simp[keyEq]at hb;done)|skip
  cases sk with
  |false=>simp[keyEq]at hb
  |true=>
   simp only[keyEq,cond_true,dP]at hb;cases hx with|str _ _ s1 e1 Gi=>cases hy with|str _ _ s2 e2 e2'=>
   subst e1 Gi e2 e2';rw[Y5]at hb;have:kd=.string:=by simpa using Jn
   subst this;simp only[Instr.sameNow,dP];rw[beq_toListBytes,ByteArray.toList_eq,ByteArray.toList_eq];exact hb
def ao2(ρ:Nat→Int)(μ:Mu):Option AV→Option (Nat×Value)→Prop
 |none,none=>True
 |some a,some (_,v)=>aX ρ μ a v
 |_,_=>False
theorem HH(ho:fk ρ orc){kt:TypeId}{kd:TypeDesc}{sk:Bool}(hu:Ec P kt sk kd){k:AV}{x:Value}(hx:aX ρ μ k x) :
  ∀{l:List (AV×AV)} {es:List MapEntry} (i:Nat) {r:Option AV},Be ρ μ l es→findK orc sk k l=some r→
   ∃f,Instr.findNow kd x es i=some f∧ao2 ρ μ r f
 | [],[],i,r,hp,h=>by simp only[findK,dP]at h;subst h;exact⟨none,rfl,trivial⟩
 | [],_ ::_,i,r,hp,h=>hp.elim
 |(_,_) ::_,[],i,r,hp,h=>hp.elim
 |(a,v) ::l,e ::es,i,r,hp,h=>by
  obtain⟨h1,h2,h3⟩:=hp;simp only[findK]at h;split at h
  ·rename_i hk;cases h;refine⟨some (i,e.val),?_,h2⟩;simp[Instr.findNow,By ho hu hx h1 hk]
  ·rename_i hk;obtain⟨f,hf,hr⟩:=HH ho hu hx (i+1) h3 h;refine⟨f,?_,hr⟩;simp[Instr.findNow,By ho hu hx h1 hk,hf]
  ·cases h
theorem run_findKey{kt:TypeId}{kd:TypeDesc}(hu:P.underlying kt=some kd){x:Value}{es:List MapEntry}{f:Option (Nat×Value)}(h:Instr.findNow kd x es 0=some f) :
  (Instr.findKey kt x es).run P w=.ok f w:=by
 simp[Instr.findKey,az hu,h]
theorem run_checkKey{kt:TypeId}{kd:TypeDesc}{sk:Bool}(hu:Ec P kt sk kd)(e:Bool)(n:Nat)(x:Value):(Instr.checkKey e (n+1) kt x).run P w=.ok () w:=by
 obtain⟨hu,hk⟩:=hu;cases sk with
 |true=>
  have:kd=.string:=by simpa using hk
  subst this;simp[Instr.checkKey,az hu]
 |false=>
  obtain⟨k,rfl⟩:∃k,kd=.int k:=by simpa using hk
  simp[Instr.checkKey,az hu]
end
section
variable{P:Program}{ρ:Nat→Int}{w0:W0}{w:World}{μ:Mu}{G:Key→Option ah}{nx:Nat}{orc:iV}{nt:Nat}{tm:T AV}{H:T ah}{ev:Operand→Value}
theorem fN{s:Sem Value}{v:Value}{w':World}(h:s.run P w=.ok v w'):(do pure (Next.value (←s)):Sem Next).run P w=.ok (.value v) w':=by simp[h]
theorem aU{α:Type}{b:Bool}{x:Option α}{y:α}(h:(bif b then x else none)=some y):b=true∧x=some y:=by
 cases b with
 |true=>exact⟨rfl,h⟩
 |false=>cases h
theorem asN(k yk:IntKind)(a:Int)(n:Nat)(hle:n≤k.bits):(Op.shift .shl k a yk (n:Int)).run P w=.ok (.int k (k.wrap (a*2^n))) w:=by
 have h0:¬((n:Int)<0):=by omega
 have:min n k.bits=n:=by omega
 simp[Op.shift,h0,this]
theorem aix(k yk:IntKind)(a:Int)(n:Nat)(hle:n≤k.bits):(Op.shift .shr k a yk (n:Int)).run P w=.ok (.int k (a.fdiv (2^n))) w:=by
 have h0:¬((n:Int)<0):=by omega
 have:min n k.bits=n:=by omega
 simp[Op.shift,h0,this]
theorem ajR(ho:fk ρ orc){op:BinOp}{t:TypeId}{X Y:Operand}{a b:AV}{x y:Value}(hx:aX ρ μ a x)(hy:aX ρ μ b y){r:AV}
  (h:lightOp orc (.bin op (.v a) (.v b)) tm H=some r) :
  ∃v,(do eqGuard op t X Y x y;Go.binOp op t x y:Sem Value).run P w=.ok v w∧aX ρ μ r v:=by
 simp only[lightOp,PX.at]at h;cases hx<;>first|(simp at h;done)|skip
 ·cases hy<;>first|(simp at h;done)|skip
  rename_i k1 s1 n1 e1 k2 s2 n2 e2;have hg:(eqGuard op t X Y (.int k1 n1) (.int k2 n2)).run P w=.ok () w:=by cases op<;>simp[eqGuard]
  simp only[sJ,hg,o4];have rest:(bif beqKind k1 k2 then(bif isCmp op then(match IJ orc op s1 s2 with|some r=>some (AV.bool r)|none=>none)else(match arith op k1 s1 s2 with|some r=>some (AV.int k1 r)|none=>none))else none)=some r→
    ∃v,(Go.binOp op t (.int k1 n1) (.int k2 n2)).run P w=.ok v w∧aX ρ μ r v:=by
   intro hq;obtain⟨hk,hq2⟩:=aU hq;have:=uz hk;subst this;clear hq h;cases hc:isCmp op with
   |true=>
    rw[hc]at hq2;simp only[cond_true]at hq2;split at hq2
    ·rename_i r' hr';cases hq2;have hd:=z7 ho hr';rw[e1,e2]at hd;refine⟨.bool r',?_,.bool _⟩;rw[←agE (P:=P) (w:=w) hd];cases op<;>simp[isCmp]at hc<;>simp[Go.binOp]
    ·cases hq2
   |false=>
    rw[hc]at hq2;simp only[cond_false]at hq2;split at hq2
    ·rename_i r' hr';cases hq2;have:=PD (ρ:=ρ) (P:=P) (w:=w) t hr';rw[e1,e2]at this;exact⟨_,this,.int _ _ _ rfl⟩
    ·cases hq2
  cases op<;>first|exact rest h|skip
  ·simp only at h;split at h
   ·rename_i a n;obtain⟨hsh,h2⟩:=aU h;cases h2;have e2':n2=(n:Int):=e2.symm;have Gi:n1=a:=e1.symm;subst e2' Gi;refine⟨_,asN k1 k2 n1 n (Y6 hsh),.int _ _ _ ?_⟩;simp only[SI.den,eK];apply congrArg;show n1*((2^n:Nat):Int)=n1*2^n;simp
   ·cases h
  ·simp only at h;split at h
   ·rename_i a n;obtain⟨hsh,h2⟩:=aU h;cases h2;have e2':n2=(n:Int):=e2.symm;have Gi:n1=(a:Int):=e1.symm;subst e2' Gi;refine⟨_,aix k1 k2 a n (Y6 hsh),.int _ _ _ ?_⟩;simp only[SI.den];show((a / 2^n:Nat):Int)=_;have hp:(0:Int)≤2^n:=by
     have:((2^n:Nat):Int)=2^n:=by simp
     exact this ▸ Int.natCast_nonneg _
    rw[Int.fdiv_eq_ediv_of_nonneg _ hp];simp
   ·rename_i a n;obtain⟨hsh,h2⟩:=aU h;cases h2;have e2':n2=(n:Int):=e2.symm;have Gi:n1=Int.negSucc a:=e1.symm;subst e2' Gi;refine⟨_,aix k1 k2 (Int.negSucc a) n (Y6 hsh),.int _ _ _ ?_⟩;simp only[SI.den];have hc:((2:Int)^n)=((2^n:Nat):Int):=by simp
    rw[hc];have SV:0<2^n:=Nat.two_pow_pos n;obtain⟨m,hm⟩:∃m,2^n=m+1:=⟨2^n-1,by omega⟩;show Int.negSucc (a / 2^n)=_;rw[hm];rfl
   ·cases h
 ·cases hy<;>first|(simp at h;done)|skip
  rename_i n1 c1 s1 h1 yG n2 c2 s2 h2 Nq;subst h1 yG h2 Nq;have hg:(eqGuard op t X Y (.string s1) (.string s2)).run P w=.ok () w:=by cases op<;>simp[eqGuard]
  simp only[sJ,hg,o4];obtain⟨v,hv,hr⟩:=aks (P:=P) (w:=w) (ρ:=ρ) (μ:=μ) (x:=s1) (y:=s2) h;refine⟨v,?_,hr⟩;rw[←hv];cases op<;>simp[Go.binOp]
end
section
variable{P:Program}{ρ:Nat→Int}{w0:W0}{w:World}{μ:Mu}{G:Key→Option ah}{nx:Nat}{orc:iV}{nt:Nat}{tm:T AV}{H:T ah}{ev:Operand→Value}
theorem Qt(op:BinOp)(t:TypeId){X Y:Operand}(h:ko X=true∨ko Y=true):(eqGuard op t X Y .nilIface .nilIface).run P w=.ok () w:=by
 rcases h with h|h
 ·cases X<;>simp[ko]at h;cases op<;>simp[eqGuard]
 ·cases Y<;>simp[ko]at h;cases op<;>simp[eqGuard]
theorem aml(ho:fk ρ orc){op:BinOp}{neg:Bool}(lf:op=if neg then .neq else .eql){t:TypeId}{p:Nx}(hp:S8 P t p)(XU:p≠.int)(hns:p≠.str)
  {X Y:Operand} {a b:AV} {x y:Value} (hx:aX ρ μ a x) (hy:aX ρ μ b y) {r:Bool} (h:jM orc p a b=some r)
  (hg:(∃l,p=.parts l)→P.eqGuardType P.depth t=false) (hc:p=.iface→ko X=true∨ko Y=true) :
  (do eqGuard op t X Y x y;Go.binOp op t x y:Sem Value).run P w=.ok (.bool (bif neg then !r else r)) w:=by
 have fin:∀(x y:Value),(eqGuard op t X Y x y).run P w=.ok () w→(Op.equalIn 10000 t x y).run P w=.ok r w→(∀(k:IntKind) (n:Int),x≠.int k n)→(∀s,x≠.string s)→(∀k n,x≠.float k n)→(∀k n m,x≠.complex k n m)→
   (do eqGuard op t X Y x y;Go.binOp op t x y:Sem Value).run P w=.ok (.bool (bif neg then !r else r)) w:=by
  intro x y hg he h1 h2 h3 h4;simp only[sJ,hg,o4];subst lf;cases neg with
  |false=>
   simp only[Wh,if_false,cond_false];cases x<;>first|exact absurd rfl (h1 _ _)|exact absurd rfl (h2 _)|exact absurd rfl (h3 _ _)|exact absurd rfl (h4 _ _ _)|skip
   all_goals simp only[Go.binOp,Op.equal,Op.maxDepth,sJ,he,o4,xA]
  |true=>
   simp only[if_true,cond_true];cases x<;>first|exact absurd rfl (h1 _ _)|exact absurd rfl (h2 _)|exact absurd rfl (h3 _ _)|exact absurd rfl (h4 _ _ _)|skip
   all_goals simp only[Go.binOp,Op.equal,Op.maxDepth,sJ,he,o4,xA]
 have WG:∀(x y:Value),(∀v,x≠.agg v)→x≠.nilIface→(eqGuard op t X Y x y).run P w=.ok () w:=by intro x y h1 h2;subst lf;cases neg<;>cases x<;>first|exact absurd rfl (h1 _)|exact absurd rfl h2|simp[eqGuard]
 cases p with
 |int=>exact absurd rfl XU
 |str=>exact absurd rfl hns
 |bool=>have he:=qg (P:=P) (w:=w) ho hp (by intro l;simp) h hx hy 9999;obtain⟨x',y',rfl,rfl,hr⟩:=aaI h;cases hx;cases hy;exact fin _ _ (WG _ _ (by simp) (by simp)) he (by simp) (by simp) (by simp) (by simp)
 |ptr=>
  have he:=qg (P:=P) (w:=w) ho hp (by intro l;simp) h hx hy 9999;have:∃q,x=.pointer q:=by rcases ahr h with⟨rfl,rfl,rfl⟩|⟨rfl,⟨_,_,rfl⟩|⟨_,rfl⟩,rfl⟩|⟨⟨_,_,rfl⟩|⟨_,rfl⟩,rfl,rfl⟩|⟨k,o1,o2,rfl,rfl,hr⟩<;>(cases hx;exact⟨_,rfl⟩)
  obtain⟨q,rfl⟩:=this;exact fin _ _ (WG _ _ (by simp) (by simp)) he (by simp) (by simp) (by simp) (by simp)
 |iface=>
  have he:=qg (P:=P) (w:=w) ho hp (by intro l;simp) h hx hy 9999;have aGa:=hc rfl;have hgi:(eqGuard op t X Y .nilIface .nilIface).run P w=.ok () w:=Qt op t aGa;rcases WH h with⟨rfl,rfl,rfl⟩|⟨rfl,⟨_,_,rfl⟩,rfl⟩|⟨⟨_,_,rfl⟩,rfl,rfl⟩
  ·cases hx;cases hy;exact fin _ _ hgi he (by simp) (by simp) (by simp) (by simp)
  ·cases hx;cases hy;exact fin _ _ (by subst lf;cases neg<;>simp[eqGuard]) he (by simp) (by simp) (by simp) (by simp)
  ·cases hx;cases hy;exact fin _ _ (WG _ _ (by simp) (by simp)) he (by simp) (by simp) (by simp) (by simp)
 |slice=>
  have he:=qg (P:=P) (w:=w) ho hp (by intro l;simp) h hx hy 9999;have:∃q l c,x=.slice q l c:=by rcases WJ h with⟨rfl,rfl,rfl⟩|⟨rfl,⟨_,_,_,_,rfl⟩|⟨_,_,_,_,rfl⟩,rfl⟩|⟨⟨_,_,_,_,rfl⟩|⟨_,_,_,_,rfl⟩,rfl,rfl⟩<;>(cases hx;exact⟨_,_,_,rfl⟩)
  obtain⟨_,_,_,rfl⟩:=this;exact fin _ _ (WG _ _ (by simp) (by simp)) he (by simp) (by simp) (by simp) (by simp)
 |func=>have he:=qg (P:=P) (w:=w) ho hp (by intro l;simp) h hx hy 9999;rcases aaJ h with⟨rfl,rfl,rfl⟩|⟨rfl,⟨_,_,_,rfl⟩,rfl⟩|⟨⟨_,_,_,rfl⟩,rfl,rfl⟩<;>(cases hx;exact fin _ _ (WG _ _ (by simp) (by simp)) he (by simp) (by simp) (by simp) (by simp))
 |map=>have he:=qg (P:=P) (w:=w) ho hp (by intro l;simp) h hx hy 9999;rcases ahs h with⟨rfl,rfl,rfl⟩|⟨rfl,⟨_,rfl⟩,rfl⟩|⟨⟨_,rfl⟩,rfl,rfl⟩<;>(cases hx;exact fin _ _ (WG _ _ (by simp) (by simp)) he (by simp) (by simp) (by simp) (by simp))
 |parts l=>
  cases a<;>first|(simp[jM]at h;done)|skip
  cases b<;>first|(simp[jM]at h;done)|skip
  simp only[jM]at h;cases hx with|agg _ xs hx=>cases hy with|agg _ ys hy=>
  have he:(Op.equalIn 10000 t (.agg xs) (.agg ys)).run P w=.ok r w:=aaK ho hp hx hy h 9997;exact fin _ _ (run_eqGuard_agg w op t X Y xs ys (hg ⟨l,rfl⟩)) he (by simp) (by simp) (by simp) (by simp)
end
section
variable{P:Program}{ρ:Nat→Int}{w0:W0}{w:World}{μ:Mu}{G:Key→Option ah}{nx:Nat}{orc:iV}{nt:Nat}{tm:T AV}{H:T ah}{ev:Operand→Value}
theorem ahP{xs:List Operand}{p:PX}(h:Rh P nt xs=some [p]):∃x,xs=[x]∧pX P nt x=some p:=by
 cases xs with
 |nil=>simp[Rh]at h
 |cons x xs=>
  simp only[Rh]at h;split at h
  ·rename_i a r h1 h2;simp only[dP,List.cons.injEq]at h;obtain⟨rfl,rfl⟩:=h;cases xs with
   |nil=>exact⟨x,rfl,h1⟩
   |cons y ys=>simp only[Rh]at h2;split at h2<;>cases h2
  ·cases h
theorem ahQ{xs:List Operand}{p q:PX}(h:Rh P nt xs=some [p,q]):∃x y,xs=[x,y]∧pX P nt x=some p∧pX P nt y=some q:=by
 cases xs with
 |nil=>simp[Rh]at h
 |cons x xs=>
  simp only[Rh]at h;split at h
  ·rename_i a r h1 h2;simp only[dP,List.cons.injEq]at h;obtain⟨rfl,rfl⟩:=h;obtain⟨y,rfl,hy⟩:=ahP h2;exact⟨x,y,rfl,h1,hy⟩
  ·cases h
theorem axs{op:BinOp}{x y:PX}{r:AV}(h:lightOp orc (.bin op x y) tm H=some r):∃a b,x.at tm=some a∧y.at tm=some b∧lightOp orc (.bin op (.v a) (.v b)) tm H=some r:=by
 cases hx:x.at tm with
 |none=>simp[lightOp,hx]at h
 |some a=>
  cases hy:y.at tm with
  |none=>simp[lightOp,hx,hy]at h
  |some b=>refine⟨a,b,rfl,rfl,?_⟩;have e1:(PX.v a).at tm=some a:=rfl;have e2:(PX.v b).at tm=some b:=rfl;simp only[lightOp,hx,hy,e1,e2]at h ⊢;exact h
set_option maxHeartbeats 2000000 in
theorem PA(hM:bB P ρ w0 μ G nx w)(hH:HSub H G)(ho:fk ρ orc){o:Oper}{op:Lr}(hp:jJ P nt o=some op)
  (hE:Co P ρ μ nt o.op.operands.toList tm ev) {a:AV} (hl:lightOp orc op tm H=some a) :
  ∃v,(Go.execOp ev o).run P w=.ok (.value v) w∧aX ρ μ a v:=by
 obtain⟨dst,Ir,ty,pos,after,guard⟩:=o;cases Ir with
 |move x=>obtain⟨px,hx,rfl⟩:=map_some hp;exact⟨ev x,rfl,hE x (by simp[Op.operands]) px a hx hl⟩
 |assign x=>obtain⟨px,hx,rfl⟩:=map_some hp;exact⟨ev x,rfl,hE x (by simp[Op.operands]) px a hx hl⟩
 |pick c x y=>
  simp only[jJ]at hp;split at hp
  ·rename_i pc pa pb h1 h2 h3;cases hp;simp only[lightOp]at hl;split at hl
   ·rename_i hc;have hcv:=hE c (by simp[Op.operands]) pc _ h1 hc;have hv:=hE x (by simp[Op.operands]) pa _ h2 hl;generalize Nt:ev c=cc at hcv;cases hcv;exact⟨ev x,by simp[Go.execOp,Nt,asBool],hv⟩
   ·rename_i hc;have hcv:=hE c (by simp[Op.operands]) pc _ h1 hc;have hv:=hE y (by simp[Op.operands]) pb _ h3 hl;generalize Nt:ev c=cc at hcv;cases hcv;exact⟨ev y,by simp[Go.execOp,Nt,asBool],hv⟩
   ·cases hl
  ·cases hp
 |alloc t=>
  simp only[jJ]at hp
  repeat' (first|replace hp:=(aU hp).2|split at hp)
  all_goals cases hp<;>simp[lightOp]at hl
 |box t x=>obtain⟨px,hx,rfl⟩:=map_some hp;simp[lightOp]at hl
 |build t parts=>
  have IS:∀y∈parts.toList.map (·.2),y∈(Op.build t parts).operands.toList:=by intro y hy;simpa[Op.operands]using hy
  simp only[jJ]at hp;split at hp
  ·rename_i ti fs hti hu;obtain⟨i,d,z,hi,hd,hz,Yy,yw,Rz⟩:=kq hti;split at hp
   ·rename_i pl xz;split at hp
    ·rename_i ps hps;cases hp;simp only[lightOp]at hl;split at hl
     ·rename_i cs Oc;cases hl;have hzr:aB ρ μ ti.zero.cells z.cells.toList:=(iE wN z ti.zero Yy).cells;obtain⟨vs',hf,hr⟩:=Bp (vs:=z.cells) hps Oc (hE.sub IS) hzr;have IT:∀(l:List Field) (r:List (Nat×Nat)),vf P l=some r→(l.mapM fun f=>(do pure (f.offset,←sizeOf f.type):Sem (Nat×Nat))).run P w=.ok r w:=by
       intro l
       induction l with
       |nil=>intro r hr;simp only[vf,dP]at hr;subst hr;rfl
       |cons f l ih=>
        intro r hr;simp only[vf]at hr;split at hr
        ·rename_i i' r' Vr hr';cases hr;rw[List.mapM_cons];simp only[sJ,bG Vr,o4,xA,ih r' hr']
        ·cases hr
      refine⟨.agg vs',?_,.agg _ _ hr⟩;simp only[Go.execOp];refine fN ?_;have hm:(fs.mapM fun f=>(do pure (f.offset,←sizeOf f.type):Sem (Nat×Nat))).run P w=.ok pl.toArray w:=by rw[Array.mapM_eq_mapM_toList,Sem.run_map,IT _ _ xz];rfl
      simp only[Instr.build,sJ,qc hi hz,o4,az hu]
      erw [hm]
      simp only[o4];have aJB:(fun x:Nat=>pl.toArray[x]?)=(fun x:Nat=>pl[x]?):=by funext x;simp
      have Oo:(parts.map fun(i,x)=>(i,ev x)).toList=parts.toList.map fun(i,x)=>(i,ev x):=by simp
      rw[aJB,Oo,hf];rfl
     ·cases hl
    ·cases hp
   ·cases hp
  ·rename_i ti n e hti hu;obtain⟨i,d,z,hi,hd,hz,Yy,yw,Rz⟩:=kq hti;split at hp
   ·rename_i ie Qu;split at hp
    ·rename_i ps hps;cases hp;simp only[lightOp]at hl;split at hl
     ·rename_i cs Oc;cases hl;have hzr:aB ρ μ ti.zero.cells z.cells.toList:=(iE wN z ti.zero Yy).cells;obtain⟨vs',hf,hr⟩:=Bp (vs:=z.cells) hps Oc (hE.sub IS) hzr;refine⟨.agg vs',?_,.agg _ _ hr⟩;simp only[Go.execOp];refine fN ?_;simp only[Instr.build,sJ,qc hi hz,o4,az hu,bG Qu];have Oo:(parts.map fun(i,x)=>(i,ev x)).toList=parts.toList.map fun(i,x)=>(i,ev x):=by simp
      rw[Oo,hf];rfl
     ·cases hl
    ·cases hp
   ·cases hp
  ·cases hp
 |buildSlice t len parts=>
  simp only[jJ]at hp
  repeat' (first|replace hp:=(aU hp).2|split at hp)
  all_goals cases hp<;>simp[lightOp]at hl
 |insert t m k v=>
  simp only[jJ]at hp
  repeat' (first|replace hp:=(aU hp).2|split at hp)
  all_goals cases hp<;>simp[lightOp]at hl
 |load t x=>
  simp only[jJ]at hp;split at hp
  ·rename_i ti px hti hx;obtain⟨i,d,z,hi,hd,hz,Yy,yw,Rz⟩:=kq hti;cases hp;simp only[lightOp]at hl;split at hl
   ·rename_i b off hb;have hv:=hE x (by simp[Op.operands]) px _ hx hb;simp only[loadB]at hl;split at hl
    ·rename_i L k hL;generalize pg:ev x=xx at hv;cases hv with|ptr _ _ l ad hm qO=>
     rw[Rz,yw]at hl;obtain⟨v,hv,hr⟩:=I7 hM (hH _ _ hL) hi hd hl hm;refine⟨v,?_,hr⟩;subst qO;simp only[Go.execOp];refine fN ?_;simp only[pg,Instr.loadAt,Instr.sureAddr,sJ,xA,o4,hv]
    ·cases hl
   ·rename_i l hb;have hv:=hE x (by simp[Op.operands]) px _ hx hb;generalize pg:ev x=xx at hv;cases hv with|cref _ c o ad vs hr qO hf=>
    subst qO;rw[Rz,yw]at hl;obtain⟨v,hv,hr⟩:=adM hM hr hf hi hd hl;refine⟨v,?_,hr⟩;simp only[Go.execOp];refine fN ?_;simp only[pg,Instr.loadAt,Instr.sureAddr,sJ,xA,o4,hv]
   ·cases hl
  ·cases hp
 |store t x v=>
  simp only[jJ]at hp;split at hp
  ·cases hp;simp[lightOp]at hl
  ·cases hp
 |ready g=>simp[jJ]at hp
 |waits g=>simp[jJ]at hp
 |nilCheck x=>
  obtain⟨px,hx,rfl⟩:=map_some hp;simp only[lightOp]at hl;split at hl
  all_goals first|(cases hl;done)|skip
  all_goals rename_i hb
  all_goals (cases hl;have hv:=hE x (by simp[Op.operands]) px _ hx hb;refine⟨ev x,?_,hv⟩;generalize pg:ev x=xx at hv;cases hv;simp[Go.execOp,pg])
 |binOp bop t x y yt=>
  simp only[jJ]at hp;split at hp
  ·rename_i pa pb h1 h2;have aBO:some (Lr.bin bop pa pb)=some op→∃v,(Go.execOp ev ⟨dst,.binOp bop t x y yt,ty,pos,after,guard⟩).run P w=.ok (.value v) w∧aX ρ μ a v:=by intro hp;cases hp;obtain⟨va,vb,ha,hb,hl⟩:=axs hl;have hva:=hE x (by simp[Op.operands]) pa _ h1 ha;have hvb:=hE y (by simp[Op.operands]) pb _ h2 hb;obtain⟨v,hv,hr⟩:=ajR (P:=P) (w:=w) (t:=t) (X:=x) (Y:=y) ho hva hvb hl;exact⟨v,fN hv,hr⟩
   have heq:∀(neg:Bool) (p:Nx),bop=(if neg then .neq else .eql)→S8 P t p→p≠.int→p≠.str→((∃l,p=.parts l)→P.eqGuardType P.depth t=false)→(p=.iface→ko x=true∨ko y=true)→
     op=.eq neg p pa pb→∃v,(Go.execOp ev ⟨dst,.binOp bop t x y yt,ty,pos,after,guard⟩).run P w=.ok (.value v) w∧aX ρ μ a v:=by
    intro neg p hb pB hi hs hg hc e;subst e;simp only[lightOp]at hl;split at hl
    ·rename_i va vb ha wK;split at hl
     ·rename_i r hr;cases hl;have hva:=hE x (by simp[Op.operands]) pa _ h1 ha;have hvb:=hE y (by simp[Op.operands]) pb _ h2 wK;exact⟨_,fN (aml (P:=P) (w:=w) (X:=x) (Y:=y) ho hb pB hi hs hva hvb hr hg hc),.bool _⟩
     ·cases hl
    ·cases hl
   split at hp
   ·exact aBO hp
   ·exact aBO hp
   ·rename_i ms hu;replace hp:=aU hp;obtain⟨hc,hp⟩:=hp;have LU:ko x=true∨ko y=true:=by simpa using hc
    split at hp
    ·simp only[dP]at hp;exact heq false .iface rfl ⟨_,hu⟩ (by simp) (by simp) (by simp) (fun _=>LU) hp.symm
    ·simp only[dP]at hp;exact heq true .iface rfl ⟨_,hu⟩ (by simp) (by simp) (by simp) (fun _=>LU) hp.symm
    ·cases hp
   ·rename_i fs hu;cases Pt:P.eqGuardType P.depth t with
    |true=>rw[Pt]at hp;cases hp
    |false=>
     rw[Pt]at hp;simp only[cond_false]at hp;have MW:∀q,eqP P 100 t=some q→q≠.int∧q≠.str∧q≠.iface:=by
      intro q hq;have hk:=BY hq;refine⟨?_,?_,?_⟩
      ·rintro rfl;obtain⟨k,hk⟩:=hk;rw[hu]at hk;cases hk
      ·rintro rfl;have hk:P.underlying t=some .string:=hk;rw[hu]at hk;cases hk
      ·rintro rfl;obtain⟨k,hk⟩:=hk;rw[hu]at hk;cases hk
     split at hp
     ·rename_i q hq;simp only[dP]at hp;obtain⟨n1,n2,n3⟩:=MW q hq;exact heq false q rfl (BY hq) n1 n2 (fun _=>Pt) (fun e=>absurd e n3) hp.symm
     ·rename_i q hq;simp only[dP]at hp;obtain⟨n1,n2,n3⟩:=MW q hq;exact heq true q rfl (BY hq) n1 n2 (fun _=>Pt) (fun e=>absurd e n3) hp.symm
     ·cases hp
   ·rename_i aSa aSb hu;cases Pt:P.eqGuardType P.depth t with
    |true=>rw[Pt]at hp;cases hp
    |false=>
     rw[Pt]at hp;simp only[cond_false]at hp;have MW:∀q,eqP P 100 t=some q→q≠.int∧q≠.str∧q≠.iface:=by
      intro q hq;have hk:=BY hq;refine⟨?_,?_,?_⟩
      ·rintro rfl;obtain⟨k,hk⟩:=hk;rw[hu]at hk;cases hk
      ·rintro rfl;have hk:P.underlying t=some .string:=hk;rw[hu]at hk;cases hk
      ·rintro rfl;obtain⟨k,hk⟩:=hk;rw[hu]at hk;cases hk
     split at hp
     ·rename_i q hq;simp only[dP]at hp;obtain⟨n1,n2,n3⟩:=MW q hq;exact heq false q rfl (BY hq) n1 n2 (fun _=>Pt) (fun e=>absurd e n3) hp.symm
     ·rename_i q hq;simp only[dP]at hp;obtain⟨n1,n2,n3⟩:=MW q hq;exact heq true q rfl (BY hq) n1 n2 (fun _=>Pt) (fun e=>absurd e n3) hp.symm
     ·cases hp
   ·rename_i d hn1 hn2 hn3 hn4 hn5 hu;have MW:∀q,eqP P 100 t=some q→q≠.iface:=by intro q hq;have hk:=BY hq;rintro rfl;obtain⟨k,hk⟩:=hk;rw[hu]at hk;cases hk;exact absurd rfl (hn3 _)
    split at hp
    ·rename_i q hq;cases hfl:Xi q with
     |true=>rw[hfl]at hp;cases hp
     |false=>rw[hfl]at hp;simp only[cond_false,dP]at hp;exact heq false q rfl (BY hq) (by rintro rfl;cases hfl) (by rintro rfl;cases hfl) (by rintro⟨l,rfl⟩;cases hfl) (fun e=>absurd e (MW q hq)) hp.symm
    ·rename_i q hq;cases hfl:Xi q with
     |true=>rw[hfl]at hp;cases hp
     |false=>rw[hfl]at hp;simp only[cond_false,dP]at hp;exact heq true q rfl (BY hq) (by rintro rfl;cases hfl) (by rintro rfl;cases hfl) (by rintro⟨l,rfl⟩;cases hfl) (fun e=>absurd e (MW q hq)) hp.symm
    ·cases hp
   ·cases hp
  ·cases hp
 |unOp uop t x=>
  obtain⟨px,hx,rfl⟩:=map_some hp;simp only[lightOp]at hl;split at hl
  ·rename_i b hb;cases hl;have hv:=hE x (by simp[Op.operands]) px _ hx hb;generalize pg:ev x=xx at hv;cases hv;exact⟨_,by simp[Go.execOp,pg,Op.unary],.bool _⟩
  ·rename_i k s hb;split at hl
   ·rename_i r hr;cases hl;have hv:=hE x (by simp[Op.operands]) px _ hx hb;generalize pg:ev x=xx at hv;cases hv with|int _ _ n hn=>
    have:=PD (ρ:=ρ) (P:=P) (w:=w) 0 hr;rw[hn]at this;refine⟨_,?_,.int _ _ _ rfl⟩;simp only[Go.execOp];refine fN ?_;simp only[pg,Op.unary];simpa[Go.binOp,SI.den]using this
   ·cases hl
  ·cases hl
 |convert src dst x=>
  simp only[jJ]at hp;split at hp
  ·rename_i px k0 k hx hs hd;cases hp;simp only[lightOp]at hl;split at hl
   ·rename_i k1 n hb;cases hl;have hv:=hE x (by simp[Op.operands]) px _ hx hb;generalize pg:ev x=xx at hv;cases hv with|int _ _ n' hn=>
    refine⟨.int k (k.wrap n'),?_,.int _ _ _ (by rw[←hn];simp only[SI.den,eK])⟩;simp only[Go.execOp];refine fN ?_;simp[pg,Go.convert,az hs,az hd,Conv.intToInt]
   ·cases hl
  ·split at hp
   ·cases hp;simp[lightOp]at hl
   ·cases hp
  ·cases hp
 |sliceToArrayPointer t x=>simp[jJ]at hp
 |makeInterface t x=>
  simp only[jJ]at hp;split at hp
  ·cases hp
  ·cases hp
  ·rename_i d hn hu;obtain⟨px,hx,rfl⟩:=map_some hp;simp only[lightOp]at hl;split at hl
   ·rename_i v hb;cases hl;have hv:=hE x (by simp[Op.operands]) px _ hx hb;refine⟨.iface t (ev x),?_,.iface _ _ _ hv⟩;simp only[Go.execOp];refine fN ?_;simp only[Instr.makeInterface,sJ,az hu,o4];cases d<;>first|rfl|exact absurd rfl (hn _)
   ·cases hl
 |makeFunc f first cap=>
  cases f with
  |func f=>
   simp only[jJ]at hp;split at hp
   ·rename_i pf pc h1 h2;cases hp;simp only[lightOp]at hl;split at hl
    ·rename_i la lc ha hc;cases hl;have e1:=mh (ev:=ev) h1 ha (hE.sub fun y hy=>by simp[Op.operands]at hy ⊢;exact .inl hy);have e2:=mh (ev:=ev) h2 hc (hE.sub fun y hy=>by simp[Op.operands]at hy ⊢;exact .inr hy);refine⟨.func (.func f) (first.map ev) (cap.map ev),?_,.fn _ _ _ _ _ (by simpa using e1) (by simpa using e2)⟩;simp[Go.execOp,Instr.makeFunc]
    ·cases hl
   ·cases hp
  |method n=>simp[jJ]at hp
  |methodOf t n=>simp[jJ]at hp
  |via t p f b=>simp[jJ]at hp
  |yield l=>simp[jJ]at hp
 |makeMap t r=>cases r<;>simp[jJ]at hp;subst hp;simp[lightOp]at hl
 |makeChan t s=>simp[jJ]at hp
 |makeSlice t l c=>
  simp only[jJ]at hp
  repeat' (first|replace hp:=(aU hp).2|split at hp)
  all_goals cases hp<;>simp[lightOp]at hl
 |slice t x lo hi mx=>
  cases mx with
  |some m=>simp[jJ]at hp
  |none=>
   have arM:∀x',lo=some x'→x'∈(Op.slice t x lo hi none).operands.toList:=by intro x' e;subst e;simp[Op.operands]
   have arN:∀x',hi=some x'→x'∈(Op.slice t x lo hi none).operands.toList:=by intro x' e;subst e;simp[Op.operands]
   simp only[jJ]at hp;split at hp
   ·rename_i px plo phi hx lV hhi;split at hp
    ·rename_i hu;cases hp;simp only[lightOp]at hl;split at hl
     ·rename_i n c hb;split at hl
      ·rename_i l r hl1 GL;replace hl:=aU hl;obtain⟨IU,hl⟩:=hl;cases hl;simp only[jq,Nat.ble_eq]at IU;have hv:=hE x (by simp[Op.operands]) px _ hx hb;generalize pg:ev x=xx at hv;cases hv with|str _ _ s hs hs'=>
       have yw:s.size=n:=by rw[Lib.size_eq];exact hs
       have b1:=jP lV hl1 hE arM;have b2:=jP hhi GL hE arN;have hb:=pj (P:=P) (w:=w) (isSlice:=false) (len:=s.size) (cap:=s.size) (l:=l) (r:=r) (lo:=lo.map ev) (hi:=hi.map ev)
        (by rcases b1 with⟨e,e'⟩|⟨x',k,e,e'⟩<;>subst e<;>simp[e']) (by rcases b2 with⟨e,e'⟩|⟨x',k,e,e'⟩<;>subst e<;>simp[e',yw]) IU.1 (by omega) (fE _)
       refine⟨.string (s.extract l r),?_,.str _ _ _ ?_ ?_⟩
       ·simp only[Go.execOp];refine fN ?_;simp only[pg,Instr.sliceAt,sJ,az hu,o4,Instr.slice,Option.map_none,Option.isSome_none,Wh,if_false,hb,xA]
       ·rw[Lib.extract_data];simp;omega
       ·rw[Lib.extract_data,anE,abr,hs'];show _=Nat.mod (Nat.shiftRight c (8*l)) (Nat.pow 2 (8*(r-l)));have e1:Nat.shiftRight c (8*l)=c / 2^(8*l):=Nat.shiftRight_eq_div_pow _ _;have e2:Nat.pow 2 (8*(r-l))=256^(r-l):=Yz (r-l);rw[e1,e2,Yz];rfl
      ·cases hl
     ·cases hl
    ·rename_i e hu;split at hp
     ·rename_i ie Qu;replace hp:=aU hp;obtain⟨SV,hp⟩:=hp;cases hp;simp only[lightOp]at hl;split at hl
      ·rename_i b off len Lo hb;split at hl
       ·rename_i l r hl1 GL;replace hl:=aU hl;obtain⟨IU,hl⟩:=hl;cases hl;simp only[jq,Nat.ble_eq]at IU;have Ty:=o5 IU.2;subst Ty;have hv:=hE x (by simp[Op.operands]) px _ hx hb;generalize pg:ev x=xx at hv;cases hv with|slice _ _ _ _ cap lc ad hm BT hlen qO=>
        have b1:=jP lV hl1 hE arM;have b2:=jP hhi GL hE arN;have hb:=pj (P:=P) (w:=w) (isSlice:=true) (len:=len) (cap:=cap) (l:=l) (r:=r) (lo:=lo.map ev) (hi:=hi.map ev)
         (by rcases b1 with⟨e,e'⟩|⟨x',k,e,e'⟩<;>subst e<;>simp[e']) (by rcases b2 with⟨e,e'⟩|⟨x',k,e,e'⟩<;>subst e<;>simp[e']) IU.1.1 IU.1.2 hlen
        have SZ:l≤cap:=by omega
        refine⟨.slice (if cap=l then some ad else some (ad.add (l*ie.size))) (r-l) (cap-l),?_,?_⟩
        ·simp only[Go.execOp];refine fN ?_;simp only[pg,Instr.sliceAt,sJ,az hu,o4,Instr.slice,Option.map_none,hb,bG Qu,xA,Option.map_some]
        ·have adI:off+l*ie.size+(cap-l)*ie.size=lc.ext:=by rw[←BT,Nat.add_assoc,←Nat.add_mul];congr 2;omega
         by_cases he:cap=l
         ·rw[if_pos he];exact .slice b _ _ _ _ lc ad hm adI (by omega) (.inl (by omega))
         ·rw[if_neg he];refine .slice b _ _ _ _ lc _ hm adI (by omega) (.inr ?_);rcases qO with h0|h0
          ·omega
          ·subst h0;rw[qQ];simp[Nat.add_assoc]
       ·cases hl
      ·rename_i hb;split at hl
       ·rename_i l r hl1 GL;replace hl:=aU hl;obtain⟨IU,hl⟩:=hl;cases hl;simp only[jq]at IU;have h0:=o5 IU.1;have h1:=o5 IU.2;subst h0 h1;have hv:=hE x (by simp[Op.operands]) px _ hx hb;generalize pg:ev x=xx at hv;cases hv;have b1:=jP lV hl1 hE arM;have b2:=jP hhi GL hE arN;have hb:=pj (P:=P) (w:=w) (isSlice:=true) (len:=0) (cap:=0) (l:=0) (r:=0) (lo:=lo.map ev) (hi:=hi.map ev)
         (by rcases b1 with⟨e,e'⟩|⟨x',k,e,e'⟩<;>subst e<;>simp[e']) (by rcases b2 with⟨e,e'⟩|⟨x',k,e,e'⟩<;>subst e<;>simp[e']) (fE _) (fE _) (fE _)
        refine⟨.slice none 0 0,?_,.nils⟩;simp only[Go.execOp];refine fN ?_;simp only[pg,Instr.sliceAt,sJ,az hu,o4,Instr.slice,Option.map_none,hb,bG Qu,xA,if_true]
       ·cases hl
      ·rename_i L len Lo fl hb;split at hl
       ·rename_i l r hl1 GL;replace hl:=aU hl;obtain⟨IU,hl⟩:=hl;simp only[jq,Nat.ble_eq]at IU;have Ty:=o5 IU.2;subst Ty;rw[takeC_eq,dropL_eq]at hl;split at hl
        ·rename_i Nu;cases hl;have hv:=hE x (by simp[Op.operands]) px _ hx hb;generalize pg:ev x=xx at hv;cases hv with|sl _ _ _ _ cap c o ad vs tZ hn hle qO hf hg=>
         have b1:=jP lV hl1 hE arM;have b2:=jP hhi GL hE arN;have hb:=pj (P:=P) (w:=w) (isSlice:=true) (len:=len) (cap:=cap) (l:=l) (r:=r) (lo:=lo.map ev) (hi:=hi.map ev)
          (by rcases b1 with⟨e,e'⟩|⟨x',k,e,e'⟩<;>subst e<;>simp[e']) (by rcases b2 with⟨e,e'⟩|⟨x',k,e,e'⟩<;>subst e<;>simp[e']) IU.1.1 IU.1.2 hle
         refine⟨.slice (if cap=l then some ad else some (ad.add (l*ie.size))) (r-l) (cap-l),?_,?_⟩
         ·simp only[Go.execOp];refine fN ?_;simp only[pg,Instr.sliceAt,sJ,az hu,o4,Instr.slice,Option.map_none,hb,bG Qu,xA,Option.map_some]
         ·have ahL:((L.drop (l*ie.size)).take ((r-l)*ie.size)).length=(r-l)*ie.size:=by rw[UD];omega
          have hfl:Ta μ c (o+l*ie.size) (r-l) (cap-l) ie.size (bif Nat.beq r len then fl else .any):=by
           cases hrl:Nat.beq r len with
           |false=>trivial
           |true=>
            have hrl:=o5 hrl;subst hrl;cases fl with
            |any=>trivial
            |tok tb=>
             have hg:μ tb=some ⟨c,o+r*ie.size,(cap-r)*ie.size⟩:=hg;show μ tb=some ⟨c,o+l*ie.size+(r-l)*ie.size,(cap-l-(r-l))*ie.size⟩;rw[hg];have e1:o+r*ie.size=o+l*ie.size+(r-l)*ie.size:=by rw[Nat.add_assoc,←Nat.add_mul];congr 2;omega
             have e2:cap-r=cap-l-(r-l):=by omega
             rw[e1,e2]
          by_cases he:cap=l
          ·rw[if_pos he];exact .sl _ _ _ _ _ c (o+l*ie.size) ad _ ((tZ.drop _).take _) ahL (by omega) (.inl (by omega)) (Xy (GJ hf _) _) hfl
          ·rw[if_neg he];refine .sl _ _ _ _ _ c (o+l*ie.size) _ _ ((tZ.drop _).take _) ahL (by omega) (.inr ?_) (Xy (GJ hf _) _) hfl;rcases qO with h0|h0
           ·omega
           ·subst h0;rw[qQ]
        ·cases hl
       ·cases hl
      ·cases hl
     ·cases hp
    ·cases hp
   ·cases hp
 |fieldAddr s x f=>
  simp only[jJ]at hp;split at hp
  ·rename_i fs hu;split at hp
   ·rename_i fd Yo;split at hp
    ·rename_i i px hi hx;cases hz:Nat.beq i.size 0 with
     |true=>rw[hz]at hp;cases hp
     |false=>
      rw[hz]at hp;simp only[cond_false,dP]at hp;subst hp;have yw:i.size≠0:=by intro e;rw[e]at hz;cases hz
      simp only[lightOp]at hl;split at hl
      ·rename_i b o hb;cases hl;have hv:=hE x (by simp[Op.operands]) px _ hx hb;generalize pg:ev x=xx at hv;cases hv with|ptr _ _ l ad hm qO=>
       subst qO;refine⟨.pointer (some ⟨l.c,l.base+(o+fd.offset),none⟩),?_,.ptr _ _ l _ hm rfl⟩;simp only[Go.execOp];refine fN ?_;simp only[pg,Instr.fieldAt,sJ,az hu,o4,Yo,Instr.sureAddr,xA,fieldPlace,bG hi,Sem.run_ite,yw,if_false,qQ,Nat.add_assoc]
      ·rename_i l hb;cases hl;have hv:=hE x (by simp[Op.operands]) px _ hx hb;generalize pg:ev x=xx at hv;cases hv with|cref _ c o ad vs hr qO hf=>
       subst qO;rw[dropL_eq];refine⟨.pointer (some ⟨c,o+fd.offset,none⟩),?_,.cref _ c (o+fd.offset) _ _ (hr.drop _) rfl (GJ hf _)⟩;simp only[Go.execOp];refine fN ?_;simp only[pg,Instr.fieldAt,sJ,az hu,o4,Yo,Instr.sureAddr,xA,fieldPlace,bG hi,Sem.run_ite,yw,if_false,qQ]
      ·cases hl
    ·cases hp
   ·cases hp
  ·cases hp
 |field t x f=>
  simp only[jJ]at hp;split at hp
  ·rename_i fs hu;split at hp
   ·rename_i fd Yo;split at hp
    ·rename_i ti px hti hx;obtain⟨i,d,z,hi,hd,hz,Yy,yw,Rz⟩:=kq hti;cases hp;simp only[lightOp]at hl;split at hl
     ·rename_i L hb;have hv:=hE x (by simp[Op.operands]) px _ hx hb;generalize pg:ev x=xx at hv;cases hv with|agg _ vs hL=>
      rw[Rz,yw]at hl;obtain⟨v,hv,hr⟩:=RA (P:=P) (w:=w) hi hd hL hl;refine⟨v,?_,hr⟩;simp only[Go.execOp];refine fN ?_;simp only[pg,Instr.field,sJ,az hu,o4,Yo,asAgg,xA,hv]
     ·cases hl
    ·cases hp
   ·cases hp
  ·cases hp
 |indexAddr t x ix=>
  simp only[jJ]at hp;split at hp
  ·rename_i len e px pi hu hx Vr;split at hp
   ·rename_i ie Qu;replace hp:=aU hp;obtain⟨SV,hp⟩:=hp;cases hp;simp only[lightOp]at hl;split at hl
    ·rename_i b o vi hb We;split at hl
     ·rename_i j hj;replace hl:=aU hl;obtain⟨cQ,hl⟩:=hl;cases hl;rw[bltN_eq,decide_eq_true_eq]at cQ;have hv:=hE x (by simp[Op.operands]) px _ hx hb;obtain⟨k,hk⟩:=iQ hj (hE ix (by simp[Op.operands]) pi _ Vr We);generalize pg:ev x=xx at hv;cases hv with|ptr _ _ l ad hm qO=>
      subst qO;refine⟨.pointer (some ⟨l.c,l.base+(o+j*ie.size),none⟩),?_,.ptr _ _ l _ hm rfl⟩;simp only[Go.execOp];refine fN ?_;have hr:(0:Int)≤(j:Int)∧(j:Int)<(len:Int):=by omega
      simp only[pg,hk,Instr.indexAt,asIntOf,sJ,az hu,o4,Instr.sureAddr,xA,hr,and_self,if_true,bG Qu,qQ,Int.toNat_natCast,Nat.add_assoc]
     ·cases hl
    ·rename_i L vi hb We;split at hl
     ·rename_i j hj;replace hl:=aU hl;obtain⟨cQ,hl⟩:=hl;cases hl;rw[bltN_eq,decide_eq_true_eq]at cQ;have hv:=hE x (by simp[Op.operands]) px _ hx hb;obtain⟨k,hk⟩:=iQ hj (hE ix (by simp[Op.operands]) pi _ Vr We);generalize pg:ev x=xx at hv;cases hv with|cref _ c o ad vs tZ qO hf=>
      subst qO;rw[dropL_eq];refine⟨.pointer (some ⟨c,o+j*ie.size,none⟩),?_,.cref _ c (o+j*ie.size) _ _ (tZ.drop _) rfl (GJ hf _)⟩;simp only[Go.execOp];refine fN ?_;have hr:(0:Int)≤(j:Int)∧(j:Int)<(len:Int):=by omega
      simp only[pg,hk,Instr.indexAt,asIntOf,sJ,az hu,o4,Instr.sureAddr,xA,hr,and_self,if_true,bG Qu,qQ,Int.toNat_natCast]
     ·cases hl
    ·cases hl
   ·cases hp
  ·rename_i e px pi hu hx Vr;split at hp
   ·rename_i ie Qu;replace hp:=aU hp;obtain⟨SV,hp⟩:=hp;cases hp;simp only[lightOp]at hl;split at hl
    ·rename_i b off len Lo vi hb We;split at hl
     ·rename_i j hj;replace hl:=aU hl;obtain⟨cQ,hl⟩:=hl;cases hl;simp only[jq]at cQ;have Ty:=o5 cQ.2;subst Ty;have cQ:=cQ.1;rw[bltN_eq,decide_eq_true_eq]at cQ;have hv:=hE x (by simp[Op.operands]) px _ hx hb;obtain⟨k,hk⟩:=iQ hj (hE ix (by simp[Op.operands]) pi _ Vr We);generalize pg:ev x=xx at hv;cases hv with|slice _ _ _ _ cap l ad hm BT hlen qO=>
      have qO:ad=⟨l.c,l.base+off,none⟩:=qO.resolve_left (by omega);subst qO;refine⟨.pointer (some ⟨l.c,l.base+(off+j*ie.size),none⟩),?_,.ptr _ _ l _ hm rfl⟩;simp only[Go.execOp];refine fN ?_;have hr:(0:Int)≤(j:Int)∧(j:Int)<(len:Int):=by omega
      simp only[pg,hk,Instr.indexAt,asIntOf,sJ,az hu,o4,xA,hr,and_self,if_true,bG Qu,qQ,Int.toNat_natCast,Nat.add_assoc]
     ·cases hl
    ·rename_i L len Lo fl vi hb We;split at hl
     ·rename_i j hj;replace hl:=aU hl;obtain⟨cQ,hl⟩:=hl;simp only[jq]at cQ;have Ty:=o5 cQ.2;subst Ty;have cQ:=cQ.1;rw[bltN_eq,decide_eq_true_eq]at cQ;rw[takeC_eq,dropL_eq]at hl;split at hl
      ·rename_i Nu;cases hl;have hv:=hE x (by simp[Op.operands]) px _ hx hb;obtain⟨k,hk⟩:=iQ hj (hE ix (by simp[Op.operands]) pi _ Vr We);generalize pg:ev x=xx at hv;cases hv with|sl _ _ _ _ cap c o ad vs tZ hn hle qO hf hg=>
       have qO:ad=⟨c,o,none⟩:=qO.resolve_left (by omega);subst qO;refine⟨.pointer (some ⟨c,o+j*ie.size,none⟩),?_,.cref _ c (o+j*ie.size) _ _ ((tZ.drop _).take _) rfl (Xy (GJ hf _) _)⟩;simp only[Go.execOp];refine fN ?_;have hr:(0:Int)≤(j:Int)∧(j:Int)<(len:Int):=by omega
       simp only[pg,hk,Instr.indexAt,asIntOf,sJ,az hu,o4,xA,hr,and_self,if_true,bG Qu,qQ,Int.toNat_natCast]
      ·cases hl
     ·cases hl
    ·cases hl
   ·cases hp
  ·cases hp
 |index t x ix=>
  simp only[jJ]at hp;split at hp
  ·rename_i px pi hu hx Vr;cases hp;simp only[lightOp]at hl;split at hl
   ·rename_i n c vi hb We;split at hl
    ·rename_i j hj;replace hl:=aU hl;obtain⟨cQ,hl⟩:=hl;cases hl;rw[bltN_eq,decide_eq_true_eq]at cQ;have hv:=hE x (by simp[Op.operands]) px _ hx hb;obtain⟨k,hk⟩:=iQ hj (hE ix (by simp[Op.operands]) pi _ Vr We);generalize pg:ev x=xx at hv;cases hv with|str _ _ s hs hs'=>
     have da:j<s.data.toList.length:=by omega
     have hjs:s[j]?=some s.data.toList[j]:=by
      have:j<s.size:=by rw[Lib.size_eq];exact da
      rw[getElem?_pos s j this];rfl
     refine⟨.int .u8 (s.data.toList[j]).toNat,?_,.int _ _ _ ?_⟩
     ·simp only[Go.execOp];refine fN ?_;have h0:(0:Int)≤(j:Int):=by omega
      simp only[pg,hk,Instr.index,asIntOf,sJ,xA,az hu,o4,h0,if_true,Int.toNat_natCast,hjs]
     ·simp only[SI.den];show((Nat.mod (Nat.shiftRight c (8*j)) 256:Nat):Int)=_;have e1:Nat.shiftRight c (8*j)=c / 2^(8*j):=Nat.shiftRight_eq_div_pow _ _;rw[e1,Yz,←hs'];have:=arO s.data.toList j da;show((enc s.data.toList / 256^j%256:Nat):Int)=_;rw[this]
    ·cases hl
   ·cases hl
  ·rename_i len e px pi hu hx Vr;split at hp
   ·rename_i ti hti;obtain⟨i,d,z,hi,hd,hz,Yy,yw,Rz⟩:=kq hti;cases hp;simp only[lightOp]at hl;split at hl
    ·rename_i L vi hb We;split at hl
     ·rename_i j hj;replace hl:=aU hl;obtain⟨cQ,hl⟩:=hl;rw[bltN_eq,decide_eq_true_eq]at cQ;have hv:=hE x (by simp[Op.operands]) px _ hx hb;obtain⟨k,hk⟩:=iQ hj (hE ix (by simp[Op.operands]) pi _ Vr We);generalize pg:ev x=xx at hv;cases hv with|agg _ vs hL=>
      rw[Rz,yw]at hl;obtain⟨v,hv,hr⟩:=RA (P:=P) (w:=w) hi hd hL hl;refine⟨v,?_,hr⟩;simp only[Go.execOp];refine fN ?_;have hr:(0:Int)≤(j:Int)∧(j:Int)<(len:Int):=by omega
      simp only[pg,hk,Instr.index,asIntOf,sJ,xA,az hu,o4,hr,and_self,if_true,bG hi,Int.toNat_natCast,hv]
     ·cases hl
    ·cases hl
   ·cases hp
  ·cases hp
 |lookup t m k ok=>
  simp only[jJ]at hp;split at hp
  ·rename_i kt e hu;have main:∀(sk:Bool) (kd:TypeDesc) (ti:TI) (pm pk:PX),Ec P kt sk kd→tyI P e=some ti→pX P nt m=some pm→pX P nt k=some pk→op=.lookup sk ti.zero ok pm pk→
     ∃v,(Go.execOp ev ⟨dst,.lookup t m k ok,ty,pos,after,guard⟩).run P w=.ok (.value v) w∧aX ρ μ a v:=by
    intro sk kd ti pm pk FQ hti hm hk e';subst e';obtain⟨i,d,z,hi,hd,hz,Yy,yw,Rz⟩:=kq hti;simp only[lightOp]at hl;split at hl
    ·rename_i b ka hb hka;split at hl
     ·rename_i L hL;have hvm:=hE m (by simp[Op.operands]) pm _ hm hb;have hvk:=hE k (by simp[Op.operands]) pk _ hk hka;generalize hmm:ev m=mm at hvm;cases hvm with|map _ l r DL hr=>
      subst hr;obtain⟨l',o',h1,h2,h3⟩:=hM.BO b _ (hH _ _ hL);rw[DL]at h1;cases h1;cases h3 with|map _ _ es clock YA=>
      have FV:(getObj l.c).run P w=.ok (.map es clock) w:=by simp[getObj,Sem.run,h2]
      have aBR:∀f,Instr.findNow kd (ev k) es.toList 0=some f→∀v okv,(match f with|some (_,v')=>v'=v∧okv=true|none=>z=v∧okv=false)→
        (Go.execOp ev ⟨dst,.lookup t m k ok,ty,pos,after,guard⟩).run P w=.ok (.value (if ok then .tuple #[v,.bool okv]else v)) w:=by
       intro f hf v okv hfv;simp only[Go.execOp];refine fN ?_;simp only[hmm,Instr.lookup,sJ,az hu,o4,FV,xA,run_checkKey FQ _ 9999,run_findKey FQ.1 hf];cases f with
       |none=>obtain⟨rfl,rfl⟩:=hfv;simp[qc hi hz]
       |some p=>obtain⟨j,v'⟩:=p;obtain⟨rfl,rfl⟩:=hfv;simp
      split at hl
      ·rename_i v hf;obtain⟨f,hf1,hf2⟩:=HH ho FQ hvk 0 YA hf;cases f with
       |none=>exact hf2.elim
       |some p=>
        obtain⟨j,v'⟩:=p;have:=aBR _ hf1 v' true ⟨rfl,rfl⟩;cases hl;refine⟨_,this,?_⟩;cases ok with
        |true=>exact .tuple _ _ (.cons _ _ _ _ hf2 (.one (.bool _)))
        |false=>exact hf2
      ·rename_i hf;obtain⟨f,hf1,hf2⟩:=HH ho FQ hvk 0 YA hf;cases f with
       |some p=>exact hf2.elim
       |none=>
        have:=aBR _ hf1 z false ⟨rfl,rfl⟩;cases hl;refine⟨_,this,?_⟩;cases ok with
        |true=>exact .tuple _ _ (.cons _ _ _ _ (iE wN z ti.zero Yy) (.one (.bool _)))
        |false=>exact iE wN z ti.zero Yy
      ·cases hl
     ·cases hl
    ·cases hl
   split at hp
   ·simp only[dP]at hp;exact main false _ _ _ _ ⟨‹_›,by simp⟩ ‹_› ‹_› ‹_› hp.symm
   ·simp only[dP]at hp;exact main true _ _ _ _ ⟨‹_›,by simp⟩ ‹_› ‹_› ‹_› hp.symm
   ·cases hp
  ·cases hp
 |mapUpdate t m k v=>
  simp only[jJ]at hp
  repeat' (first|replace hp:=(aU hp).2|split at hp)
  all_goals cases hp<;>simp[lightOp]at hl
 |mapEntry t m k=>simp[jJ]at hp
 |entryStore t m k v=>simp[jJ]at hp
 |range t x=>simp[jJ]at hp
 |next it s=>simp[jJ]at hp
 |entry it=>simp[jJ]at hp
 |typeAssert x xt t ok=>
  simp only[jJ]at hp;split at hp
  ·cases hp
  ·rename_i d ti px hn hu hti hx;obtain⟨i,d',z,hi,hd,hz,Yy,yw,Rz⟩:=kq hti;cases hp;simp only[lightOp]at hl;split at hl
   ·rename_i t' u hb;have hv:=hE x (by simp[Op.operands]) px _ hx hb;generalize pg:ev x=xx at hv;cases hv with|iface _ _ vv hvv=>
    have eM : ∀ r, (if t' = t then (pure (if ok then .tuple #[vv, .bool true] else vv) : Sem Value) else (if ok then do pure (.tuple #[← zeroValue t, .bool false]) else runtimePanic (.typeAssertion (some xt) (some t') t ""))).run P w = .ok r w →
      (Go.execOp ev ⟨dst,.typeAssert x xt t ok,ty,pos,after,guard⟩).run P w=.ok (.value r) w:=by
     intro r hr;simp only[Go.execOp];refine fN ?_;simp only[pg,Instr.typeAssert,sJ,az hu,o4];cases d<;>first|exact absurd rfl (hn _ _ _)|exact hr
    cases ok with
    |true=>
     simp only[cond_true]at hl;cases ht:Nat.beq t t' with
     |true=>rw[ht]at hl;simp only[cond_true,dP]at hl;subst hl;have:=o5 ht;subst this;exact⟨_,eM _ (by simp),.tuple _ _ (.cons _ _ _ _ hvv (.one (.bool _)))⟩
     |false=>
      rw[ht]at hl;simp only[cond_false,dP]at hl;subst hl;have bW:¬t'=t:=by intro e;subst e;simp[beqN_eq]at ht
      exact⟨_,eM (.tuple #[z,.bool false]) (by simp[bW,qc hi hz]),.tuple _ _ (.cons _ _ _ _ (iE wN z ti.zero Yy) (.one (.bool _)))⟩
    |false=>simp only[cond_false]at hl;replace hl:=aU hl;obtain⟨ht,hl⟩:=hl;cases hl;have:=o5 ht;subst this;exact⟨_,eM _ (by simp),hvv⟩
   ·cases hl
  ·cases hp
 |extract x i=>
  simp only[jJ]at hp;split at hp
  ·rename_i px hx;cases hp;simp only[lightOp]at hl;split at hl
   ·rename_i L hb;have hv:=hE x (by simp[Op.operands]) px _ hx hb;generalize pg:ev x=xx at hv;cases hv with|tuple _ vs hL=>
    rw[nth_eq]at hl;obtain⟨v,hv,hr⟩:=hL.get i a hl;have hvi:vs[i]?=some v:=by simpa using hv
    exact⟨v,by simp[Go.execOp,pg,Instr.extract,hvi],hr⟩
   ·cases hl
  ·cases hp
 |call c=>
  obtain⟨callee,args,argTypes⟩:=c;simp only[jJ]at hp;split at hp
  ·split at hp
   ·replace hp:=aU hp;obtain⟨_,hp⟩:=hp;cases hp;simp[lightOp]at hl
   ·cases hp
  ·split at hp
   ·cases hp;simp[lightOp]at hl
   ·cases hp
  ·cases hp
  ·rename_i b;have hex:∀(X:Sem Value),Go.builtin b argTypes ty (args.map fun|.const _=>true|_=>false) (args.map ev)=(do pure (.value (←X)))→
     Go.execOp ev ⟨dst,.call ⟨.builtin b,args,argTypes⟩,ty,pos,after,guard⟩=(do pure (.value (←X))):=by
    intro X hX;rw[←hX];rfl
   have mx:∀(isMax:Bool) (pa pb:PX),Rh P nt args.toList=some [pa,pb]→b=(if isMax then .max else .min)→op=.mx isMax pa pb→
     ∃v,(Go.execOp ev ⟨dst,.call ⟨.builtin b,args,argTypes⟩,ty,pos,after,guard⟩).run P w=.ok (.value v) w∧aX ρ μ a v:=by
    intro isMax pa pb hpx hb lf;obtain⟨X,Y,dI,hX,hY⟩:=ahQ hpx;have aeK:args=#[X,Y]:=by apply Array.ext';simpa using dI
    subst aeK lf;simp only[lightOp]at hl;split at hl
    ·rename_i k1 s1 k2 s2 h1 h2;replace hl:=aU hl;obtain⟨hk,hl⟩:=hl;have:=uz hk;subst this;have hv1:=hE X (by simp[Op.operands,Call.operands]) pa _ hX h1;have hv2:=hE Y (by simp[Op.operands,Call.operands]) pb _ hY h2;generalize pg:ev X=xx at hv1;generalize hyy:ev Y=yy at hv2;cases hv1 with|int _ _ n1 e1=>cases hv2 with|int _ _ n2 e2=>
     cases isMax with
     |true=>
      simp only[if_true]at hb;subst hb;simp only[cond_true]at hl;have eM:∀r:Bool,IJ orc .gtr s2 s1=some r→(Go.execOp ev ⟨dst,.call ⟨.builtin .max,#[X,Y],argTypes⟩,ty,pos,after,guard⟩).run P w=.ok (.value (.int k1 (if r then n2 else n1))) w:=by intro r hr;have hc:=z7 ho hr;rw[e1,e2]at hc;simp only[fS,dP]at hc;rw[hex (Builtin.max_ argTypes ty (#[X,Y].map ev)) rfl];refine fN ?_;subst hc;simp[Builtin.max_,pg,hyy,Builtin.max2]
      split at hl
      ·rename_i hr;cases hl;exact⟨_,eM _ hr,.int _ _ _ e2⟩
      ·rename_i hr;cases hl;exact⟨_,eM _ hr,.int _ _ _ e1⟩
      ·cases hl
     |false=>
      simp only[Wh,if_false]at hb;subst hb;simp only[cond_false]at hl;have eM:∀r:Bool,IJ orc .lss s2 s1=some r→(Go.execOp ev ⟨dst,.call ⟨.builtin .min,#[X,Y],argTypes⟩,ty,pos,after,guard⟩).run P w=.ok (.value (.int k1 (if r then n2 else n1))) w:=by intro r hr;have hc:=z7 ho hr;rw[e1,e2]at hc;simp only[fS,dP]at hc;rw[hex (Builtin.min_ argTypes ty (#[X,Y].map ev)) rfl];refine fN ?_;subst hc;simp[Builtin.min_,pg,hyy,Builtin.min2]
      split at hl
      ·rename_i hr;cases hl;exact⟨_,eM _ hr,.int _ _ _ e2⟩
      ·rename_i hr;cases hl;exact⟨_,eM _ hr,.int _ _ _ e1⟩
      ·cases hl
    ·cases hl
   split at hp
   ·rename_i px hpx;obtain⟨X,dI,hX⟩:=ahP hpx;have aeK:args=#[X]:=by apply Array.ext';simpa using dI
    subst aeK;split at hp
    ·rename_i t hty;have arQ:argTypes=#[t]:=by apply Array.ext';simpa using hty
     subst arQ;rw[hex (Builtin.len_ #[t] ty (#[X].map ev)) rfl];split at hp
     ·rename_i hu;cases hp;simp only[lightOp]at hl;split at hl
      ·rename_i n c hb;cases hl;have hv:=hE X (by simp[Op.operands,Call.operands]) px _ hX hb;generalize pg:ev X=xx at hv;cases hv with|str _ _ s hs hs'=>
       refine⟨goInt s.size,?_,.int _ _ _ (by rw[Lib.size_eq,hs];rfl)⟩;refine fN ?_;simp[Builtin.len_,pg,az hu]
      ·cases hl
     ·rename_i e hu;cases hp;simp only[lightOp]at hl;split at hl
      ·rename_i hb;cases hl;have hv:=hE X (by simp[Op.operands,Call.operands]) px _ hX hb;generalize pg:ev X=xx at hv;cases hv;refine⟨_,?_,.int _ _ _ rfl⟩;refine fN ?_;simp[Builtin.len_,pg,az hu,goInt,SI.den]
      ·rename_i hb;cases hl;have hv:=hE X (by simp[Op.operands,Call.operands]) px _ hX hb;generalize pg:ev X=xx at hv;cases hv;refine⟨_,?_,.int _ _ _ rfl⟩;refine fN ?_;simp[Builtin.len_,pg,az hu,goInt,SI.den]
      ·rename_i hb;cases hl;have hv:=hE X (by simp[Op.operands,Call.operands]) px _ hX hb;generalize pg:ev X=xx at hv;cases hv;refine⟨_,?_,.int _ _ _ rfl⟩;refine fN ?_;simp[Builtin.len_,pg,az hu,goInt,SI.den]
      ·cases hl
     ·cases hp
    ·cases hp
   ·repeat' (first|replace hp:=(aU hp).2|split at hp)
    all_goals cases hp<;>simp[lightOp]at hl
   ·simp only[dP]at hp;exact mx true _ _ ‹_› rfl hp.symm
   ·simp only[dP]at hp;exact mx false _ _ ‹_› rfl hp.symm
   ·cases hp;simp[lightOp]at hl
   ·cases hp
 |go c=>simp[jJ]at hp
 |defer c=>
  simp only[jJ]at hp
  repeat' (first|replace hp:=(aU hp).2|split at hp)
  all_goals cases hp<;>simp[lightOp]at hl
 |panic x=>obtain⟨px,hx,rfl⟩:=map_some hp;simp[lightOp]at hl
 |send c x=>simp[jJ]at hp
 |recv t c ok=>simp[jJ]at hp
 |select cs b=>simp[jJ]at hp
end
end Go.Sx
