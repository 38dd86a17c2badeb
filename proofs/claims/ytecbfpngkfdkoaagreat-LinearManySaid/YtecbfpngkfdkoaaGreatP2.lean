/- A part of the proof. No condition. -/
import Derived.Test.YtecbfpngkfdkoaaGreatP1
import GoSem.Dispatch
import Derived.Laws.StructEq
import Derived.Lib.Strings
import Derived.ChangeKeysEq
set_option linter.unusedSimpArgs false
set_option linter.unusedVariables false
set_option linter.unusedSectionVars false
namespace Go.Sx
open Go.RowKit
section
variable{P:Program}{w:World}
theorem au{t:TypeId}{d:TypeDesc}(h:P.underlying t=some d):(underlying t).run P w=.ok d w:=by simp[underlying,h]
theorem jX{t:TypeId}{i:TypeInfo}(h:P.info? t=some i):(typeInfo t).run P w=.ok i w:=by simp[typeInfo,h]
theorem bu{t:TypeId}{i:TypeInfo}(h:P.info? t=some i):(sizeOf t).run P w=.ok i.size w:=by simp[sizeOf,jX h]
theorem og{t:TypeId}{i:TypeInfo}{z:Value}(h:P.info? t=some i)(hz:i.zero=some z):(zeroValue t).run P w=.ok z w:=by simp[zeroValue,jX h,hz]
def Rl:TypeDesc→Bool
 |.struct _=>true
 |.array _ _=>true
 |_=>false
theorem wi{t:TypeId}{d:TypeDesc}(h:P.underlying t=some d):(isAgg t).run P w=.ok (Rl d) w:=by simp only[isAgg,qC,au h,nz];cases d<;>rfl
end
theorem jJ{P:Program}{t:TypeId}{ti:TI}(h:YX P t=some ti) :
  ∃i d z,P.info? t=some i∧P.underlying t=some d∧i.zero=some z∧kg tJ z=some ti.zero∧ti.size=i.size∧ti.agg=Rl d:=by
 unfold YX at h;split at h
 ·rename_i i d hi hd;split at h
  ·rename_i z hz;split at h
   ·rename_i a ha;simp only[dI]at h;subst h;exact⟨i,d,z,hi,hd,hz,ha,rfl,by cases d<;>rfl⟩
   ·simp at h
  ·simp at h
 ·simp at h
section
variable{P:Program}{ρ:Nat→Int}{w0:W0}{w:World}{μ:Mu}{G:Key→Option ah}{nx:Nat}
theorem zN{L:List AV}{base:Nat}{arr:Array Value}(hc:∀i a,L[i]?=some a→∃v,arr[base+i]?=some v∧aS ρ μ a v)
  (hs:base+L.length≤arr.size) {off n:Nat} (h:off+n≤L.length) :
  ax ρ μ ((L.drop off).take n) ((arr.toList.drop (base+off)).take n):=by
 refine ax.T1 ?_ ?_
 ·simp;omega
 ·intro i a ha;have hi:i<n:=by
   rcases Jy i n with h'|h'
   ·exact h'
   ·rw[zqo (by simp;omega)]at ha;cases ha
  rw[List.getElem?_take_of_lt hi,List.getElem?_drop]at ha;obtain⟨v,hv,hr⟩:=hc (off+i) a ha;refine⟨v,?_,hr⟩;rw[List.getElem?_take_of_lt hi,List.getElem?_drop];simpa[Nat.add_assoc]using hv
theorem Lg{off n:Nat}{L:List AV}{a:AV}(h:wj true off n L=some a):a=.agg ((L.drop off).take n)∧(off+n≤L.length∨(n=0∧L.length<off)):=by
 simp only[wj,cond_true,takeC_eq,dropL_eq]at h;split at h
 ·rename_i hn;simp only[dI]at h;refine⟨h.symm,?_⟩;simp at hn;omega
 ·cases h
theorem Lh{off n:Nat}{L:List AV}{a:AV}(h:wj false off n L=some a):L[off]?=some a:=by simpa only[wj,cond_false,nth_eq]using h
theorem He(hM:aZ P ρ w0 μ G nx w){b:Key}{L:List AV}{k:CK}(hb:G b=some (.cells L k)){t:TypeId}{i:TypeInfo}{d:TypeDesc}
  (hi:P.info? t=some i) (hd:P.underlying t=some d) {off:Nat} {a:AV} (hp:wj (Rl d) off i.size L=some a) {l:Loc} (hl:μ b=some l) :
  ∃v,(loadVar t ⟨l.c,l.base+off,none⟩).run P w=.ok v w∧aS ρ μ a v:=by
 obtain⟨l',arr,elem,fz,h1,h2,hc,hs,hle,_⟩:=hM.cells hb;rw[hl]at h1;cases h1;simp only[loadVar,qC,wi hd,nz];cases OO:Rl d with
 |true=>
  rw[OO]at hp;obtain⟨rfl,hn⟩:=Lg hp;by_cases h0:i.size=0
  ·refine⟨.agg #[],?_,?_⟩
   ·simp[bu hi,h0,loadCells,loadCellsFrom]
   ·rw[h0];simp only[List.take_zero];exact .agg _ _ .nil
  ·have hn:off+i.size≤L.length:=by omega
   refine⟨.agg ((arr.toList.drop (l.base+off)).take i.size).toArray,?_,.agg _ _ ?_⟩
   ·simp only[if_true,qC,bu hi,nz,mP P w l.c (l.base+off) arr elem fz h2 i.size (by omega),uE]
   ·simpa using zN hc (by omega) hn
 |false=>rw[OO]at hp;obtain⟨v,hv,hr⟩:=hc off a (Lh hp);refine⟨v,?_,hr⟩;simp only[SH,if_false,run_load,Oj h2,hv]
theorem VZ(hM:aZ P ρ w0 μ G nx w){c o:Nat}{vs:List Value}(hf:∀i v,vs[i]?=some v→μ.fz c (o+i)=some v)(bU:0<vs.length) :
  ∃arr elem f,w.heap[c]?=some (.cells arr elem f)∧∀i v,vs[i]?=some v→arr[o+i]?=some v:=by
 obtain⟨v,hv⟩:∃v,vs[0]?=some v:=⟨vs[0],by simp[bU]⟩;obtain⟨arr,elem,f,h1,_⟩:=hM.T3 _ _ _ (hf 0 v hv);refine⟨arr,elem,f,h1,fun i u hu=>?_⟩;obtain⟨ID,SJ,f',h2,h3⟩:=hM.T3 _ _ _ (hf i u hu);rw[h1]at h2;cases h2;exact h3
theorem T4(hM:aZ P ρ w0 μ G nx w){c o:Nat}{vs:List Value}(hf:∀i v,vs[i]?=some v→μ.fz c (o+i)=some v){n:Nat}(hn:n≤vs.length) :
  (loadCells ⟨c,o,none⟩ n).run P w=.ok (vs.take n).toArray w:=by
 by_cases h0:n=0
 ·subst h0;simp[loadCells,loadCellsFrom]
 ·obtain⟨arr,elem,f,h1,h2⟩:=VZ hM hf (by omega);have au6:o+n≤arr.size:=by
   have h3:=h2 (n-1) vs[n-1] (by simp);rcases Jy (o+(n-1)) arr.size with h'|h'
   ·omega
   ·rw[VY h']at h3;cases h3
  rw[mP P w c o arr elem f h1 n au6];congr 1;congr 1;apply List.ext_getElem?;intro i;by_cases hi:i<n
  ·rw[List.getElem?_take_of_lt hi,List.getElem?_take_of_lt hi,List.getElem?_drop];have hv:vs[i]?=some (vs[i]'(by omega)):=by simp
   rw[hv];simpa using h2 i _ hv
  ·rw[zqo (by simp;omega),zqo (by simp;omega)]
theorem ED{c o:Nat}{vs:List Value}(hf:∀i v,vs[i]?=some v→μ.fz c (o+i)=some v)(off:Nat):∀i v,(vs.drop off)[i]?=some v→μ.fz c (o+off+i)=some v:=by intro i v h;rw[List.getElem?_drop]at h;rw[Nat.add_assoc];exact hf _ _ h
theorem T5{c o:Nat}{vs:List Value}(hf:∀i v,vs[i]?=some v→μ.fz c (o+i)=some v)(n:Nat):∀i v,(vs.take n)[i]?=some v→μ.fz c (o+i)=some v:=by
 intro i v h;by_cases hi:i<n
 ·rw[List.getElem?_take_of_lt hi]at h;exact hf _ _ h
 ·rw[zqo (by simp;omega)]at h;cases h
theorem Zq(hM:aZ P ρ w0 μ G nx w){l:List AV}{vs:List Value}(hr:ax ρ μ l vs){c o:Nat}(hf:∀i v,vs[i]?=some v→μ.fz c (o+i)=some v){t:TypeId}{i:TypeInfo}{d:TypeDesc}
  (hi:P.info? t=some i) (hd:P.underlying t=some d) {a:AV} (hp:wj (Rl d) 0 i.size l=some a) :
  ∃v,(loadVar t ⟨c,o,none⟩).run P w=.ok v w∧aS ρ μ a v:=by
 simp only[loadVar,qC,wi hd,nz];have hlen:=hr.length;cases OO:Rl d with
 |true=>
  rw[OO]at hp;obtain⟨rfl,hn⟩:=Lg hp;have hn:i.size≤vs.length:=by omega
  refine⟨.agg (vs.take i.size).toArray,?_,.agg _ _ ?_⟩
  ·simp only[if_true,qC,bu hi,nz,T4 hM hf hn,uE]
  ·simpa using hr.take i.size
 |false=>
  rw[OO]at hp;obtain⟨v,hv,hvr⟩:=hr.get 0 a (Lh hp);obtain⟨arr,elem,f,h1,h2⟩:=VZ hM hf (by
   rcases Nat.eq_zero_or_pos vs.length with h'|h'
   ·rw[SK h']at hv;cases hv
   ·exact h')
  refine⟨v,?_,hvr⟩;have:=h2 0 v hv;simp only[SH,if_false,run_load,Oj h1,Nat.add_zero]at this ⊢;simp only[this]
theorem OP{t:TypeId}{i:TypeInfo}{d:TypeDesc}(hi:P.info? t=some i)(hd:P.underlying t=some d){off:Nat}{L:List AV}{vs:Array Value}(hL:ax ρ μ L vs.toList)
  {a:AV} (hp:wj (Rl d) off i.size L=some a):∃v,(part t vs off).run P w=.ok v w∧aS ρ μ a v:=by
 simp only[part,qC,wi hd,nz];cases OO:Rl d with
 |true=>
  rw[OO]at hp;obtain⟨rfl,hn⟩:=Lg hp;refine⟨.agg (vs.extract off (off+i.size)),?_,.agg _ _ ?_⟩
  ·simp[bu hi]
  ·have:(vs.extract off (off+i.size)).toList=(vs.toList.drop off).take i.size:=by simp[List.extract]
   rw[this];exact(hL.drop off).take i.size
 |false=>
  rw[OO]at hp;obtain⟨v,hv,hr⟩:=hL.get off a (Lh hp);refine⟨v,?_,hr⟩;have:vs[off]?=some v:=by simpa using hv
  simp[this]
end
def fF(op:BinOp)(x y:Int):Option Bool:=
 match op with
 |.eql=>some (x==y)
 |.neq=>some (x != y)
 |.lss=>some (decide (x<y))
 |.leq=>some (decide (x≤y))
 |.gtr=>some (decide (x>y))
 |.geq=>some (decide (x≥y))
 |_=>none
def ep(ρ:Nat→Int)(orc:iG):Prop:=∀op a b r,orc.ask op a b=some r→fF op (a.den ρ) (b.den ρ)=some r
theorem ep.nil(ρ:Nat→Int):ep ρ []:=by intro op a b r h;cases h
theorem ep.cons{ρ:Nat→Int}{orc:iG}{o:BinOp}{x y:SI}{r:Bool}(h:fF o (x.den ρ) (y.den ρ)=some r)(h':ep ρ orc):ep ρ ((o,x,y,r) ::orc):=by
 intro op a b r' e;simp only[iG.ask]at e;cases hc:Lm o op&&SI.beq x a&&SI.beq y b with
 |false=>rw[hc]at e;exact h' op a b r' e
 |true=>rw[hc]at e;simp only[cond_true,dI]at e;simp only[kO]at hc;rw[←TA hc.1.1,←SI.eq_of_beq hc.1.2,←SI.eq_of_beq hc.2,←e];exact h
theorem w9{ρ:Nat→Int}{orc:iG}(ho:ep ρ orc){op:BinOp}{a b:SI}{r:Bool}(h:GL orc op a b=some r):fF op (a.den ρ) (b.den ρ)=some r:=by
 unfold GL at h;split at h
 ·rename_i x y;simp only[SI.den];cases op<;>simp only[eqI_eq,L4,dI]at h<;>first|(cases h;done)|skip
  all_goals simp only[fF,dI]
  all_goals subst h
  all_goals first|rfl|skip
  ·simp[←decide_not,Int.not_lt]
  ·simp[←decide_not,Int.not_lt]
 ·cases hb:SI.beq a b with
  |false=>rw[hb]at h;exact ho op a b r h
  |true=>
   rw[hb]at h;rw[SI.eq_of_beq hb];simp only[cond_true]at h;cases op<;>simp only[dI]at h<;>first|(cases h;done)|skip
   all_goals subst h
   all_goals simp[fF]
theorem ab4{P:Program}{w:World}{op:BinOp}{x y:Int}{r:Bool}(h:fF op x y=some r):(Op.intCmp op x y).run P w=.ok (.bool r) w:=by cases op<;>simp only[fF,dI]at h<;>first|(cases h;done)|(subst h;rfl)
theorem wrap_u64(x:Nat):IntKind.wrap .u64 ((x%2^64:Nat):Int)=Int.emod (.ofNat x) 18446744073709551616:=by simp only[IntKind.wrap,IntKind.signed,IntKind.bits,Bool.false_and,SH,if_false];show((x%2^64:Nat):Int)%2^64=(x:Int)%18446744073709551616;omega
theorem axD(m n:Nat):IntKind.wrap .u64 ((BitVec.ofInt 64 (Int.ofNat m) &&& BitVec.ofInt 64 (Int.ofNat n)).toNat:Int)=Int.emod (.ofNat (Nat.land m n)) 18446744073709551616:=by rw[←wrap_u64];show IntKind.wrap .u64 ((BitVec.ofInt 64 (m:Int) &&& BitVec.ofInt 64 (n:Int)).toNat:Int)=IntKind.wrap .u64 (((m &&& n)%2^64:Nat):Int);rw[BitVec.ofInt_natCast,BitVec.ofInt_natCast,BitVec.toNat_and,BitVec.toNat_ofNat,BitVec.toNat_ofNat,Nat.and_mod_two_pow]
theorem aEL(m n:Nat):IntKind.wrap .u64 ((BitVec.ofInt 64 (Int.ofNat m) ||| BitVec.ofInt 64 (Int.ofNat n)).toNat:Int)=Int.emod (.ofNat (Nat.lor m n)) 18446744073709551616:=by rw[←wrap_u64];show IntKind.wrap .u64 ((BitVec.ofInt 64 (m:Int) ||| BitVec.ofInt 64 (n:Int)).toNat:Int)=IntKind.wrap .u64 (((m ||| n)%2^64:Nat):Int);rw[BitVec.ofInt_natCast,BitVec.ofInt_natCast,BitVec.toNat_or,BitVec.toNat_ofNat,BitVec.toNat_ofNat,Nat.or_mod_two_pow]
theorem axE(m n:Nat):IntKind.wrap .u64 ((BitVec.ofInt 64 (Int.ofNat m) ^^^ BitVec.ofInt 64 (Int.ofNat n)).toNat:Int)=Int.emod (.ofNat (Nat.xor m n)) 18446744073709551616:=by rw[←wrap_u64];show IntKind.wrap .u64 ((BitVec.ofInt 64 (m:Int) ^^^ BitVec.ofInt 64 (n:Int)).toNat:Int)=IntKind.wrap .u64 (((m ^^^ n)%2^64:Nat):Int);rw[BitVec.ofInt_natCast,BitVec.ofInt_natCast,BitVec.toNat_xor,BitVec.toNat_ofNat,BitVec.toNat_ofNat,Nat.xor_mod_two_pow]
theorem acb(k:IntKind)(x:Int):(BitVec.ofInt k.bits x).toNat=Oq k x:=by rw[BitVec.toNat_ofInt];unfold Oq;cases k<;>rfl
theorem MU{ρ:Nat→Int}{P:Program}{w:World}{op:BinOp}{k:IntKind}{a b s:SI}(t:TypeId)(h:arith op k a b=some s) :
  (binOp op t (.int k (a.den ρ)) (.int k (b.den ρ))).run P w=.ok (.int k (s.den ρ)) w:=by
 unfold arith at h;split at h
 ·rename_i x y;simp only[SI.den];cases op<;>simp only[dI]at h<;>first|(cases h;done)|skip
  ·subst h;simp only[SI.den,gW];simp[binOp,Op.intArith]
  ·subst h;simp only[SI.den,gW];simp[binOp,Op.intArith];rfl
  ·subst h;simp only[SI.den,gW];simp[binOp,Op.intArith]
  ·rw[eqI_eq]at h;cases hy:(y==0)with
   |true=>rw[hy]at h;cases h
   |false=>
    rw[hy]at h;simp only[cond_false,dI]at h;subst h;have:y≠0:=by simpa using hy
    simp[SI.den,gW,binOp,Op.intDiv,this]
  ·rw[eqI_eq]at h;cases hy:(y==0)with
   |true=>rw[hy]at h;cases h
   |false=>
    rw[hy]at h;simp only[cond_false,dI]at h;subst h;have:y≠0:=by simpa using hy
    simp[SI.den,binOp,Op.intDiv,this]
  ·split at h
   ·rename_i m n;simp only[dI]at h;subst h;simp only[SI.den,binOp,ne_eq,not_true_eq_false,if_false,Op.intBits,uE,Result.ok.injEq,Value.int.injEq,true_and,and_true];exact axD m n
   ·simp only[dI]at h;subst h;simp only[SI.den,binOp,ne_eq,not_true_eq_false,if_false,Op.intBits,uE,Result.ok.injEq,Value.int.injEq,true_and,and_true,BitVec.toNat_and,acb,gW];rfl
  ·split at h
   ·rename_i m n;simp only[dI]at h;subst h;simp only[SI.den,binOp,ne_eq,not_true_eq_false,if_false,Op.intBits,uE,Result.ok.injEq,Value.int.injEq,true_and,and_true];exact aEL m n
   ·simp only[dI]at h;subst h;simp only[SI.den,binOp,ne_eq,not_true_eq_false,if_false,Op.intBits,uE,Result.ok.injEq,Value.int.injEq,true_and,and_true,BitVec.toNat_or,acb,gW];rfl
  ·split at h
   ·rename_i m n;simp only[dI]at h;subst h;simp only[SI.den,binOp,ne_eq,not_true_eq_false,if_false,Op.intBits,uE,Result.ok.injEq,Value.int.injEq,true_and,and_true];exact axE m n
   ·simp only[dI]at h;subst h;simp only[SI.den,binOp,ne_eq,not_true_eq_false,if_false,Op.intBits,uE,Result.ok.injEq,Value.int.injEq,true_and,and_true,BitVec.toNat_xor,acb,gW];rfl
 ·split at h
  ·cases h;simp[SI.den,binOp,Op.intArith]
  ·cases h;simp[SI.den,binOp,Op.intArith]
  ·cases h;simp[SI.den,binOp,Op.intArith]
  ·cases h
theorem Vi{k:IntKind}{n:Nat}(h:Lo k n=true):n≤k.bits:=by cases k<;>simpa[Lo,IntKind.bits,Nat.ble_eq]using h
theorem acd(a b:List UInt8):enc (a++b)=enc a+256^a.length*enc b:=by
 induction a with
 |nil=>simp[enc]
 |cons x a ih=>simp only[List.cons_append,enc,ih,zqi,Nat.pow_succ];rw[Nat.mul_add,←Nat.mul_assoc,Nat.mul_comm 256 (256^a.length)];omega
theorem Xj(l:List UInt8)(i:Nat):enc (l.drop i)=enc l / 256^i:=by
 induction i generalizing l with
 |zero=>simp
 |succ i ih=>
  cases l with
  |nil=>simp[enc]
  |cons x l=>have hx:x.toNat<256:=x.toNat_lt;simp only[List.drop_succ_cons,ih l,enc,Nat.pow_succ];rw[Nat.mul_comm (256^i) 256,←Nat.div_div_eq_div_mul];congr 1;omega
theorem aiV(l:List UInt8)(n:Nat):enc (l.take n)=enc l%256^n:=by
 induction n generalizing l with
 |zero=>simp[enc,Nat.mod_one]
 |succ n ih=>
  cases l with
  |nil=>simp[enc]
  |cons x l=>
   have hx:x.toNat<256:=x.toNat_lt;simp only[List.take_succ_cons,enc,ih l,Nat.pow_succ];rw[Nat.mul_comm (256^n) 256];have hp:0<256^n:=Nat.pow_pos (by omega);have:=Nat.mod_mul (x:=x.toNat+256*enc l) (a:=256) (b:=256^n);rw[this];have h1:(x.toNat+256*enc l)%256=x.toNat:=by omega
   have h2:(x.toNat+256*enc l) / 256=enc l:=by omega
   rw[h1,h2]
theorem amH(l:List UInt8)(i:Nat)(h:i<l.length):enc l / 256^i%256=(l[i]).toNat:=by rw[←Xj,zqt h];have hx:(l[i]).toNat<256:=(l[i]).toNat_lt;simp only[enc];omega
theorem aeb:∀{a b:List UInt8},a.length=b.length→enc a=enc b→a=b
 | [],[],_,_=>rfl
 | [],_ ::_,h,_=>by simp at h
 |_ ::_,[],h,_=>by simp at h
 |x ::a,y ::b,h,he=>by
  have hx:x.toNat<256:=x.toNat_lt;have hy:y.toNat<256:=y.toNat_lt;simp only[enc]at he;have h1:x.toNat=y.toNat:=by omega
  have h2:enc a=enc b:=by omega
  rw[UInt8.toNat_inj.1 h1,aeb (by simpa using h) h2]
theorem UT(n:Nat):2^(8*n)=256^n:=by rw[Nat.pow_mul]
theorem Vh(a b:List UInt8):(Nat.beq a.length b.length&&Nat.beq (enc a) (enc b))=(a==b):=by rw[beqN_eq,beqN_eq,Bool.eq_iff_iff];simp only[kO,decide_eq_true_eq,beq_iff_eq];exact⟨fun h=>aeb h.1 h.2,fun h=>by subst h;exact⟨rfl,rfl⟩⟩
theorem akn:∀(a b:List UInt8),ltS a.length (enc a) b.length (enc b)=Op.bytesLess a b
 | [],[]=>rfl
 | [],y ::b=>by simp[ltS,Op.bytesLess,beqN_eq]
 |x ::a,[]=>by simp[ltS,Op.bytesLess,beqN_eq]
 |x ::a,y ::b=>by
  have hx:x.toNat<256:=x.toNat_lt;have hy:y.toNat<256:=y.toNat_lt;have h1:(x.toNat+256*enc a)%256=x.toNat:=by omega
  have h2:(x.toNat+256*enc a) / 256=enc a:=by omega
  have h3:(y.toNat+256*enc b)%256=y.toNat:=by omega
  have h4:(y.toNat+256*enc b) / 256=enc b:=by omega
  simp only[zqi,ltS,enc,h1,h2,h3,h4,Nat.add_sub_cancel,akn a b,Op.bytesLess,beqN_eq,bltN_eq];by_cases c1:x.toNat<y.toNat
  ·have:x<y:=UInt8.lt_iff_toNat_lt.2 c1;simp[c1,this]
  ·have n1:¬x<y:=fun h=>c1 (UInt8.lt_iff_toNat_lt.1 h);by_cases c2:x.toNat=y.toNat
   ·have:x=y:=UInt8.toNat_inj.1 c2;subst this;simp
   ·have:x≠y:=fun h=>c2 (by rw[h]);simp[c1,c2,n1,this]
theorem uB:∀(a b:List UInt8),Op.bytesLess b a=!(Op.bytesLess a b||a==b)
 | [],[]=>rfl
 | [],y ::b=>by simp[Op.bytesLess]
 |x ::a,[]=>by simp[Op.bytesLess]
 |x ::a,y ::b=>by
  simp only[Op.bytesLess,uB a b];by_cases c1:x<y
  ·have c2:¬y<x:=fun h=>by have:=UInt8.lt_iff_toNat_lt.1 c1;have:=UInt8.lt_iff_toNat_lt.1 h;omega
   have c3:y≠x:=fun h=>by subst h;exact c2 c1
   simp[c1,c2,c3]
  ·by_cases c3:x=y
   ·subst c3;simp
   ·have c2:y<x:=by rw[UInt8.lt_iff_toNat_lt]at c1 ⊢;have:x.toNat≠y.toNat:=fun h=>c3 (UInt8.toNat_inj.1 h);omega
    simp[c1,c2,c3]
theorem afL{ρ:Nat→Int}{μ:Mu}{P:Program}{w:World}{op:BinOp}{x y:ByteArray}{a:AV}
  (h:opS op x.data.toList.length (enc x.data.toList) y.data.toList.length (enc y.data.toList)=some a) :
  ∃v,(Op.stringOp op x y).run P w=.ok v w∧aS ρ μ a v:=by
 unfold opS at h;cases op<;>simp only[dI]at h<;>first|(cases h;done)|skip
 ·cases hb:Nat.ble (x.data.toList.length+y.data.toList.length) 4611686018427387904 with
  |false=>rw[hb]at h;cases h
  |true=>
  rw[hb]at h;simp only[cond_true,dI]at h;subst h;have vt:x.size+y.size≤4611686018427387904:=by rw[Nat.ble_eq]at hb;rw[Lib.size_eq,Lib.size_eq];exact hb
  refine⟨.string (x++y),?_,.str _ _ _ ?_ ?_⟩
  ·have hle:¬(((x.size+y.size:Nat):Int)>IntKind.i64.max):=by
    have:IntKind.i64.max=9223372036854775807:=by decide
    rw[this];omega
   simp only[Op.stringOp,if_neg hle,uE]
  ·rw[ByteArray.data_append];simp
  ·rw[ByteArray.data_append,Array.toList_append,acd];show _=_+Nat.shiftLeft _ _;have:Nat.shiftLeft (enc y.data.toList) (8*x.data.toList.length)=enc y.data.toList*2^(8*x.data.toList.length):=Nat.shiftLeft_eq _ _;rw[this,UT,Nat.mul_comm]
 all_goals subst h
 all_goals refine⟨_,?_,.bool _⟩
 all_goals simp only[Op.stringOp,ByteArray.toList_eq,uE,Result.ok.injEq,Value.bool.injEq,and_true,Vh,akn]
 ·rw[uB x.data.toList y.data.toList,Bool.not_not]
 ·rw[uB x.data.toList y.data.toList]
def zK(P:Program)(ρ:Nat→Int)(μ:Mu)(nt:Nat)(xs:List Operand)(tm:T AV)(ev:Operand→Value):Prop:=
 ∀x∈xs,∀px a,pX P nt x=some px→px.at tm=some a→aS ρ μ a (ev x)
theorem zK.sub{P:Program}{ρ:Nat→Int}{μ:Mu}{nt:Nat}{xs ys:List Operand}{tm:T AV}{ev:Operand→Value}(h:zK P ρ μ nt xs tm ev)(hs:∀y∈ys,y∈xs):zK P ρ μ nt ys tm ev:=
 fun x hx=>h x (hs x hx)
theorem map_some{α β:Type}{f:α→β}{x:Option α}{y:β}(h:x.map f=some y):∃a,x=some a∧f a=y:=by
 cases x with
 |none=>cases h
 |some a=>exact⟨a,rfl,by simpa using h⟩
theorem NY(vs:List Value)(arr:Array Value)(o:Nat)(h:o+vs.length≤arr.size) :
  (lg arr o vs).toList=arr.toList.take o++vs++arr.toList.drop (o+vs.length):=by
 apply List.ext_getElem?;intro j;rw[Array.getElem?_toList,jt vs arr o j h];by_cases h1:j<o
 ·rw[if_neg (by omega),List.append_assoc,List.getElem?_append_left (by simp;omega),List.getElem?_take_of_lt h1];simp
 ·by_cases h2:j<o+vs.length
  ·rw[if_pos (by omega),List.append_assoc,List.getElem?_append_right (by simp;omega),List.getElem?_append_left (by simp;omega)];congr 1;simp;omega
  ·rw[if_neg (by omega),List.getElem?_append_right (by simp;omega),List.getElem?_drop];have:o+vs.length+(j-(arr.toList.take o++vs).length)=j:=by simp;omega
   rw[this];simp
theorem FB(off:Nat):∀(l:List Value) (k:Nat) (vs:Array Value),
  (l.zipIdx k).foldl (fun(cs:Array Value) (p:Value×Nat)=>cs.setIfInBounds (off+p.2) p.1) vs=lg vs (off+k) l
 | [],_,_=>rfl
 |v ::l,k,vs=>by simp only[List.zipIdx_cons,List.foldl_cons,lg];rw[FB off l (k+1)];rfl
section
variable{P:Program}{ρ:Nat→Int}{w0:W0}{w:World}{μ:Mu}{G:Key→Option ah}{nx:Nat}{nt:Nat}{tm:T AV}{ev:Operand→Value}
theorem lq:∀{xs:List Operand} {ps:List PX} {l:List AV},OA P nt xs=some ps→atAll tm ps=some l→zK P ρ μ nt xs tm ev→ax ρ μ l (xs.map ev)
 | [],ps,l,hp,ha,hE=>by simp only[OA,dI]at hp;subst hp;simp only[atAll,dI]at ha;subst ha;exact .nil
 |x ::xs,ps,l,hp,ha,hE=>by
  simp only[OA]at hp;split at hp
  ·rename_i a r h1 h2;cases hp;simp only[atAll]at ha;split at ha
   ·cases ha
   ·rename_i v hv;split at ha
    ·cases ha
    ·rename_i m hm;cases ha;exact .cons _ _ _ _ (hE x (by simp) a v h1 hv) (lq h2 hm (hE.sub fun y hy=>by simp[hy]))
  ·cases hp
theorem yG{place:Nat→Option (Nat×Nat)}:∀{parts:List (Nat×Operand)} {ps:List (Nat×Nat×PX)} {cs Gj:List AV} {vs:Array Value},
  Iv P nt place parts=some ps→JE tm ps cs=some Gj→zK P ρ μ nt (parts.map (·.2)) tm ev→ax ρ μ cs vs.toList→
  ∃vs',Instr.fill place vs (parts.map fun(i,x)=>(i,ev x))=some vs'∧ax ρ μ Gj vs'.toList
 | [],ps,cs,Gj,vs,hp,hf,hE,hv=>by simp only[Iv,dI]at hp;subst hp;simp only[JE,dI]at hf;subst hf;exact⟨vs,rfl,hv⟩
 |(i,x) ::parts,ps,cs,Gj,vs,hp,hf,hE,hv=>by
  simp only[Iv]at hp;split at hp
  ·rename_i off size a r h1 h2 h3;cases hp;simp only[JE]at hf;split at hf
   ·cases hf
   ·rename_i u hu;cases hb:Nat.beq (lenL u.cells) size with
    |false=>rw[hb]at hf;cases hf
    |true=>
     rw[hb]at hf;simp only[cond_true,putC_eq]at hf;split at hf
     ·rename_i hle;have hs:u.cells.length=size:=by rw[lenL_eq]at hb;exact o9 hb
      have hr:aS ρ μ u (ev x):=hE x (by simp) a u h2 hu;have hrc:=hr.cells;have hlen:(ev x).cells.size=size:=by rw[←hs,hrc.length];simp
      have NJ:cs.length=vs.size:=by rw[hv.length];simp
      have ahE:((ev x).cells.zipIdx.foldl (fun cs (c,j)=>cs.setIfInBounds (off+j) c) vs).toList=vs.toList.take off++(ev x).cells.toList++vs.toList.drop (off+(ev x).cells.toList.length):=by rw[←NY _ _ _ (by simp;omega),←Nat.add_zero off,←FB];rw[←Array.foldl_toList];simp
      obtain⟨vs',aDH,rp⟩:=yG (vs:=(ev x).cells.zipIdx.foldl (fun cs (c,j)=>cs.setIfInBounds (off+j) c) vs) h3 hf (hE.sub fun y hy=>by simp at hy ⊢;exact .inr hy) (by rw[ahE];refine((hv.take off).append hrc).append ?_;rw[←hrc.length];exact hv.drop _)
      refine⟨vs',?_,rp⟩;simp only[Zw,Instr.fill,h1];rw[if_neg (by simp[hlen];omega)];exact aDH
     ·cases hf
  ·cases hp
end
section
variable{P:Program}{ρ:Nat→Int}{w0:W0}{w:World}{μ:Mu}{G:Key→Option ah}{nx:Nat}{orc:iG}
theorem hU{a:AV}{v:Value}{j:Nat}(h:pz a=some j)(hr:aS ρ μ a v):∃k,v=.int k (j:Int):=by
 unfold pz at h;split at h
 ·simp only[dI]at h;subst h;cases hr with
  |int k s n hn=>exact⟨_,by rw[←hn];rfl⟩
 ·cases h
theorem Wz{a b:AV}{r:Bool}(h:jq orc .bool a b=some r):∃x y,a=.bool x∧b=.bool y∧(x==y)=r:=by
 cases a<;>first|(simp[jq]at h;done)|skip
 cases b<;>first|(simp[jq]at h;done)|skip
 exact⟨_,_,rfl,rfl,by simpa[jq]using h⟩
theorem anz{a b:AV}{r:Bool}(h:jq orc .int a b=some r):∃k x y,a=.int k x∧b=.int k y∧GL orc .eql x y=some r:=by
 cases a<;>first|(simp[jq]at h;done)|skip
 cases b<;>first|(simp[jq]at h;done)|skip
 rename_i k1 s1 k2 s2;simp only[jq]at h;cases hk:beqKind k1 k2 with
 |false=>rw[hk]at h;cases h
 |true=>rw[hk]at h;have:=sg hk;subst this;exact⟨_,_,_,rfl,rfl,h⟩
theorem anA{a b:AV}{r:Bool}(h:jq orc .str a b=some r):∃n c m d,a=.str n c∧b=.str m d∧(Nat.beq n m&&Nat.beq c d)=r:=by
 cases a<;>first|(simp[jq]at h;done)|skip
 cases b<;>first|(simp[jq]at h;done)|skip
 simp only[jq,dI]at h;exact⟨_,_,_,_,rfl,rfl,h⟩
theorem ac3{a b:AV}{r:Bool}(h:jq orc .ptr a b=some r) :
  (a=.nilp∧b=.nilp∧r=true)∨(a=.nilp∧((∃k o,b=.ptr k o)∨∃l,b=.cref l)∧r=false)∨(((∃k o,a=.ptr k o)∨∃l,a=.cref l)∧b=.nilp∧r=false)∨
   (∃k o o',a=.ptr k o∧b=.ptr k o'∧decide (o=o')=r):=by
 cases a<;>first|(simp[jq]at h;done)|skip
 ·cases b<;>first|(simp[jq]at h;done)|skip
  ·rename_i b1 o1 b2 o2;simp only[jq]at h;cases hb:Key.beq b1 b2 with
   |false=>rw[hb]at h;cases h
   |true=>rw[hb]at h;have:=Key.eq_of_beq hb;subst this;simp only[cond_true,dI,beqN_eq]at h;exact .inr (.inr (.inr ⟨_,_,_,rfl,rfl,h⟩))
  ·simp only[jq,dI]at h;exact .inr (.inr (.inl ⟨.inl ⟨_,_,rfl⟩,rfl,h.symm⟩))
 ·cases b<;>first|(simp[jq]at h;done)|skip
  ·simp only[jq,dI]at h;exact .inr (.inl ⟨rfl,.inl ⟨_,_,rfl⟩,h.symm⟩)
  ·simp only[jq,dI]at h;exact .inl ⟨rfl,rfl,h.symm⟩
  ·simp only[jq,dI]at h;exact .inr (.inl ⟨rfl,.inr ⟨_,rfl⟩,h.symm⟩)
 ·cases b<;>first|(simp[jq]at h;done)|skip
  simp only[jq,dI]at h;exact .inr (.inr (.inl ⟨.inr ⟨_,rfl⟩,rfl,h.symm⟩))
theorem S9{a b:AV}{r:Bool}(h:jq orc .iface a b=some r) :
  (a=.nili∧b=.nili∧r=true)∨(a=.nili∧(∃t v,b=.iface t v)∧r=false)∨((∃t v,a=.iface t v)∧b=.nili∧r=false):=by
 cases a<;>first|(simp[jq]at h;done)|skip
 ·cases b<;>first|(simp[jq]at h;done)|skip
  simp only[jq,dI]at h;exact .inr (.inr ⟨⟨_,_,rfl⟩,rfl,h.symm⟩)
 ·cases b<;>first|(simp[jq]at h;done)|skip
  ·simp only[jq,dI]at h;exact .inr (.inl ⟨rfl,⟨_,_,rfl⟩,h.symm⟩)
  ·simp only[jq,dI]at h;exact .inl ⟨rfl,rfl,h.symm⟩
theorem Ta{a b:AV}{r:Bool}(h:jq orc .slice a b=some r) :
  (a=.nils∧b=.nils∧r=true)∨(a=.nils∧((∃k o l s,b=.slice k o l s)∨∃k o l s,b=.sl k o l s)∧r=false)∨(((∃k o l s,a=.slice k o l s)∨∃k o l s,a=.sl k o l s)∧b=.nils∧r=false):=by
 cases a<;>first|(simp[jq]at h;done)|skip
 ·cases b<;>first|(simp[jq]at h;done)|skip
  simp only[jq,dI]at h;exact .inr (.inr ⟨.inl ⟨_,_,_,_,rfl⟩,rfl,h.symm⟩)
 ·cases b<;>first|(simp[jq]at h;done)|skip
  ·simp only[jq,dI]at h;exact .inr (.inl ⟨rfl,.inl ⟨_,_,_,_,rfl⟩,h.symm⟩)
  ·simp only[jq,dI]at h;exact .inl ⟨rfl,rfl,h.symm⟩
  ·simp only[jq,dI]at h;exact .inr (.inl ⟨rfl,.inr ⟨_,_,_,_,rfl⟩,h.symm⟩)
 ·cases b<;>first|(simp[jq]at h;done)|skip
  simp only[jq,dI]at h;exact .inr (.inr ⟨.inr ⟨_,_,_,_,rfl⟩,rfl,h.symm⟩)
theorem WA{a b:AV}{r:Bool}(h:jq orc .func a b=some r) :
  (a=.nilf∧b=.nilf∧r=true)∨(a=.nilf∧(∃f x y,b=.fn f x y)∧r=false)∨((∃f x y,a=.fn f x y)∧b=.nilf∧r=false):=by
 cases a<;>first|(simp[jq]at h;done)|skip
 ·cases b<;>first|(simp[jq]at h;done)|skip
  simp only[jq,dI]at h;exact .inr (.inr ⟨⟨_,_,_,rfl⟩,rfl,h.symm⟩)
 ·cases b<;>first|(simp[jq]at h;done)|skip
  ·simp only[jq,dI]at h;exact .inr (.inl ⟨rfl,⟨_,_,_,rfl⟩,h.symm⟩)
  ·simp only[jq,dI]at h;exact .inl ⟨rfl,rfl,h.symm⟩
theorem ac4{a b:AV}{r:Bool}(h:jq orc .map a b=some r) :
  (a=.nilm∧b=.nilm∧r=true)∨(a=.nilm∧(∃k,b=.map k)∧r=false)∨((∃k,a=.map k)∧b=.nilm∧r=false):=by
 cases a<;>first|(simp[jq]at h;done)|skip
 ·cases b<;>first|(simp[jq]at h;done)|skip
  simp only[jq,dI]at h;exact .inr (.inr ⟨⟨_,rfl⟩,rfl,h.symm⟩)
 ·cases b<;>first|(simp[jq]at h;done)|skip
  ·simp only[jq,dI]at h;exact .inr (.inl ⟨rfl,⟨_,rfl⟩,h.symm⟩)
  ·simp only[jq,dI]at h;exact .inl ⟨rfl,rfl,h.symm⟩
def Pw(P:Program)(t:TypeId):K6→Prop
 |.bool=>P.underlying t=some .bool
 |.int=>∃k,P.underlying t=some (.int k)
 |.str=>P.underlying t=some .string
 |.ptr=>∃e i,P.underlying t=some (.pointer e)∧P.info? e=some i∧i.size≠0
 |.iface=>∃ms,P.underlying t=some (.interface ms)
 |.slice=>∃e,P.underlying t=some (.slice e)
 |.func=>∃a b c,P.underlying t=some (.func a b c)
 |.map=>∃a b,P.underlying t=some (.map a b)
 |.parts l=>(∃fs n,P.underlying t=some (.struct fs)∧P.stoodInHeld t=false∧eqFields P n fs.toList=some l)∨
   ∃len e i fs n l',P.underlying t=some (.array len e)∧P.info? e=some i∧P.underlying e=some (.struct fs)∧P.stoodInHeld e=false∧eqFields P n fs.toList=some l'∧(∀x∈l',x.1<i.size)∧l=K5 l' i.size len 0
theorem zi{n:Nat}{t:TypeId}{p:K6}(hp:eqP P n t=some p):Pw P t p:=by
 cases n with
 |zero=>simp[eqP]at hp
 |succ n=>
 unfold eqP at hp;split at hp
 ·cases hp;assumption
 ·cases hp;exact⟨_,‹_›⟩
 ·cases hp;assumption
 ·rename_i e hu;split at hp
  ·rename_i i hi;cases hz:Nat.beq i.size 0 with
   |true=>rw[hz]at hp;cases hp
   |false=>rw[hz]at hp;simp only[cond_false,dI]at hp;subst hp;exact⟨e,i,hu,hi,by intro e;rw[e]at hz;cases hz⟩
  ·cases hp
 ·cases hp;exact⟨_,‹_›⟩
 ·cases hp;exact⟨_,‹_›⟩
 ·cases hp;exact⟨_,_,_,‹_›⟩
 ·cases hp;exact⟨_,_,‹_›⟩
 ·cases hs:P.stoodInHeld t with
  |true=>rw[hs]at hp;cases hp
  |false=>
   rw[hs]at hp;simp only[cond_false]at hp;split at hp
   ·cases hp;exact .inl ⟨_,n,‹_›,hs,‹_›⟩
   ·cases hp
 ·rename_i len e hu;split at hp
  ·rename_i fs l i hue Tr hi;cases hb:l.all (fun x=>Nat.blt x.1 i.size)with
   |false=>rw[hb]at hp;cases hp
   |true=>
    rw[hb]at hp;simp only[cond_true,dI]at hp;subst hp;have bY:∀x∈l,x.1<i.size:=by
     intro x hx;have:=vJ.1 hb x hx
     rwa [bltN_eq,decide_eq_true_eq]at this
    cases n with
    |zero=>simp[eqP]at Tr
    |succ n=>
    unfold eqP at Tr;rw[hue]at Tr;simp only at Tr;cases hs:P.stoodInHeld e with
    |true=>rw[hs]at Tr;cases Tr
    |false=>
     rw[hs]at Tr;simp only[cond_false]at Tr;split at Tr
     ·simp only[dI,K6.parts.injEq]at Tr;subst Tr;exact .inr ⟨len,e,i,fs,n,_,hu,hi,hue,hs,‹_›,bY,rfl⟩
     ·cases Tr
  ·cases hp
 ·cases hp
set_option maxHeartbeats 1000000 in
theorem oq(ho:ep ρ orc){p:K6}{t:TypeId}(hp:Pw P t p)(bU:∀l,p≠.parts l){a b:AV}{r:Bool}(h:jq orc p a b=some r)
  {x y:Value} (hx:aS ρ μ a x) (hy:aS ρ μ b y) (d:Nat):(Op.equalIn (d+1) t x y).run P w=.ok r w:=by
 cases p with
 |bool=>obtain⟨x',y',rfl,rfl,hr⟩:=Wz h;cases hx;cases hy;have hu:P.underlying t=some .bool:=hp;simp only[Op.equalIn,qC,au hu,nz,uE,hr]
 |int=>
  obtain⟨k,x',y',rfl,rfl,hr⟩:=anz h;obtain⟨k',hu⟩:=hp;have hc:=w9 ho hr;cases hx with|int _ _ n1 h1=>cases hy with|int _ _ n2 h2=>
  rw[h1,h2]at hc;simp only[fF,dI]at hc;simp only[Op.equalIn,qC,au hu,nz,if_true,uE,hc]
 |str=>
  obtain⟨n1,c1,n2,c2,rfl,rfl,hr⟩:=anA h;have hu:P.underlying t=some .string:=hp;cases hx with|str _ _ s1 h1 zI=>cases hy with|str _ _ s2 h2 Q4=>
  subst h1 zI h2 Q4;rw[Vh]at hr;simp only[Op.equalIn,qC,au hu,nz,uE,Result.ok.injEq,and_true];rw[beq_toListBytes,ByteArray.toList_eq,ByteArray.toList_eq];exact hr
 |ptr=>
  obtain⟨e,i,hu,hi,vt⟩:=hp;rcases ac3 h with⟨rfl,rfl,rfl⟩|⟨rfl,⟨_,_,rfl⟩|⟨_,rfl⟩,rfl⟩|⟨⟨_,_,rfl⟩|⟨_,rfl⟩,rfl,rfl⟩|⟨k,o1,o2,rfl,rfl,hr⟩
  ·cases hx;cases hy;simp[Op.equalIn,au hu]
  ·cases hx;cases hy;simp[Op.equalIn,au hu]
  ·cases hx;cases hy;simp[Op.equalIn,au hu]
  ·cases hx;cases hy;simp[Op.equalIn,au hu]
  ·cases hx;cases hy;simp[Op.equalIn,au hu]
  ·cases hx with|ptr _ _ l1 a1 m1 e1=>cases hy with|ptr _ _ l2 a2 m2 e2=>
   rw[m1]at m2;cases m2;subst e1 e2;simp only[Op.equalIn,qC,au hu,nz,bu hi,Sem.run_ite,ne_eq,vt,not_false_eq_true,if_true,sameAddr,beq_self_eq_true,uE];simp only[Result.ok.injEq,and_true];rw[←hr,Bool.eq_iff_iff];simp
 |iface=>obtain⟨ms,hu⟩:=hp;rcases S9 h with⟨rfl,rfl,rfl⟩|⟨rfl,⟨_,_,rfl⟩,rfl⟩|⟨⟨_,_,rfl⟩,rfl,rfl⟩<;>(cases hx;cases hy;simp[Op.equalIn,au hu])
 |slice=>obtain⟨e,hu⟩:=hp;rcases Ta h with⟨rfl,rfl,rfl⟩|⟨rfl,⟨_,_,_,_,rfl⟩|⟨_,_,_,_,rfl⟩,rfl⟩|⟨⟨_,_,_,_,rfl⟩|⟨_,_,_,_,rfl⟩,rfl,rfl⟩<;>(cases hx;cases hy;simp[Op.equalIn,au hu])
 |func=>obtain⟨_,_,_,hu⟩:=hp;rcases WA h with⟨rfl,rfl,rfl⟩|⟨rfl,⟨_,_,_,rfl⟩,rfl⟩|⟨⟨_,_,_,rfl⟩,rfl,rfl⟩<;>(cases hx;cases hy;simp[Op.equalIn,au hu])
 |map=>obtain⟨_,_,hu⟩:=hp;rcases ac4 h with⟨rfl,rfl,rfl⟩|⟨rfl,⟨_,rfl⟩,rfl⟩|⟨⟨_,rfl⟩,rfl,rfl⟩<;>(cases hx;cases hy;simp[Op.equalIn,au hu])
 |parts l=>exact absurd rfl (bU l)
theorem xn(ho:ep ρ orc){A B:List AV}{xs ys:Array Value}(hx:ax ρ μ A xs.toList)(hy:ax ρ μ B ys.toList)(d:Nat) :
  ∀(n:Nat) (fs:List Field) (l:List (Nat×K6)) (r:Bool),eqFields P n fs=some l→cJ orc l A B=some r→(Op.eqFields (d+1) xs ys fs).run P w=.ok r w
 |n,[],l,r,hf,hp=>by
  have:l=[]:=by cases n<;>simpa[eqFields]using hf.symm
  subst this;simp only[cJ,dI]at hp;subst hp;rfl
 |0,f ::fs,l,r,hf,hp=>by simp[eqFields]at hf
 |n+1,f ::fs,l,r,hf,hp=>by
  simp only[eqFields]at hf;cases hn : (f.name == "_") with
  |true=>rw[hn]at hf;cases hf
  |false=>
   rw[hn]at hf;simp only[cond_false]at hf;have key:∀(q:K6) (l':List (Nat×K6)),eqP P n f.type=some q→(∀l,q≠.parts l)→eqFields P n fs=some l'→l=(f.offset,q) ::l'→(Op.eqFields (d+1) xs ys (f ::fs)).run P w=.ok r w:=by
    intro q l' hq hqn Te hl;subst hl;simp only[cJ,nth_eq]at hp;split at hp
    ·rename_i x y h1 h2;have sO:=zi hq;obtain⟨d',Jh⟩:∃d',P.underlying f.type=some d':=by
      cases q with
      |bool=>exact⟨_,sO⟩
      |int=>obtain⟨k,hk⟩:=sO;exact⟨_,hk⟩
      |str=>exact⟨_,sO⟩
      |ptr=>obtain⟨_,_,hk,_⟩:=sO;exact⟨_,hk⟩
      |iface=>obtain⟨_,hk⟩:=sO;exact⟨_,hk⟩
      |slice=>obtain⟨_,hk⟩:=sO;exact⟨_,hk⟩
      |func=>obtain⟨_,_,_,hk⟩:=sO;exact⟨_,hk⟩
      |map=>obtain⟨_,_,hk⟩:=sO;exact⟨_,hk⟩
      |parts _=>exact absurd rfl (hqn _)
     have aEB:Rl d'=false:=by
      cases q with
      |bool=>have hk:P.underlying f.type=some .bool:=sO;rw[hk]at Jh;cases Jh;rfl
      |int=>obtain⟨k,hk⟩:=sO;rw[hk]at Jh;cases Jh;rfl
      |str=>have hk:P.underlying f.type=some .string:=sO;rw[hk]at Jh;cases Jh;rfl
      |ptr=>obtain⟨_,_,hk,_⟩:=sO;rw[hk]at Jh;cases Jh;rfl
      |iface=>obtain⟨_,hk⟩:=sO;rw[hk]at Jh;cases Jh;rfl
      |slice=>obtain⟨_,hk⟩:=sO;rw[hk]at Jh;cases Jh;rfl
      |func=>obtain⟨_,_,_,hk⟩:=sO;rw[hk]at Jh;cases Jh;rfl
      |map=>obtain⟨_,_,hk⟩:=sO;rw[hk]at Jh;cases Jh;rfl
      |parts _=>exact absurd rfl (hqn _)
     have apq:∀(L:List AV) (vs:Array Value) (u:AV),ax ρ μ L vs.toList→L[f.offset]?=some u→∃v,(part f.type vs f.offset).run P w=.ok v w∧aS ρ μ u v:=by
      intro L vs u hL hu;obtain⟨v,hv,hr⟩:=hL.get f.offset u hu;refine⟨v,?_,hr⟩;have:vs[f.offset]?=some v:=by simpa using hv
      simp[part,wi Jh,aEB,this]
     obtain⟨vx,hvx,hrx⟩:=apq A xs x hx h1;obtain⟨vy,hvy,hry⟩:=apq B ys y hy h2;have bU : f.name ≠ "_" := by simpa using hn
     simp only[Op.eqFields,ne_eq,bU,not_false_eq_true,if_true,qC,hvx,hvy,nz];split at hp
     ·rename_i he;rw[oq ho sO hqn he hrx hry d];simp only[nz,Bool.not_true,SH,if_false];exact xn ho hx hy d n fs l' r Te hp
     ·rename_i he;cases hp;rw[oq ho sO hqn he hrx hry d];simp
     ·cases hp
    ·cases hp
   split at hf
   ·simp only[dI]at hf;exact key _ _ ‹_› (by intro l;simp) ‹_› hf.symm
   ·simp only[dI]at hf;exact key _ _ ‹_› (by intro l;simp) ‹_› hf.symm
   ·simp only[dI]at hf;exact key _ _ ‹_› (by intro l;simp) ‹_› hf.symm
   ·cases hf
theorem M8(A B:List AV):∀(l m:List (Nat×K6)),cJ orc (l++m) A B=(match cJ orc l A B with|some true=>cJ orc m A B|some false=>some false|none=>none)
 | [],m=>by simp[cJ]
 |(off,p) ::l,m=>by
  simp only[List.cons_append,cJ,M8 A B l m];split
  ·split
   ·rfl
   ·rfl
   ·rfl
  ·rfl
theorem Ic(A B:List AV)(off sz:Nat):∀(l:List (Nat×K6)),(∀x∈l,x.1<sz)→cJ orc (l.map fun x=>(off+x.1,x.2)) A B=cJ orc l ((A.drop off).take sz) ((B.drop off).take sz)
 | [],_=>by simp[cJ]
 |(o,p) ::l,h=>by
  have h0:o<sz:=h (o,p) (by simp);have e:∀(L:List AV),((L.drop off).take sz)[o]?=L[off+o]?:=by intro L;rw[List.getElem?_take_of_lt h0,List.getElem?_drop]
  simp only[Zw,cJ,nth_eq,e,Ic A B off sz l fun x hx=>h x (by simp[hx])]
theorem YJ{e:TypeId}{i:TypeInfo}{fs:Array Field}(hi:P.info? e=some i)(hu:P.underlying e=some (.struct fs))(xs:Array Value)(off:Nat) :
  (part e xs off).run P w=.ok (.agg (xs.extract off (off+i.size))) w:=by
 simp[part,wi hu,Rl,bu hi]
theorem M9{A:List AV}{xs:Array Value}(hx:ax ρ μ A xs.toList)(off n:Nat):ax ρ μ ((A.drop off).take n) (xs.extract off (off+n)).toList:=by
 have:(xs.extract off (off+n)).toList=(xs.toList.drop off).take n:=by simp[List.extract]
 rw[this];exact(hx.drop off).take n
theorem Ie(ho:ep ρ orc){e:TypeId}{i:TypeInfo}{fs:Array Field}{n:Nat}{l:List (Nat×K6)}(hi:P.info? e=some i)(hu:P.underlying e=some (.struct fs))(dy:P.stoodInHeld e=false)(hf:eqFields P n fs.toList=some l)(bY:∀x∈l,x.1<i.size)
  {A B:List AV} {xs ys:Array Value} (hx:ax ρ μ A xs.toList) (hy:ax ρ μ B ys.toList) (d:Nat) :
  ∀(m j:Nat) (r:Bool),cJ orc (K5 l i.size m (j*i.size)) A B=some r→(Op.eqItems (d+2) e i.size xs ys (List.range' j m)).run P w=.ok r w
 |0,j,r,h=>by simp only[K5,cJ,dI]at h;subst h;simp[Op.eqItems]
 |m+1,j,r,h=>by
  simp only[K5,M8,Ic A B _ i.size l bY]at h;have hfo:P.fieldsOf e=fs:=by simp[Program.fieldsOf,hu]
  have he:∀q,cJ orc l ((A.drop (j*i.size)).take i.size) ((B.drop (j*i.size)).take i.size)=some q→
    (Op.equalIn (d+2) e (.agg (xs.extract (j*i.size) (j*i.size+i.size))) (.agg (ys.extract (j*i.size) (j*i.size+i.size)))).run P w=.ok q w:=by
   intro q hq;rw[show d+2=d+1+1 from rfl,run_equalIn_agg w (d+1) e _ _ (by rw[hfo];exact hu) dy,hfo];exact xn ho (M9 hx _ _) (M9 hy _ _) d n fs.toList l q hf hq
  simp only[List.range'_succ,Op.eqItems,qC,YJ hi hu,nz];split at h
  ·rename_i hq;rw[he _ hq];simp only[nz,Bool.not_true,SH,if_false];have hj:(j+1)*i.size=j*i.size+i.size:=by rw[Nat.add_mul,Nat.one_mul]
   exact Ie ho hi hu dy hf bY hx hy d m (j+1) r (by rw[hj];exact h)
  ·rename_i hq;cases h;rw[he _ hq];simp
  ·cases h
theorem WB(ho:ep ρ orc){t:TypeId}{l:List (Nat×K6)}(hp:Pw P t (.parts l)){A B:List AV}{xs ys:Array Value}(hx:ax ρ μ A xs.toList)(hy:ax ρ μ B ys.toList){r:Bool}(h:cJ orc l A B=some r)(d:Nat) :
  (Op.equalIn (d+3) t (.agg xs) (.agg ys)).run P w=.ok r w:=by
 rcases hp with⟨fs,n,hu,dy,hf⟩|⟨len,e,i,fs,n,l',hu,hi,hue,dy,hf,bY,rfl⟩
 ·have hfo:P.fieldsOf t=fs:=by simp[Program.fieldsOf,hu]
  rw[show d+3=d+2+1 from rfl,run_equalIn_agg w (d+2) t xs ys (by rw[hfo];exact hu) dy,hfo];exact xn ho hx hy (d+1) n fs.toList l r hf h
 ·have hc:P.cellsOf e=i.size:=by simp[Program.cellsOf,hi]
  rw[show d+3=d+2+1 from rfl,run_equalIn_array w (d+2) xs ys hu hi,hc,List.range_eq_range'];exact Ie ho hi hue dy hf bY hx hy d len 0 r (by simpa using h)
end
section
variable{P:Program}{ρ:Nat→Int}{w0:W0}{w:World}{μ:Mu}{G:Key→Option ah}{nx:Nat}{orc:iG}{nt:Nat}{tm:T AV}{ev:Operand→Value}
theorem jr{lo:Option Operand}{plo:Option PX}(hp:ago P nt lo=some plo){alF l:Nat}(hb:lK tm alF plo=some l){xs:List Operand}(hE:zK P ρ μ nt xs tm ev)
  (hx:∀x,lo=some x→x∈xs):(lo=none∧l=alF)∨(∃x k,lo=some x∧ev x=.int k (l:Int)):=by
 cases lo with
 |none=>simp only[ago,dI]at hp;subst hp;simp only[lK,dI]at hb;exact .inl ⟨rfl,hb.symm⟩
 |some x=>
  right;simp only[ago]at hp;split at hp
  ·rename_i a ha;cases hp;simp only[lK]at hb;split at hb
   ·cases hb
   ·rename_i v hv;obtain⟨k,hk⟩:=hU hb (hE x (hx x rfl) a v ha hv);exact⟨x,k,rfl,hk⟩
  ·cases hp
theorem qn{k:IntKind}{i y:Nat}(code:BoundsCode)(h:i≤y):(Instr.sliceBound (.int k (i:Int)) y code).run P w=.ok i w:=by simp only[Instr.sliceBound,asIntOf,qC,uE,nz];rw[if_pos (by omega)];simp
theorem nH{isSlice:Bool}{len cap l r:Nat}{lo hi:Option Value}(xH:(lo=none∧l=0)∨∃k,lo=some (.int k (l:Int)))(hhi:(hi=none∧r=len)∨∃k,hi=some (.int k (r:Int)))
  (h1:l≤r) (h2:r≤len) (h3:len≤cap):(Instr.sliceBounds isSlice len cap lo hi none).run P w=.ok (l,r,cap) w:=by
 rcases xH with⟨rfl,rfl⟩|⟨k,rfl⟩<;>rcases hhi with⟨rfl,rfl⟩|⟨k',rfl⟩<;>simp only[Instr.sliceBounds,qC,uE,nz]
 ·rw[qn _ (by omega)];rfl
 ·rw[qn _ (by omega)];rfl
 ·rw[qn _ (by omega),nz,qn _ (by omega)];rfl
def B9(P:Program)(kt:TypeId)(sk:Bool)(kd:TypeDesc):Prop:=P.underlying kt=some kd∧(if sk then kd=.string else ∃k,kd=.int k)
theorem yM(ho:ep ρ orc){kt:TypeId}{kd:TypeDesc}{sk:Bool}(hu:B9 P kt sk kd){k a:AV}{x y:Value}(hx:aS ρ μ k x)(hy:aS ρ μ a y){b:Bool}
  (hb:keyEq orc sk k a=some b):Instr.sameNow kd x y=some b:=by
 obtain⟨_,HF⟩:=hu;cases k<;>first|(simp[keyEq]at hb;done)|skip
 ·cases a<;>first|(simp[keyEq]at hb;done)|skip
  rename_i k1 s1 k2 s2;simp only[keyEq]at hb;cases hk:beqKind k1 k2 with
  |false=>rw[hk]at hb;cases hb
  |true=>
   rw[hk]at hb;cases sk with
   |true=>cases hb
   |false=>
    have:=sg hk;subst this;simp only[Bool.not_false,Bool.and_true,cond_true]at hb;have hc:=w9 ho hb;cases hx with|int _ _ n1 e1=>cases hy with|int _ _ n2 e2=>
    rw[e1,e2]at hc;simp only[fF,dI]at hc;obtain⟨k',rfl⟩:∃k,kd=.int k:=by simpa using HF
    simp[Instr.sameNow,hc]
 ·cases a<;>first|(simp[keyEq]at hb;done)|skip
  cases sk with
  |false=>simp[keyEq]at hb
  |true=>
   simp only[keyEq,cond_true,dI]at hb;cases hx with|str _ _ s1 e1 zB=>cases hy with|str _ _ s2 e2 ZM=>
   subst e1 zB e2 ZM;rw[Vh]at hb;have:kd=.string:=by simpa using HF
   subst this;simp only[Instr.sameNow,dI];rw[beq_toListBytes,ByteArray.toList_eq,ByteArray.toList_eq];exact hb
def akb(ρ:Nat→Int)(μ:Mu):Option AV→Option (Nat×Value)→Prop
 |none,none=>True
 |some a,some (_,v)=>aS ρ μ a v
 |_,_=>False
theorem Fu(ho:ep ρ orc){kt:TypeId}{kd:TypeDesc}{sk:Bool}(hu:B9 P kt sk kd){k:AV}{x:Value}(hx:aS ρ μ k x) :
  ∀{l:List (AV×AV)} {es:List MapEntry} (i:Nat) {r:Option AV},yz ρ μ l es→findK orc sk k l=some r→
   ∃f,Instr.findNow kd x es i=some f∧akb ρ μ r f
 | [],[],i,r,hp,h=>by simp only[findK,dI]at h;subst h;exact⟨none,rfl,trivial⟩
 | [],_ ::_,i,r,hp,h=>hp.elim
 |(_,_) ::_,[],i,r,hp,h=>hp.elim
 |(a,v) ::l,e ::es,i,r,hp,h=>by
  obtain⟨h1,h2,h3⟩:=hp;simp only[findK]at h;split at h
  ·rename_i hk;cases h;refine⟨some (i,e.val),?_,h2⟩;simp[Instr.findNow,yM ho hu hx h1 hk]
  ·rename_i hk;obtain⟨f,hf,hr⟩:=Fu ho hu hx (i+1) h3 h;refine⟨f,?_,hr⟩;simp[Instr.findNow,yM ho hu hx h1 hk,hf]
  ·cases h
theorem run_findKey{kt:TypeId}{kd:TypeDesc}(hu:P.underlying kt=some kd){x:Value}{es:List MapEntry}{f:Option (Nat×Value)}(h:Instr.findNow kd x es 0=some f) :
  (Instr.findKey kt x es).run P w=.ok f w:=by
 simp[Instr.findKey,au hu,h]
theorem run_checkKey{kt:TypeId}{kd:TypeDesc}{sk:Bool}(hu:B9 P kt sk kd)(e:Bool)(n:Nat)(x:Value):(Instr.checkKey e (n+1) kt x).run P w=.ok () w:=by
 obtain⟨hu,hk⟩:=hu;cases sk with
 |true=>
  have:kd=.string:=by simpa using hk
  subst this;simp[Instr.checkKey,au hu]
 |false=>
  obtain⟨k,rfl⟩:∃k,kd=.int k:=by simpa using hk
  simp[Instr.checkKey,au hu]
end
section
variable{P:Program}{ρ:Nat→Int}{w0:W0}{w:World}{μ:Mu}{G:Key→Option ah}{nx:Nat}{orc:iG}{nt:Nat}{tm:T AV}{H:T ah}{ev:Operand→Value}
theorem eQ{s:Sem Value}{v:Value}{w':World}(h:s.run P w=.ok v w'):(do pure (Next.value (←s)):Sem Next).run P w=.ok (.value v) w':=by simp[h]
theorem aQ{α:Type}{b:Bool}{x:Option α}{y:α}(h:(bif b then x else none)=some y):b=true∧x=some y:=by
 cases b with
 |true=>exact⟨rfl,h⟩
 |false=>cases h
theorem anv(k yk:IntKind)(a:Int)(n:Nat)(hle:n≤k.bits):(Op.shift .shl k a yk (n:Int)).run P w=.ok (.int k (k.wrap (a*2^n))) w:=by
 have h0:¬((n:Int)<0):=by omega
 have:min n k.bits=n:=by omega
 simp[Op.shift,h0,this]
theorem ad9(k yk:IntKind)(a:Int)(n:Nat)(hle:n≤k.bits):(Op.shift .shr k a yk (n:Int)).run P w=.ok (.int k (a.fdiv (2^n))) w:=by
 have h0:¬((n:Int)<0):=by omega
 have:min n k.bits=n:=by omega
 simp[Op.shift,h0,this]
theorem afd(ho:ep ρ orc){op:BinOp}{t:TypeId}{X Y:Operand}{a b:AV}{x y:Value}(hx:aS ρ μ a x)(hy:aS ρ μ b y){r:AV}
  (h:lightOp orc (.bin op (.v a) (.v b)) tm H=some r) :
  ∃v,(do eqGuard op t X Y x y;Go.binOp op t x y:Sem Value).run P w=.ok v w∧aS ρ μ r v:=by
 simp only[lightOp,PX.at]at h;cases hx<;>first|(simp at h;done)|skip
 ·cases hy<;>first|(simp at h;done)|skip
  rename_i k1 s1 n1 e1 k2 s2 n2 e2;have hg:(eqGuard op t X Y (.int k1 n1) (.int k2 n2)).run P w=.ok () w:=by cases op<;>simp[eqGuard]
  simp only[qC,hg,nz];have rest:(bif beqKind k1 k2 then(bif isCmp op then(match GL orc op s1 s2 with|some r=>some (AV.bool r)|none=>none)else(match arith op k1 s1 s2 with|some r=>some (AV.int k1 r)|none=>none))else none)=some r→
    ∃v,(Go.binOp op t (.int k1 n1) (.int k2 n2)).run P w=.ok v w∧aS ρ μ r v:=by
   intro hq;obtain⟨hk,hq2⟩:=aQ hq;have:=sg hk;subst this;clear hq h;cases hc:isCmp op with
   |true=>
    rw[hc]at hq2;simp only[cond_true]at hq2;split at hq2
    ·rename_i r' hr';cases hq2;have hd:=w9 ho hr';rw[e1,e2]at hd;refine⟨.bool r',?_,.bool _⟩;rw[←ab4 (P:=P) (w:=w) hd];cases op<;>simp[isCmp]at hc<;>simp[Go.binOp]
    ·cases hq2
   |false=>
    rw[hc]at hq2;simp only[cond_false]at hq2;split at hq2
    ·rename_i r' hr';cases hq2;have:=MU (ρ:=ρ) (P:=P) (w:=w) t hr';rw[e1,e2]at this;exact⟨_,this,.int _ _ _ rfl⟩
    ·cases hq2
  cases op<;>first|exact rest h|skip
  ·simp only at h;split at h
   ·rename_i a n;obtain⟨hsh,h2⟩:=aQ h;cases h2;have ZM:n2=(n:Int):=e2.symm;have zB:n1=a:=e1.symm;subst ZM zB;refine⟨_,anv k1 k2 n1 n (Vi hsh),.int _ _ _ ?_⟩;simp only[SI.den,gW];apply congrArg;show n1*((2^n:Nat):Int)=n1*2^n;simp
   ·cases h
  ·simp only at h;split at h
   ·rename_i a n;obtain⟨hsh,h2⟩:=aQ h;cases h2;have ZM:n2=(n:Int):=e2.symm;have zB:n1=(a:Int):=e1.symm;subst ZM zB;refine⟨_,ad9 k1 k2 a n (Vi hsh),.int _ _ _ ?_⟩;simp only[SI.den];show((a / 2^n:Nat):Int)=_;have hp:(0:Int)≤2^n:=by
     have:((2^n:Nat):Int)=2^n:=by simp
     exact this ▸ Int.natCast_nonneg _
    rw[Int.fdiv_eq_ediv_of_nonneg _ hp];simp
   ·rename_i a n;obtain⟨hsh,h2⟩:=aQ h;cases h2;have ZM:n2=(n:Int):=e2.symm;have zB:n1=Int.negSucc a:=e1.symm;subst ZM zB;refine⟨_,ad9 k1 k2 (Int.negSucc a) n (Vi hsh),.int _ _ _ ?_⟩;simp only[SI.den];have hc:((2:Int)^n)=((2^n:Nat):Int):=by simp
    rw[hc];have Lw:0<2^n:=Nat.two_pow_pos n;obtain⟨m,hm⟩:∃m,2^n=m+1:=⟨2^n-1,by omega⟩;show Int.negSucc (a / 2^n)=_;rw[hm];rfl
   ·cases h
 ·cases hy<;>first|(simp at h;done)|skip
  rename_i n1 c1 s1 h1 zI n2 c2 s2 h2 Q4;subst h1 zI h2 Q4;have hg:(eqGuard op t X Y (.string s1) (.string s2)).run P w=.ok () w:=by cases op<;>simp[eqGuard]
  simp only[qC,hg,nz];obtain⟨v,hv,hr⟩:=afL (P:=P) (w:=w) (ρ:=ρ) (μ:=μ) (x:=s1) (y:=s2) h;refine⟨v,?_,hr⟩;rw[←hv];cases op<;>simp[Go.binOp]
end
section
variable{P:Program}{ρ:Nat→Int}{w0:W0}{w:World}{μ:Mu}{G:Key→Option ah}{nx:Nat}{orc:iG}{nt:Nat}{tm:T AV}{H:T ah}{ev:Operand→Value}
theorem NL(op:BinOp)(t:TypeId){X Y:Operand}(h:jH X=true∨jH Y=true):(eqGuard op t X Y .nilIface .nilIface).run P w=.ok () w:=by
 rcases h with h|h
 ·cases X<;>simp[jH]at h;cases op<;>simp[eqGuard]
 ·cases Y<;>simp[jH]at h;cases op<;>simp[eqGuard]
theorem ahX(ho:ep ρ orc){op:BinOp}{neg:Bool}(ki:op=if neg then .neq else .eql){t:TypeId}{p:K6}(hp:Pw P t p)(hni:p≠.int)(hns:p≠.str)
  {X Y:Operand} {a b:AV} {x y:Value} (hx:aS ρ μ a x) (hy:aS ρ μ b y) {r:Bool} (h:jq orc p a b=some r)
  (hg:(∃l,p=.parts l)→P.eqGuardType P.depth t=false) (hc:p=.iface→jH X=true∨jH Y=true) :
  (do eqGuard op t X Y x y;Go.binOp op t x y:Sem Value).run P w=.ok (.bool (bif neg then !r else r)) w:=by
 have fin:∀(x y:Value),(eqGuard op t X Y x y).run P w=.ok () w→(Op.equalIn 10000 t x y).run P w=.ok r w→(∀(k:IntKind) (n:Int),x≠.int k n)→(∀s,x≠.string s)→(∀k n,x≠.float k n)→(∀k n m,x≠.complex k n m)→
   (do eqGuard op t X Y x y;Go.binOp op t x y:Sem Value).run P w=.ok (.bool (bif neg then !r else r)) w:=by
  intro x y hg he h1 h2 h3 h4;simp only[qC,hg,nz];subst ki;cases neg with
  |false=>
   simp only[SH,if_false,cond_false];cases x<;>first|exact absurd rfl (h1 _ _)|exact absurd rfl (h2 _)|exact absurd rfl (h3 _ _)|exact absurd rfl (h4 _ _ _)|skip
   all_goals simp only[Go.binOp,Op.equal,Op.maxDepth,qC,he,nz,uE]
  |true=>
   simp only[if_true,cond_true];cases x<;>first|exact absurd rfl (h1 _ _)|exact absurd rfl (h2 _)|exact absurd rfl (h3 _ _)|exact absurd rfl (h4 _ _ _)|skip
   all_goals simp only[Go.binOp,Op.equal,Op.maxDepth,qC,he,nz,uE]
 have S8:∀(x y:Value),(∀v,x≠.agg v)→x≠.nilIface→(eqGuard op t X Y x y).run P w=.ok () w:=by intro x y h1 h2;subst ki;cases neg<;>cases x<;>first|exact absurd rfl (h1 _)|exact absurd rfl h2|simp[eqGuard]
 cases p with
 |int=>exact absurd rfl hni
 |str=>exact absurd rfl hns
 |bool=>have he:=oq (P:=P) (w:=w) ho hp (by intro l;simp) h hx hy 9999;obtain⟨x',y',rfl,rfl,hr⟩:=Wz h;cases hx;cases hy;exact fin _ _ (S8 _ _ (by simp) (by simp)) he (by simp) (by simp) (by simp) (by simp)
 |ptr=>
  have he:=oq (P:=P) (w:=w) ho hp (by intro l;simp) h hx hy 9999;have:∃q,x=.pointer q:=by rcases ac3 h with⟨rfl,rfl,rfl⟩|⟨rfl,⟨_,_,rfl⟩|⟨_,rfl⟩,rfl⟩|⟨⟨_,_,rfl⟩|⟨_,rfl⟩,rfl,rfl⟩|⟨k,o1,o2,rfl,rfl,hr⟩<;>(cases hx;exact⟨_,rfl⟩)
  obtain⟨q,rfl⟩:=this;exact fin _ _ (S8 _ _ (by simp) (by simp)) he (by simp) (by simp) (by simp) (by simp)
 |iface=>
  have he:=oq (P:=P) (w:=w) ho hp (by intro l;simp) h hx hy 9999;have aAm:=hc rfl;have hgi:(eqGuard op t X Y .nilIface .nilIface).run P w=.ok () w:=NL op t aAm;rcases S9 h with⟨rfl,rfl,rfl⟩|⟨rfl,⟨_,_,rfl⟩,rfl⟩|⟨⟨_,_,rfl⟩,rfl,rfl⟩
  ·cases hx;cases hy;exact fin _ _ hgi he (by simp) (by simp) (by simp) (by simp)
  ·cases hx;cases hy;exact fin _ _ (by subst ki;cases neg<;>simp[eqGuard]) he (by simp) (by simp) (by simp) (by simp)
  ·cases hx;cases hy;exact fin _ _ (S8 _ _ (by simp) (by simp)) he (by simp) (by simp) (by simp) (by simp)
 |slice=>
  have he:=oq (P:=P) (w:=w) ho hp (by intro l;simp) h hx hy 9999;have:∃q l c,x=.slice q l c:=by rcases Ta h with⟨rfl,rfl,rfl⟩|⟨rfl,⟨_,_,_,_,rfl⟩|⟨_,_,_,_,rfl⟩,rfl⟩|⟨⟨_,_,_,_,rfl⟩|⟨_,_,_,_,rfl⟩,rfl,rfl⟩<;>(cases hx;exact⟨_,_,_,rfl⟩)
  obtain⟨_,_,_,rfl⟩:=this;exact fin _ _ (S8 _ _ (by simp) (by simp)) he (by simp) (by simp) (by simp) (by simp)
 |func=>have he:=oq (P:=P) (w:=w) ho hp (by intro l;simp) h hx hy 9999;rcases WA h with⟨rfl,rfl,rfl⟩|⟨rfl,⟨_,_,_,rfl⟩,rfl⟩|⟨⟨_,_,_,rfl⟩,rfl,rfl⟩<;>(cases hx;exact fin _ _ (S8 _ _ (by simp) (by simp)) he (by simp) (by simp) (by simp) (by simp))
 |map=>have he:=oq (P:=P) (w:=w) ho hp (by intro l;simp) h hx hy 9999;rcases ac4 h with⟨rfl,rfl,rfl⟩|⟨rfl,⟨_,rfl⟩,rfl⟩|⟨⟨_,rfl⟩,rfl,rfl⟩<;>(cases hx;exact fin _ _ (S8 _ _ (by simp) (by simp)) he (by simp) (by simp) (by simp) (by simp))
 |parts l=>
  cases a<;>first|(simp[jq]at h;done)|skip
  cases b<;>first|(simp[jq]at h;done)|skip
  simp only[jq]at h;cases hx with|agg _ xs hx=>cases hy with|agg _ ys hy=>
  have he:(Op.equalIn 10000 t (.agg xs) (.agg ys)).run P w=.ok r w:=WB ho hp hx hy h 9997;exact fin _ _ (run_eqGuard_agg w op t X Y xs ys (hg ⟨l,rfl⟩)) he (by simp) (by simp) (by simp) (by simp)
end
section
variable{P:Program}{ρ:Nat→Int}{w0:W0}{w:World}{μ:Mu}{G:Key→Option ah}{nx:Nat}{orc:iG}{nt:Nat}{tm:T AV}{H:T ah}{ev:Operand→Value}
theorem adp{xs:List Operand}{p:PX}(h:OA P nt xs=some [p]):∃x,xs=[x]∧pX P nt x=some p:=by
 cases xs with
 |nil=>simp[OA]at h
 |cons x xs=>
  simp only[OA]at h;split at h
  ·rename_i a r h1 h2;simp only[dI,List.cons.injEq]at h;obtain⟨rfl,rfl⟩:=h;cases xs with
   |nil=>exact⟨x,rfl,h1⟩
   |cons y ys=>simp only[OA]at h2;split at h2<;>cases h2
  ·cases h
theorem adq{xs:List Operand}{p q:PX}(h:OA P nt xs=some [p,q]):∃x y,xs=[x,y]∧pX P nt x=some p∧pX P nt y=some q:=by
 cases xs with
 |nil=>simp[OA]at h
 |cons x xs=>
  simp only[OA]at h;split at h
  ·rename_i a r h1 h2;simp only[dI,List.cons.injEq]at h;obtain⟨rfl,rfl⟩:=h;obtain⟨y,rfl,hy⟩:=adp h2;exact⟨x,y,rfl,h1,hy⟩
  ·cases h
theorem asl{op:BinOp}{x y:PX}{r:AV}(h:lightOp orc (.bin op x y) tm H=some r):∃a b,x.at tm=some a∧y.at tm=some b∧lightOp orc (.bin op (.v a) (.v b)) tm H=some r:=by
 cases hx:x.at tm with
 |none=>simp[lightOp,hx]at h
 |some a=>
  cases hy:y.at tm with
  |none=>simp[lightOp,hx,hy]at h
  |some b=>refine⟨a,b,rfl,rfl,?_⟩;have e1:(PX.v a).at tm=some a:=rfl;have e2:(PX.v b).at tm=some b:=rfl;simp only[lightOp,hx,hy,e1,e2]at h ⊢;exact h
set_option maxHeartbeats 2000000 in
theorem MR(hM:aZ P ρ w0 μ G nx w)(hH:HSub H G)(ho:ep ρ orc){o:Oper}{op:Ji}(hp:jh P nt o=some op)
  (hE:zK P ρ μ nt o.op.operands.toList tm ev) {a:AV} (hl:lightOp orc op tm H=some a) :
  ∃v,(Go.execOp ev o).run P w=.ok (.value v) w∧aS ρ μ a v:=by
 obtain⟨dst,Gz,ty,pos,after,guard⟩:=o;cases Gz with
 |move x=>obtain⟨px,hx,rfl⟩:=map_some hp;exact⟨ev x,rfl,hE x (by simp[Op.operands]) px a hx hl⟩
 |assign x=>obtain⟨px,hx,rfl⟩:=map_some hp;exact⟨ev x,rfl,hE x (by simp[Op.operands]) px a hx hl⟩
 |pick c x y=>
  simp only[jh]at hp;split at hp
  ·rename_i pc pa pb h1 h2 h3;cases hp;simp only[lightOp]at hl;split at hl
   ·rename_i hc;have hcv:=hE c (by simp[Op.operands]) pc _ h1 hc;have hv:=hE x (by simp[Op.operands]) pa _ h2 hl;generalize Kb:ev c=cc at hcv;cases hcv;exact⟨ev x,by simp[Go.execOp,Kb,asBool],hv⟩
   ·rename_i hc;have hcv:=hE c (by simp[Op.operands]) pc _ h1 hc;have hv:=hE y (by simp[Op.operands]) pb _ h3 hl;generalize Kb:ev c=cc at hcv;cases hcv;exact⟨ev y,by simp[Go.execOp,Kb,asBool],hv⟩
   ·cases hl
  ·cases hp
 |alloc t=>
  simp only[jh]at hp
  repeat' (first|replace hp:=(aQ hp).2|split at hp)
  all_goals cases hp<;>simp[lightOp]at hl
 |box t x=>obtain⟨px,hx,rfl⟩:=map_some hp;simp[lightOp]at hl
 |build t parts=>
  have nR:∀y∈parts.toList.map (·.2),y∈(Op.build t parts).operands.toList:=by intro y hy;simpa[Op.operands]using hy
  simp only[jh]at hp;split at hp
  ·rename_i ti fs Z8 hu;obtain⟨i,d,z,hi,hd,hz,US,vt,OO⟩:=jJ Z8;split at hp
   ·rename_i pl qX;split at hp
    ·rename_i ps hps;cases hp;simp only[lightOp]at hl;split at hl
     ·rename_i cs WD;cases hl;have hzr:ax ρ μ ti.zero.cells z.cells.toList:=(gO tJ z ti.zero US).cells;obtain⟨vs',hf,hr⟩:=yG (vs:=z.cells) hps WD (hE.sub nR) hzr;have GQ:∀(l:List Field) (r:List (Nat×Nat)),sU P l=some r→(l.mapM fun f=>(do pure (f.offset,←sizeOf f.type):Sem (Nat×Nat))).run P w=.ok r w:=by
       intro l
       induction l with
       |nil=>intro r hr;simp only[sU,dI]at hr;subst hr;rfl
       |cons f l ih=>
        intro r hr;simp only[sU]at hr;split at hr
        ·rename_i i' r' RO hr';cases hr;rw[List.mapM_cons];simp only[qC,bu RO,nz,uE,ih r' hr']
        ·cases hr
      refine⟨.agg vs',?_,.agg _ _ hr⟩;simp only[Go.execOp];refine eQ ?_;have hm:(fs.mapM fun f=>(do pure (f.offset,←sizeOf f.type):Sem (Nat×Nat))).run P w=.ok pl.toArray w:=by rw[Array.mapM_eq_mapM_toList,Sem.run_map,GQ _ _ qX];rfl
      simp only[Instr.build,qC,og hi hz,nz,au hu]
      erw [hm]
      simp only[nz];have aDx:(fun x:Nat=>pl.toArray[x]?)=(fun x:Nat=>pl[x]?):=by funext x;simp
      have LN:(parts.map fun(i,x)=>(i,ev x)).toList=parts.toList.map fun(i,x)=>(i,ev x):=by simp
      rw[aDx,LN,hf];rfl
     ·cases hl
    ·cases hp
   ·cases hp
  ·rename_i ti n e Z8 hu;obtain⟨i,d,z,hi,hd,hz,US,vt,OO⟩:=jJ Z8;split at hp
   ·rename_i ie BF;split at hp
    ·rename_i ps hps;cases hp;simp only[lightOp]at hl;split at hl
     ·rename_i cs WD;cases hl;have hzr:ax ρ μ ti.zero.cells z.cells.toList:=(gO tJ z ti.zero US).cells;obtain⟨vs',hf,hr⟩:=yG (vs:=z.cells) hps WD (hE.sub nR) hzr;refine⟨.agg vs',?_,.agg _ _ hr⟩;simp only[Go.execOp];refine eQ ?_;simp only[Instr.build,qC,og hi hz,nz,au hu,bu BF];have LN:(parts.map fun(i,x)=>(i,ev x)).toList=parts.toList.map fun(i,x)=>(i,ev x):=by simp
      rw[LN,hf];rfl
     ·cases hl
    ·cases hp
   ·cases hp
  ·cases hp
 |buildSlice t len parts=>
  simp only[jh]at hp
  repeat' (first|replace hp:=(aQ hp).2|split at hp)
  all_goals cases hp<;>simp[lightOp]at hl
 |insert t m k v=>
  simp only[jh]at hp
  repeat' (first|replace hp:=(aQ hp).2|split at hp)
  all_goals cases hp<;>simp[lightOp]at hl
 |load t x=>
  simp only[jh]at hp;split at hp
  ·rename_i ti px Z8 hx;obtain⟨i,d,z,hi,hd,hz,US,vt,OO⟩:=jJ Z8;cases hp;simp only[lightOp]at hl;split at hl
   ·rename_i b off hb;have hv:=hE x (by simp[Op.operands]) px _ hx hb;simp only[loadB]at hl;split at hl
    ·rename_i L k hL;generalize nD:ev x=xx at hv;cases hv with|ptr _ _ l ad hm qz=>
     rw[OO,vt]at hl;obtain⟨v,hv,hr⟩:=He hM (hH _ _ hL) hi hd hl hm;refine⟨v,?_,hr⟩;subst qz;simp only[Go.execOp];refine eQ ?_;simp only[nD,Instr.loadAt,Instr.sureAddr,qC,uE,nz,hv]
    ·cases hl
   ·rename_i l hb;have hv:=hE x (by simp[Op.operands]) px _ hx hb;generalize nD:ev x=xx at hv;cases hv with|cref _ c o ad vs hr qz hf=>
    subst qz;rw[OO,vt]at hl;obtain⟨v,hv,hr⟩:=Zq hM hr hf hi hd hl;refine⟨v,?_,hr⟩;simp only[Go.execOp];refine eQ ?_;simp only[nD,Instr.loadAt,Instr.sureAddr,qC,uE,nz,hv]
   ·cases hl
  ·cases hp
 |store t x v=>
  simp only[jh]at hp;split at hp
  ·cases hp;simp[lightOp]at hl
  ·cases hp
 |ready g=>simp[jh]at hp
 |waits g=>simp[jh]at hp
 |nilCheck x=>
  obtain⟨px,hx,rfl⟩:=map_some hp;simp only[lightOp]at hl;split at hl
  all_goals first|(cases hl;done)|skip
  all_goals rename_i hb
  all_goals (cases hl;have hv:=hE x (by simp[Op.operands]) px _ hx hb;refine⟨ev x,?_,hv⟩;generalize nD:ev x=xx at hv;cases hv;simp[Go.execOp,nD])
 |binOp bop t x y yt=>
  simp only[jh]at hp;split at hp
  ·rename_i pa pb h1 h2;have awB:some (Ji.bin bop pa pb)=some op→∃v,(Go.execOp ev ⟨dst,.binOp bop t x y yt,ty,pos,after,guard⟩).run P w=.ok (.value v) w∧aS ρ μ a v:=by intro hp;cases hp;obtain⟨va,vb,ha,hb,hl⟩:=asl hl;have hva:=hE x (by simp[Op.operands]) pa _ h1 ha;have hvb:=hE y (by simp[Op.operands]) pb _ h2 hb;obtain⟨v,hv,hr⟩:=afd (P:=P) (w:=w) (t:=t) (X:=x) (Y:=y) ho hva hvb hl;exact⟨v,eQ hv,hr⟩
   have heq:∀(neg:Bool) (p:K6),bop=(if neg then .neq else .eql)→Pw P t p→p≠.int→p≠.str→((∃l,p=.parts l)→P.eqGuardType P.depth t=false)→(p=.iface→jH x=true∨jH y=true)→
     op=.eq neg p pa pb→∃v,(Go.execOp ev ⟨dst,.binOp bop t x y yt,ty,pos,after,guard⟩).run P w=.ok (.value v) w∧aS ρ μ a v:=by
    intro neg p hb sO hi hs hg hc e;subst e;simp only[lightOp]at hl;split at hl
    ·rename_i va vb ha vz;split at hl
     ·rename_i r hr;cases hl;have hva:=hE x (by simp[Op.operands]) pa _ h1 ha;have hvb:=hE y (by simp[Op.operands]) pb _ h2 vz;exact⟨_,eQ (ahX (P:=P) (w:=w) (X:=x) (Y:=y) ho hb sO hi hs hva hvb hr hg hc),.bool _⟩
     ·cases hl
    ·cases hl
   split at hp
   ·exact awB hp
   ·exact awB hp
   ·rename_i ms hu;replace hp:=aQ hp;obtain⟨hc,hp⟩:=hp;have hc':jH x=true∨jH y=true:=by simpa using hc
    split at hp
    ·simp only[dI]at hp;exact heq false .iface rfl ⟨_,hu⟩ (by simp) (by simp) (by simp) (fun _=>hc') hp.symm
    ·simp only[dI]at hp;exact heq true .iface rfl ⟨_,hu⟩ (by simp) (by simp) (by simp) (fun _=>hc') hp.symm
    ·cases hp
   ·rename_i fs hu;cases MC:P.eqGuardType P.depth t with
    |true=>rw[MC]at hp;cases hp
    |false=>
     rw[MC]at hp;simp only[cond_false]at hp;have Kk:∀q,eqP P 100 t=some q→q≠.int∧q≠.str∧q≠.iface:=by
      intro q hq;have hk:=zi hq;refine⟨?_,?_,?_⟩
      ·rintro rfl;obtain⟨k,hk⟩:=hk;rw[hu]at hk;cases hk
      ·rintro rfl;have hk:P.underlying t=some .string:=hk;rw[hu]at hk;cases hk
      ·rintro rfl;obtain⟨k,hk⟩:=hk;rw[hu]at hk;cases hk
     split at hp
     ·rename_i q hq;simp only[dI]at hp;obtain⟨n1,n2,n3⟩:=Kk q hq;exact heq false q rfl (zi hq) n1 n2 (fun _=>MC) (fun e=>absurd e n3) hp.symm
     ·rename_i q hq;simp only[dI]at hp;obtain⟨n1,n2,n3⟩:=Kk q hq;exact heq true q rfl (zi hq) n1 n2 (fun _=>MC) (fun e=>absurd e n3) hp.symm
     ·cases hp
   ·rename_i aLC aLD hu;cases MC:P.eqGuardType P.depth t with
    |true=>rw[MC]at hp;cases hp
    |false=>
     rw[MC]at hp;simp only[cond_false]at hp;have Kk:∀q,eqP P 100 t=some q→q≠.int∧q≠.str∧q≠.iface:=by
      intro q hq;have hk:=zi hq;refine⟨?_,?_,?_⟩
      ·rintro rfl;obtain⟨k,hk⟩:=hk;rw[hu]at hk;cases hk
      ·rintro rfl;have hk:P.underlying t=some .string:=hk;rw[hu]at hk;cases hk
      ·rintro rfl;obtain⟨k,hk⟩:=hk;rw[hu]at hk;cases hk
     split at hp
     ·rename_i q hq;simp only[dI]at hp;obtain⟨n1,n2,n3⟩:=Kk q hq;exact heq false q rfl (zi hq) n1 n2 (fun _=>MC) (fun e=>absurd e n3) hp.symm
     ·rename_i q hq;simp only[dI]at hp;obtain⟨n1,n2,n3⟩:=Kk q hq;exact heq true q rfl (zi hq) n1 n2 (fun _=>MC) (fun e=>absurd e n3) hp.symm
     ·cases hp
   ·rename_i d hn1 Z2 hn3 hn4 hn5 hu;have Kk:∀q,eqP P 100 t=some q→q≠.iface:=by intro q hq;have hk:=zi hq;rintro rfl;obtain⟨k,hk⟩:=hk;rw[hu]at hk;cases hk;exact absurd rfl (hn3 _)
    split at hp
    ·rename_i q hq;cases Y8:TJ q with
     |true=>rw[Y8]at hp;cases hp
     |false=>rw[Y8]at hp;simp only[cond_false,dI]at hp;exact heq false q rfl (zi hq) (by rintro rfl;cases Y8) (by rintro rfl;cases Y8) (by rintro⟨l,rfl⟩;cases Y8) (fun e=>absurd e (Kk q hq)) hp.symm
    ·rename_i q hq;cases Y8:TJ q with
     |true=>rw[Y8]at hp;cases hp
     |false=>rw[Y8]at hp;simp only[cond_false,dI]at hp;exact heq true q rfl (zi hq) (by rintro rfl;cases Y8) (by rintro rfl;cases Y8) (by rintro⟨l,rfl⟩;cases Y8) (fun e=>absurd e (Kk q hq)) hp.symm
    ·cases hp
   ·cases hp
  ·cases hp
 |unOp uop t x=>
  obtain⟨px,hx,rfl⟩:=map_some hp;simp only[lightOp]at hl;split at hl
  ·rename_i b hb;cases hl;have hv:=hE x (by simp[Op.operands]) px _ hx hb;generalize nD:ev x=xx at hv;cases hv;exact⟨_,by simp[Go.execOp,nD,Op.unary],.bool _⟩
  ·rename_i k s hb;split at hl
   ·rename_i r hr;cases hl;have hv:=hE x (by simp[Op.operands]) px _ hx hb;generalize nD:ev x=xx at hv;cases hv with|int _ _ n hn=>
    have:=MU (ρ:=ρ) (P:=P) (w:=w) 0 hr;rw[hn]at this;refine⟨_,?_,.int _ _ _ rfl⟩;simp only[Go.execOp];refine eQ ?_;simp only[nD,Op.unary];simpa[Go.binOp,SI.den]using this
   ·cases hl
  ·cases hl
 |convert src dst x=>
  simp only[jh]at hp;split at hp
  ·rename_i px k0 k hx hs hd;cases hp;simp only[lightOp]at hl;split at hl
   ·rename_i k1 n hb;cases hl;have hv:=hE x (by simp[Op.operands]) px _ hx hb;generalize nD:ev x=xx at hv;cases hv with|int _ _ n' hn=>
    refine⟨.int k (k.wrap n'),?_,.int _ _ _ (by rw[←hn];simp only[SI.den,gW])⟩;simp only[Go.execOp];refine eQ ?_;simp[nD,Go.convert,au hs,au hd,Conv.intToInt]
   ·cases hl
  ·split at hp
   ·cases hp;simp[lightOp]at hl
   ·cases hp
  ·cases hp
 |sliceToArrayPointer t x=>simp[jh]at hp
 |makeInterface t x=>
  simp only[jh]at hp;split at hp
  ·cases hp
  ·cases hp
  ·rename_i d hn hu;obtain⟨px,hx,rfl⟩:=map_some hp;simp only[lightOp]at hl;split at hl
   ·rename_i v hb;cases hl;have hv:=hE x (by simp[Op.operands]) px _ hx hb;refine⟨.iface t (ev x),?_,.iface _ _ _ hv⟩;simp only[Go.execOp];refine eQ ?_;simp only[Instr.makeInterface,qC,au hu,nz];cases d<;>first|rfl|exact absurd rfl (hn _)
   ·cases hl
 |makeFunc f first cap=>
  cases f with
  |func f=>
   simp only[jh]at hp;split at hp
   ·rename_i pf pc h1 h2;cases hp;simp only[lightOp]at hl;split at hl
    ·rename_i la lc ha hc;cases hl;have e1:=lq (ev:=ev) h1 ha (hE.sub fun y hy=>by simp[Op.operands]at hy ⊢;exact .inl hy);have e2:=lq (ev:=ev) h2 hc (hE.sub fun y hy=>by simp[Op.operands]at hy ⊢;exact .inr hy);refine⟨.func (.func f) (first.map ev) (cap.map ev),?_,.fn _ _ _ _ _ (by simpa using e1) (by simpa using e2)⟩;simp[Go.execOp,Instr.makeFunc]
    ·cases hl
   ·cases hp
  |method n=>simp[jh]at hp
  |methodOf t n=>simp[jh]at hp
  |via t p f b=>simp[jh]at hp
  |yield l=>simp[jh]at hp
 |makeMap t r=>cases r<;>simp[jh]at hp;subst hp;simp[lightOp]at hl
 |makeChan t s=>simp[jh]at hp
 |makeSlice t l c=>
  simp only[jh]at hp
  repeat' (first|replace hp:=(aQ hp).2|split at hp)
  all_goals cases hp<;>simp[lightOp]at hl
 |slice t x lo hi mx=>
  cases mx with
  |some m=>simp[jh]at hp
  |none=>
   have amF:∀x',lo=some x'→x'∈(Op.slice t x lo hi none).operands.toList:=by intro x' e;subst e;simp[Op.operands]
   have amG:∀x',hi=some x'→x'∈(Op.slice t x lo hi none).operands.toList:=by intro x' e;subst e;simp[Op.operands]
   simp only[jh]at hp;split at hp
   ·rename_i px plo phi hx xH hhi;split at hp
    ·rename_i hu;cases hp;simp only[lightOp]at hl;split at hl
     ·rename_i n c hb;split at hl
      ·rename_i l r S7 Y1;replace hl:=aQ hl;obtain⟨GR,hl⟩:=hl;cases hl;simp only[kO,Nat.ble_eq]at GR;have hv:=hE x (by simp[Op.operands]) px _ hx hb;generalize nD:ev x=xx at hv;cases hv with|str _ _ s hs hs'=>
       have vt:s.size=n:=by rw[Lib.size_eq];exact hs
       have b1:=jr xH S7 hE amF;have b2:=jr hhi Y1 hE amG;have hb:=nH (P:=P) (w:=w) (isSlice:=false) (len:=s.size) (cap:=s.size) (l:=l) (r:=r) (lo:=lo.map ev) (hi:=hi.map ev)
        (by rcases b1 with⟨e,e'⟩|⟨x',k,e,e'⟩<;>subst e<;>simp[e']) (by rcases b2 with⟨e,e'⟩|⟨x',k,e,e'⟩<;>subst e<;>simp[e',vt]) GR.1 (by omega) (fa _)
       refine⟨.string (s.extract l r),?_,.str _ _ _ ?_ ?_⟩
       ·simp only[Go.execOp];refine eQ ?_;simp only[nD,Instr.sliceAt,qC,au hu,nz,Instr.slice,Option.map_none,Option.isSome_none,SH,if_false,hb,uE]
       ·rw[Lib.extract_data];simp;omega
       ·rw[Lib.extract_data,aiV,Xj,hs'];show _=Nat.mod (Nat.shiftRight c (8*l)) (Nat.pow 2 (8*(r-l)));have e1:Nat.shiftRight c (8*l)=c / 2^(8*l):=Nat.shiftRight_eq_div_pow _ _;have e2:Nat.pow 2 (8*(r-l))=256^(r-l):=UT (r-l);rw[e1,e2,UT];rfl
      ·cases hl
     ·cases hl
    ·rename_i e hu;split at hp
     ·rename_i ie BF;replace hp:=aQ hp;obtain⟨Lw,hp⟩:=hp;cases hp;simp only[lightOp]at hl;split at hl
      ·rename_i b off len Jd hb;split at hl
       ·rename_i l r S7 Y1;replace hl:=aQ hl;obtain⟨GR,hl⟩:=hl;cases hl;simp only[kO,Nat.ble_eq]at GR;have P3:=o9 GR.2;subst P3;have hv:=hE x (by simp[Op.operands]) px _ hx hb;generalize nD:ev x=xx at hv;cases hv with|slice _ _ _ _ cap lc ad hm BP hlen qz=>
        have b1:=jr xH S7 hE amF;have b2:=jr hhi Y1 hE amG;have hb:=nH (P:=P) (w:=w) (isSlice:=true) (len:=len) (cap:=cap) (l:=l) (r:=r) (lo:=lo.map ev) (hi:=hi.map ev)
         (by rcases b1 with⟨e,e'⟩|⟨x',k,e,e'⟩<;>subst e<;>simp[e']) (by rcases b2 with⟨e,e'⟩|⟨x',k,e,e'⟩<;>subst e<;>simp[e']) GR.1.1 GR.1.2 hlen
        have NJ:l≤cap:=by omega
        refine⟨.slice (if cap=l then some ad else some (ad.add (l*ie.size))) (r-l) (cap-l),?_,?_⟩
        ·simp only[Go.execOp];refine eQ ?_;simp only[nD,Instr.sliceAt,qC,au hu,nz,Instr.slice,Option.map_none,hb,bu BF,uE,Option.map_some]
        ·have Ze:off+l*ie.size+(cap-l)*ie.size=lc.ext:=by rw[←BP,Nat.add_assoc,←Nat.add_mul];congr 2;omega
         by_cases he:cap=l
         ·rw[if_pos he];exact .slice b _ _ _ _ lc ad hm Ze (by omega) (.inl (by omega))
         ·rw[if_neg he];refine .slice b _ _ _ _ lc _ hm Ze (by omega) (.inr ?_);rcases qz with h0|h0
          ·omega
          ·subst h0;rw[pC];simp[Nat.add_assoc]
       ·cases hl
      ·rename_i hb;split at hl
       ·rename_i l r S7 Y1;replace hl:=aQ hl;obtain⟨GR,hl⟩:=hl;cases hl;simp only[kO]at GR;have h0:=o9 GR.1;have h1:=o9 GR.2;subst h0 h1;have hv:=hE x (by simp[Op.operands]) px _ hx hb;generalize nD:ev x=xx at hv;cases hv;have b1:=jr xH S7 hE amF;have b2:=jr hhi Y1 hE amG;have hb:=nH (P:=P) (w:=w) (isSlice:=true) (len:=0) (cap:=0) (l:=0) (r:=0) (lo:=lo.map ev) (hi:=hi.map ev)
         (by rcases b1 with⟨e,e'⟩|⟨x',k,e,e'⟩<;>subst e<;>simp[e']) (by rcases b2 with⟨e,e'⟩|⟨x',k,e,e'⟩<;>subst e<;>simp[e']) (fa _) (fa _) (fa _)
        refine⟨.slice none 0 0,?_,.nils⟩;simp only[Go.execOp];refine eQ ?_;simp only[nD,Instr.sliceAt,qC,au hu,nz,Instr.slice,Option.map_none,hb,bu BF,uE,if_true]
       ·cases hl
      ·rename_i L len Jd fl hb;split at hl
       ·rename_i l r S7 Y1;replace hl:=aQ hl;obtain⟨GR,hl⟩:=hl;simp only[kO,Nat.ble_eq]at GR;have P3:=o9 GR.2;subst P3;rw[takeC_eq,dropL_eq]at hl;split at hl
        ·rename_i Hr;cases hl;have hv:=hE x (by simp[Op.operands]) px _ hx hb;generalize nD:ev x=xx at hv;cases hv with|sl _ _ _ _ cap c o ad vs rp hn hle qz hf hg=>
         have b1:=jr xH S7 hE amF;have b2:=jr hhi Y1 hE amG;have hb:=nH (P:=P) (w:=w) (isSlice:=true) (len:=len) (cap:=cap) (l:=l) (r:=r) (lo:=lo.map ev) (hi:=hi.map ev)
          (by rcases b1 with⟨e,e'⟩|⟨x',k,e,e'⟩<;>subst e<;>simp[e']) (by rcases b2 with⟨e,e'⟩|⟨x',k,e,e'⟩<;>subst e<;>simp[e']) GR.1.1 GR.1.2 hle
         refine⟨.slice (if cap=l then some ad else some (ad.add (l*ie.size))) (r-l) (cap-l),?_,?_⟩
         ·simp only[Go.execOp];refine eQ ?_;simp only[nD,Instr.sliceAt,qC,au hu,nz,Instr.slice,Option.map_none,hb,bu BF,uE,Option.map_some]
         ·have adl:((L.drop (l*ie.size)).take ((r-l)*ie.size)).length=(r-l)*ie.size:=by rw[V9];omega
          have Y8:Py μ c (o+l*ie.size) (r-l) (cap-l) ie.size (bif Nat.beq r len then fl else .any):=by
           cases T8:Nat.beq r len with
           |false=>trivial
           |true=>
            have T8:=o9 T8;subst T8;cases fl with
            |any=>trivial
            |tok tb=>
             have hg:μ tb=some ⟨c,o+r*ie.size,(cap-r)*ie.size⟩:=hg;show μ tb=some ⟨c,o+l*ie.size+(r-l)*ie.size,(cap-l-(r-l))*ie.size⟩;rw[hg];have e1:o+r*ie.size=o+l*ie.size+(r-l)*ie.size:=by rw[Nat.add_assoc,←Nat.add_mul];congr 2;omega
             have e2:cap-r=cap-l-(r-l):=by omega
             rw[e1,e2]
          by_cases he:cap=l
          ·rw[if_pos he];exact .sl _ _ _ _ _ c (o+l*ie.size) ad _ ((rp.drop _).take _) adl (by omega) (.inl (by omega)) (T5 (ED hf _) _) Y8
          ·rw[if_neg he];refine .sl _ _ _ _ _ c (o+l*ie.size) _ _ ((rp.drop _).take _) adl (by omega) (.inr ?_) (T5 (ED hf _) _) Y8;rcases qz with h0|h0
           ·omega
           ·subst h0;rw[pC]
        ·cases hl
       ·cases hl
      ·cases hl
     ·cases hp
    ·cases hp
   ·cases hp
 |fieldAddr s x f=>
  simp only[jh]at hp;split at hp
  ·rename_i fs hu;split at hp
   ·rename_i fd UH;split at hp
    ·rename_i i px hi hx;cases hz:Nat.beq i.size 0 with
     |true=>rw[hz]at hp;cases hp
     |false=>
      rw[hz]at hp;simp only[cond_false,dI]at hp;subst hp;have vt:i.size≠0:=by intro e;rw[e]at hz;cases hz
      simp only[lightOp]at hl;split at hl
      ·rename_i b o hb;cases hl;have hv:=hE x (by simp[Op.operands]) px _ hx hb;generalize nD:ev x=xx at hv;cases hv with|ptr _ _ l ad hm qz=>
       subst qz;refine⟨.pointer (some ⟨l.c,l.base+(o+fd.offset),none⟩),?_,.ptr _ _ l _ hm rfl⟩;simp only[Go.execOp];refine eQ ?_;simp only[nD,Instr.fieldAt,qC,au hu,nz,UH,Instr.sureAddr,uE,fieldPlace,bu hi,Sem.run_ite,vt,if_false,pC,Nat.add_assoc]
      ·rename_i l hb;cases hl;have hv:=hE x (by simp[Op.operands]) px _ hx hb;generalize nD:ev x=xx at hv;cases hv with|cref _ c o ad vs hr qz hf=>
       subst qz;rw[dropL_eq];refine⟨.pointer (some ⟨c,o+fd.offset,none⟩),?_,.cref _ c (o+fd.offset) _ _ (hr.drop _) rfl (ED hf _)⟩;simp only[Go.execOp];refine eQ ?_;simp only[nD,Instr.fieldAt,qC,au hu,nz,UH,Instr.sureAddr,uE,fieldPlace,bu hi,Sem.run_ite,vt,if_false,pC]
      ·cases hl
    ·cases hp
   ·cases hp
  ·cases hp
 |field t x f=>
  simp only[jh]at hp;split at hp
  ·rename_i fs hu;split at hp
   ·rename_i fd UH;split at hp
    ·rename_i ti px Z8 hx;obtain⟨i,d,z,hi,hd,hz,US,vt,OO⟩:=jJ Z8;cases hp;simp only[lightOp]at hl;split at hl
     ·rename_i L hb;have hv:=hE x (by simp[Op.operands]) px _ hx hb;generalize nD:ev x=xx at hv;cases hv with|agg _ vs hL=>
      rw[OO,vt]at hl;obtain⟨v,hv,hr⟩:=OP (P:=P) (w:=w) hi hd hL hl;refine⟨v,?_,hr⟩;simp only[Go.execOp];refine eQ ?_;simp only[nD,Instr.field,qC,au hu,nz,UH,asAgg,uE,hv]
     ·cases hl
    ·cases hp
   ·cases hp
  ·cases hp
 |indexAddr t x ix=>
  simp only[jh]at hp;split at hp
  ·rename_i len e px pi hu hx RO;split at hp
   ·rename_i ie BF;replace hp:=aQ hp;obtain⟨Lw,hp⟩:=hp;cases hp;simp only[lightOp]at hl;split at hl
    ·rename_i b o vi hb SB;split at hl
     ·rename_i j hj;replace hl:=aQ hl;obtain⟨bY,hl⟩:=hl;cases hl;rw[bltN_eq,decide_eq_true_eq]at bY;have hv:=hE x (by simp[Op.operands]) px _ hx hb;obtain⟨k,hk⟩:=hU hj (hE ix (by simp[Op.operands]) pi _ RO SB);generalize nD:ev x=xx at hv;cases hv with|ptr _ _ l ad hm qz=>
      subst qz;refine⟨.pointer (some ⟨l.c,l.base+(o+j*ie.size),none⟩),?_,.ptr _ _ l _ hm rfl⟩;simp only[Go.execOp];refine eQ ?_;have hr:(0:Int)≤(j:Int)∧(j:Int)<(len:Int):=by omega
      simp only[nD,hk,Instr.indexAt,asIntOf,qC,au hu,nz,Instr.sureAddr,uE,hr,and_self,if_true,bu BF,pC,Int.toNat_natCast,Nat.add_assoc]
     ·cases hl
    ·rename_i L vi hb SB;split at hl
     ·rename_i j hj;replace hl:=aQ hl;obtain⟨bY,hl⟩:=hl;cases hl;rw[bltN_eq,decide_eq_true_eq]at bY;have hv:=hE x (by simp[Op.operands]) px _ hx hb;obtain⟨k,hk⟩:=hU hj (hE ix (by simp[Op.operands]) pi _ RO SB);generalize nD:ev x=xx at hv;cases hv with|cref _ c o ad vs rp qz hf=>
      subst qz;rw[dropL_eq];refine⟨.pointer (some ⟨c,o+j*ie.size,none⟩),?_,.cref _ c (o+j*ie.size) _ _ (rp.drop _) rfl (ED hf _)⟩;simp only[Go.execOp];refine eQ ?_;have hr:(0:Int)≤(j:Int)∧(j:Int)<(len:Int):=by omega
      simp only[nD,hk,Instr.indexAt,asIntOf,qC,au hu,nz,Instr.sureAddr,uE,hr,and_self,if_true,bu BF,pC,Int.toNat_natCast]
     ·cases hl
    ·cases hl
   ·cases hp
  ·rename_i e px pi hu hx RO;split at hp
   ·rename_i ie BF;replace hp:=aQ hp;obtain⟨Lw,hp⟩:=hp;cases hp;simp only[lightOp]at hl;split at hl
    ·rename_i b off len Jd vi hb SB;split at hl
     ·rename_i j hj;replace hl:=aQ hl;obtain⟨bY,hl⟩:=hl;cases hl;simp only[kO]at bY;have P3:=o9 bY.2;subst P3;have bY:=bY.1;rw[bltN_eq,decide_eq_true_eq]at bY;have hv:=hE x (by simp[Op.operands]) px _ hx hb;obtain⟨k,hk⟩:=hU hj (hE ix (by simp[Op.operands]) pi _ RO SB);generalize nD:ev x=xx at hv;cases hv with|slice _ _ _ _ cap l ad hm BP hlen qz=>
      have qz:ad=⟨l.c,l.base+off,none⟩:=qz.resolve_left (by omega);subst qz;refine⟨.pointer (some ⟨l.c,l.base+(off+j*ie.size),none⟩),?_,.ptr _ _ l _ hm rfl⟩;simp only[Go.execOp];refine eQ ?_;have hr:(0:Int)≤(j:Int)∧(j:Int)<(len:Int):=by omega
      simp only[nD,hk,Instr.indexAt,asIntOf,qC,au hu,nz,uE,hr,and_self,if_true,bu BF,pC,Int.toNat_natCast,Nat.add_assoc]
     ·cases hl
    ·rename_i L len Jd fl vi hb SB;split at hl
     ·rename_i j hj;replace hl:=aQ hl;obtain⟨bY,hl⟩:=hl;simp only[kO]at bY;have P3:=o9 bY.2;subst P3;have bY:=bY.1;rw[bltN_eq,decide_eq_true_eq]at bY;rw[takeC_eq,dropL_eq]at hl;split at hl
      ·rename_i Hr;cases hl;have hv:=hE x (by simp[Op.operands]) px _ hx hb;obtain⟨k,hk⟩:=hU hj (hE ix (by simp[Op.operands]) pi _ RO SB);generalize nD:ev x=xx at hv;cases hv with|sl _ _ _ _ cap c o ad vs rp hn hle qz hf hg=>
       have qz:ad=⟨c,o,none⟩:=qz.resolve_left (by omega);subst qz;refine⟨.pointer (some ⟨c,o+j*ie.size,none⟩),?_,.cref _ c (o+j*ie.size) _ _ ((rp.drop _).take _) rfl (T5 (ED hf _) _)⟩;simp only[Go.execOp];refine eQ ?_;have hr:(0:Int)≤(j:Int)∧(j:Int)<(len:Int):=by omega
       simp only[nD,hk,Instr.indexAt,asIntOf,qC,au hu,nz,uE,hr,and_self,if_true,bu BF,pC,Int.toNat_natCast]
      ·cases hl
     ·cases hl
    ·cases hl
   ·cases hp
  ·cases hp
 |index t x ix=>
  simp only[jh]at hp;split at hp
  ·rename_i px pi hu hx RO;cases hp;simp only[lightOp]at hl;split at hl
   ·rename_i n c vi hb SB;split at hl
    ·rename_i j hj;replace hl:=aQ hl;obtain⟨bY,hl⟩:=hl;cases hl;rw[bltN_eq,decide_eq_true_eq]at bY;have hv:=hE x (by simp[Op.operands]) px _ hx hb;obtain⟨k,hk⟩:=hU hj (hE ix (by simp[Op.operands]) pi _ RO SB);generalize nD:ev x=xx at hv;cases hv with|str _ _ s hs hs'=>
     have bG:j<s.data.toList.length:=by omega
     have hjs:s[j]?=some s.data.toList[j]:=by
      have:j<s.size:=by rw[Lib.size_eq];exact bG
      rw[getElem?_pos s j this];rfl
     refine⟨.int .u8 (s.data.toList[j]).toNat,?_,.int _ _ _ ?_⟩
     ·simp only[Go.execOp];refine eQ ?_;have h0:(0:Int)≤(j:Int):=by omega
      simp only[nD,hk,Instr.index,asIntOf,qC,uE,au hu,nz,h0,if_true,Int.toNat_natCast,hjs]
     ·simp only[SI.den];show((Nat.mod (Nat.shiftRight c (8*j)) 256:Nat):Int)=_;have e1:Nat.shiftRight c (8*j)=c / 2^(8*j):=Nat.shiftRight_eq_div_pow _ _;rw[e1,UT,←hs'];have:=amH s.data.toList j bG;show((enc s.data.toList / 256^j%256:Nat):Int)=_;rw[this]
    ·cases hl
   ·cases hl
  ·rename_i len e px pi hu hx RO;split at hp
   ·rename_i ti Z8;obtain⟨i,d,z,hi,hd,hz,US,vt,OO⟩:=jJ Z8;cases hp;simp only[lightOp]at hl;split at hl
    ·rename_i L vi hb SB;split at hl
     ·rename_i j hj;replace hl:=aQ hl;obtain⟨bY,hl⟩:=hl;rw[bltN_eq,decide_eq_true_eq]at bY;have hv:=hE x (by simp[Op.operands]) px _ hx hb;obtain⟨k,hk⟩:=hU hj (hE ix (by simp[Op.operands]) pi _ RO SB);generalize nD:ev x=xx at hv;cases hv with|agg _ vs hL=>
      rw[OO,vt]at hl;obtain⟨v,hv,hr⟩:=OP (P:=P) (w:=w) hi hd hL hl;refine⟨v,?_,hr⟩;simp only[Go.execOp];refine eQ ?_;have hr:(0:Int)≤(j:Int)∧(j:Int)<(len:Int):=by omega
      simp only[nD,hk,Instr.index,asIntOf,qC,uE,au hu,nz,hr,and_self,if_true,bu hi,Int.toNat_natCast,hv]
     ·cases hl
    ·cases hl
   ·cases hp
  ·cases hp
 |lookup t m k ok=>
  simp only[jh]at hp;split at hp
  ·rename_i kt e hu;have main:∀(sk:Bool) (kd:TypeDesc) (ti:TI) (pm pk:PX),B9 P kt sk kd→YX P e=some ti→pX P nt m=some pm→pX P nt k=some pk→op=.lookup sk ti.zero ok pm pk→
     ∃v,(Go.execOp ev ⟨dst,.lookup t m k ok,ty,pos,after,guard⟩).run P w=.ok (.value v) w∧aS ρ μ a v:=by
    intro sk kd ti pm pk BT Z8 hm hk e';subst e';obtain⟨i,d,z,hi,hd,hz,US,vt,OO⟩:=jJ Z8;simp only[lightOp]at hl;split at hl
    ·rename_i b ka hb hka;split at hl
     ·rename_i L hL;have hvm:=hE m (by simp[Op.operands]) pm _ hm hb;have hvk:=hE k (by simp[Op.operands]) pk _ hk hka;generalize hmm:ev m=mm at hvm;cases hvm with|map _ l r BQ hr=>
      subst hr;obtain⟨l',o',h1,h2,h3⟩:=hM.xG b _ (hH _ _ hL);rw[BQ]at h1;cases h1;cases h3 with|map _ _ es clock UU=>
      have DX:(getObj l.c).run P w=.ok (.map es clock) w:=by simp[getObj,Sem.run,h2]
      have awE:∀f,Instr.findNow kd (ev k) es.toList 0=some f→∀v okv,(match f with|some (_,v')=>v'=v∧okv=true|none=>z=v∧okv=false)→
        (Go.execOp ev ⟨dst,.lookup t m k ok,ty,pos,after,guard⟩).run P w=.ok (.value (if ok then .tuple #[v,.bool okv]else v)) w:=by
       intro f hf v okv hfv;simp only[Go.execOp];refine eQ ?_;simp only[hmm,Instr.lookup,qC,au hu,nz,DX,uE,run_checkKey BT _ 9999,run_findKey BT.1 hf];cases f with
       |none=>obtain⟨rfl,rfl⟩:=hfv;simp[og hi hz]
       |some p=>obtain⟨j,v'⟩:=p;obtain⟨rfl,rfl⟩:=hfv;simp
      split at hl
      ·rename_i v hf;obtain⟨f,hf1,hf2⟩:=Fu ho BT hvk 0 UU hf;cases f with
       |none=>exact hf2.elim
       |some p=>
        obtain⟨j,v'⟩:=p;have:=awE _ hf1 v' true ⟨rfl,rfl⟩;cases hl;refine⟨_,this,?_⟩;cases ok with
        |true=>exact .tuple _ _ (.cons _ _ _ _ hf2 (.one (.bool _)))
        |false=>exact hf2
      ·rename_i hf;obtain⟨f,hf1,hf2⟩:=Fu ho BT hvk 0 UU hf;cases f with
       |some p=>exact hf2.elim
       |none=>
        have:=awE _ hf1 z false ⟨rfl,rfl⟩;cases hl;refine⟨_,this,?_⟩;cases ok with
        |true=>exact .tuple _ _ (.cons _ _ _ _ (gO tJ z ti.zero US) (.one (.bool _)))
        |false=>exact gO tJ z ti.zero US
      ·cases hl
     ·cases hl
    ·cases hl
   split at hp
   ·simp only[dI]at hp;exact main false _ _ _ _ ⟨‹_›,by simp⟩ ‹_› ‹_› ‹_› hp.symm
   ·simp only[dI]at hp;exact main true _ _ _ _ ⟨‹_›,by simp⟩ ‹_› ‹_› ‹_› hp.symm
   ·cases hp
  ·cases hp
 |mapUpdate t m k v=>
  simp only[jh]at hp
  repeat' (first|replace hp:=(aQ hp).2|split at hp)
  all_goals cases hp<;>simp[lightOp]at hl
 |mapEntry t m k=>simp[jh]at hp
 |entryStore t m k v=>simp[jh]at hp
 |range t x=>simp[jh]at hp
 |next it s=>simp[jh]at hp
 |entry it=>simp[jh]at hp
 |typeAssert x xt t ok=>
  simp only[jh]at hp;split at hp
  ·cases hp
  ·rename_i d ti px hn hu Z8 hx;obtain⟨i,d',z,hi,hd,hz,US,vt,OO⟩:=jJ Z8;cases hp;simp only[lightOp]at hl;split at hl
   ·rename_i t' u hb;have hv:=hE x (by simp[Op.operands]) px _ hx hb;generalize nD:ev x=xx at hv;cases hv with|iface _ _ vv hvv=>
    have fC : ∀ r, (if t' = t then (pure (if ok then .tuple #[vv, .bool true] else vv) : Sem Value) else (if ok then do pure (.tuple #[← zeroValue t, .bool false]) else runtimePanic (.typeAssertion (some xt) (some t') t ""))).run P w = .ok r w →
      (Go.execOp ev ⟨dst,.typeAssert x xt t ok,ty,pos,after,guard⟩).run P w=.ok (.value r) w:=by
     intro r hr;simp only[Go.execOp];refine eQ ?_;simp only[nD,Instr.typeAssert,qC,au hu,nz];cases d<;>first|exact absurd rfl (hn _ _ _)|exact hr
    cases ok with
    |true=>
     simp only[cond_true]at hl;cases ht:Nat.beq t t' with
     |true=>rw[ht]at hl;simp only[cond_true,dI]at hl;subst hl;have:=o9 ht;subst this;exact⟨_,fC _ (by simp),.tuple _ _ (.cons _ _ _ _ hvv (.one (.bool _)))⟩
     |false=>
      rw[ht]at hl;simp only[cond_false,dI]at hl;subst hl;have bU:¬t'=t:=by intro e;subst e;simp[beqN_eq]at ht
      exact⟨_,fC (.tuple #[z,.bool false]) (by simp[bU,og hi hz]),.tuple _ _ (.cons _ _ _ _ (gO tJ z ti.zero US) (.one (.bool _)))⟩
    |false=>simp only[cond_false]at hl;replace hl:=aQ hl;obtain⟨ht,hl⟩:=hl;cases hl;have:=o9 ht;subst this;exact⟨_,fC _ (by simp),hvv⟩
   ·cases hl
  ·cases hp
 |extract x i=>
  simp only[jh]at hp;split at hp
  ·rename_i px hx;cases hp;simp only[lightOp]at hl;split at hl
   ·rename_i L hb;have hv:=hE x (by simp[Op.operands]) px _ hx hb;generalize nD:ev x=xx at hv;cases hv with|tuple _ vs hL=>
    rw[nth_eq]at hl;obtain⟨v,hv,hr⟩:=hL.get i a hl;have hvi:vs[i]?=some v:=by simpa using hv
    exact⟨v,by simp[Go.execOp,nD,Instr.extract,hvi],hr⟩
   ·cases hl
  ·cases hp
 |call c=>
  obtain⟨callee,args,argTypes⟩:=c;simp only[jh]at hp;split at hp
  ·split at hp
   ·replace hp:=aQ hp;obtain⟨_,hp⟩:=hp;cases hp;simp[lightOp]at hl
   ·cases hp
  ·split at hp
   ·cases hp;simp[lightOp]at hl
   ·cases hp
  ·cases hp
  ·rename_i b;have hex:∀(X:Sem Value),Go.builtin b argTypes ty (args.map fun|.const _=>true|_=>false) (args.map ev)=(do pure (.value (←X)))→
     Go.execOp ev ⟨dst,.call ⟨.builtin b,args,argTypes⟩,ty,pos,after,guard⟩=(do pure (.value (←X))):=by
    intro X hX;rw[←hX];rfl
   have mx:∀(isMax:Bool) (pa pb:PX),OA P nt args.toList=some [pa,pb]→b=(if isMax then .max else .min)→op=.mx isMax pa pb→
     ∃v,(Go.execOp ev ⟨dst,.call ⟨.builtin b,args,argTypes⟩,ty,pos,after,guard⟩).run P w=.ok (.value v) w∧aS ρ μ a v:=by
    intro isMax pa pb hpx hb ki;obtain⟨X,Y,df,hX,hY⟩:=adq hpx;have Z9:args=#[X,Y]:=by apply Array.ext';simpa using df
    subst Z9 ki;simp only[lightOp]at hl;split at hl
    ·rename_i k1 s1 k2 s2 h1 h2;replace hl:=aQ hl;obtain⟨hk,hl⟩:=hl;have:=sg hk;subst this;have hv1:=hE X (by simp[Op.operands,Call.operands]) pa _ hX h1;have hv2:=hE Y (by simp[Op.operands,Call.operands]) pb _ hY h2;generalize nD:ev X=xx at hv1;generalize hyy:ev Y=yy at hv2;cases hv1 with|int _ _ n1 e1=>cases hv2 with|int _ _ n2 e2=>
     cases isMax with
     |true=>
      simp only[if_true]at hb;subst hb;simp only[cond_true]at hl;have fC:∀r:Bool,GL orc .gtr s2 s1=some r→(Go.execOp ev ⟨dst,.call ⟨.builtin .max,#[X,Y],argTypes⟩,ty,pos,after,guard⟩).run P w=.ok (.value (.int k1 (if r then n2 else n1))) w:=by intro r hr;have hc:=w9 ho hr;rw[e1,e2]at hc;simp only[fF,dI]at hc;rw[hex (Builtin.max_ argTypes ty (#[X,Y].map ev)) rfl];refine eQ ?_;subst hc;simp[Builtin.max_,nD,hyy,Builtin.max2]
      split at hl
      ·rename_i hr;cases hl;exact⟨_,fC _ hr,.int _ _ _ e2⟩
      ·rename_i hr;cases hl;exact⟨_,fC _ hr,.int _ _ _ e1⟩
      ·cases hl
     |false=>
      simp only[SH,if_false]at hb;subst hb;simp only[cond_false]at hl;have fC:∀r:Bool,GL orc .lss s2 s1=some r→(Go.execOp ev ⟨dst,.call ⟨.builtin .min,#[X,Y],argTypes⟩,ty,pos,after,guard⟩).run P w=.ok (.value (.int k1 (if r then n2 else n1))) w:=by intro r hr;have hc:=w9 ho hr;rw[e1,e2]at hc;simp only[fF,dI]at hc;rw[hex (Builtin.min_ argTypes ty (#[X,Y].map ev)) rfl];refine eQ ?_;subst hc;simp[Builtin.min_,nD,hyy,Builtin.min2]
      split at hl
      ·rename_i hr;cases hl;exact⟨_,fC _ hr,.int _ _ _ e2⟩
      ·rename_i hr;cases hl;exact⟨_,fC _ hr,.int _ _ _ e1⟩
      ·cases hl
    ·cases hl
   split at hp
   ·rename_i px hpx;obtain⟨X,df,hX⟩:=adp hpx;have Z9:args=#[X]:=by apply Array.ext';simpa using df
    subst Z9;split at hp
    ·rename_i t hty;have amJ:argTypes=#[t]:=by apply Array.ext';simpa using hty
     subst amJ;rw[hex (Builtin.len_ #[t] ty (#[X].map ev)) rfl];split at hp
     ·rename_i hu;cases hp;simp only[lightOp]at hl;split at hl
      ·rename_i n c hb;cases hl;have hv:=hE X (by simp[Op.operands,Call.operands]) px _ hX hb;generalize nD:ev X=xx at hv;cases hv with|str _ _ s hs hs'=>
       refine⟨goInt s.size,?_,.int _ _ _ (by rw[Lib.size_eq,hs];rfl)⟩;refine eQ ?_;simp[Builtin.len_,nD,au hu]
      ·cases hl
     ·rename_i e hu;cases hp;simp only[lightOp]at hl;split at hl
      ·rename_i hb;cases hl;have hv:=hE X (by simp[Op.operands,Call.operands]) px _ hX hb;generalize nD:ev X=xx at hv;cases hv;refine⟨_,?_,.int _ _ _ rfl⟩;refine eQ ?_;simp[Builtin.len_,nD,au hu,goInt,SI.den]
      ·rename_i hb;cases hl;have hv:=hE X (by simp[Op.operands,Call.operands]) px _ hX hb;generalize nD:ev X=xx at hv;cases hv;refine⟨_,?_,.int _ _ _ rfl⟩;refine eQ ?_;simp[Builtin.len_,nD,au hu,goInt,SI.den]
      ·rename_i hb;cases hl;have hv:=hE X (by simp[Op.operands,Call.operands]) px _ hX hb;generalize nD:ev X=xx at hv;cases hv;refine⟨_,?_,.int _ _ _ rfl⟩;refine eQ ?_;simp[Builtin.len_,nD,au hu,goInt,SI.den]
      ·cases hl
     ·cases hp
    ·cases hp
   ·repeat' (first|replace hp:=(aQ hp).2|split at hp)
    all_goals cases hp<;>simp[lightOp]at hl
   ·simp only[dI]at hp;exact mx true _ _ ‹_› rfl hp.symm
   ·simp only[dI]at hp;exact mx false _ _ ‹_› rfl hp.symm
   ·cases hp;simp[lightOp]at hl
   ·cases hp
 |go c=>simp[jh]at hp
 |defer c=>
  simp only[jh]at hp
  repeat' (first|replace hp:=(aQ hp).2|split at hp)
  all_goals cases hp<;>simp[lightOp]at hl
 |panic x=>obtain⟨px,hx,rfl⟩:=map_some hp;simp[lightOp]at hl
 |send c x=>simp[jh]at hp
 |recv t c ok=>simp[jh]at hp
 |select cs b=>simp[jh]at hp
end
end Go.Sx
