/- A part of the proof. No condition. -/
import Derived.Test.YtmdpbiocakjlkaaGreatDoorP4
import Derived.Test.YtmdpbiocakjlkaaGreatDoorP9
import Derived.Test.YtmdpbiocakjlkaaGreatDoorP13
import Derived.Test.YtmdpbiocakjlkaaGreatDoorP14
set_option linter.unusedSimpArgs false
set_option linter.unusedVariables false
set_option linter.unusedSectionVars false
namespace Tp
open Go.Sx Go Go.Proofs Go.RowKit Go.Sort Tb
def dig:Nat→Nat→List UInt8
 |0,_=>[]
 |n+1,c=>UInt8.ofNat (c%256) ::dig n (c / 256)
theorem abN:∀ n c,(dig n c).length=n
 |0,_=>rfl
 |n+1,c=>by rw[dig,Tj,abN]
theorem abO:∀ n c,c<256^n→Go.Sx.enc (dig n c)=c
 |0,c,h=>by simp at h;subst h;rfl
 |n+1,c,h=>by
  have ih:=abO n (c / 256) (by rw[Nat.pow_succ] at h;omega)
  rw[dig]
  simp only[Go.Sx.enc,ih]
  have:(UInt8.ofNat (c%256)).toNat=c%256:=by simp
  rw[this];omega
abbrev OQ:={x:Pr // Mb x}
instance:Inhabited OQ:=⟨⟨(⟨0,0,0,0⟩,⟨0,0,0,0⟩),by unfold Mb Ta;decide⟩⟩
def eA(x:OQ):List AV:=eP x.1
def sV(b:Br):Value:=.string ⟨(dig b.a b.b).toArray⟩
def eV(x:OQ):List Value:=[sV x.1.1,.int .i64 x.1.1.n,.int .i64 x.1.1.m,sV x.1.2,.int .i64 x.1.2.n,.int .i64 x.1.2.m]
theorem aou(ρ:Nat→Int)(μ:Mu){b:Br}(hb:Ta b):bn ρ μ (.str b.a b.b) (sV b):=.str _ _ _ (by simp[abN]) (by simpa using abO _ _ hb)
theorem aov{ρ:Nat→Int}{μ:Mu}{b:Br}{v:Value}(hb:Ta b)(hr:bn ρ μ (.str b.a b.b) v):sV b=v:=by
 cases hr with
 |str _ _ s h1 h2=>
  have:s=⟨(dig b.a b.b).toArray⟩:=by
   have e:=abP (a:=s.data.toList) (b:=dig b.a b.b) (by rw[h1,abN]) (by rw[h2,abO _ _ hb])
   cases s with
   |mk d=>
    have:d=(dig b.a b.b).toArray:=by
     rw[← e]
    rw[this]
  subst this;rfl
theorem agI{ρ:Nat→Int}{μ:Mu}{n:Int}{v:Value}(hr:bn ρ μ (I n) v):Value.int .i64 n=v:=by
 cases hr with
 |int _ _ n h=>rw[← h];rfl
theorem two:Two 6 eA eV where
 flat:=⟨fun x=>rfl,fun x=>rh.jh x.1,fun x=>rh.cell x.1,fun x=>rfl⟩
 len _:=rfl
 one x v hv:=by
  simp[eV,sV] at hv
  rcases hv with rfl|rfl|rfl|rfl|rfl|rfl<;>rfl
 rel ρ μ x:=.cons _ _ _ _ (aou ρ μ x.2.1) (.cons _ _ _ _ (.int _ _ _ rfl) (.cons _ _ _ _ (.int _ _ _ rfl) (.cons _ _ _ _ (aou ρ μ x.2.2) (.cons _ _ _ _ (.int _ _ _ rfl) (.cons _ _ _ _ (.int _ _ _ rfl) .nil)))))
 det ρ μ x i a v ha hr:=by
  rcases i with _|_|_|_|_|_|i
  ·simp[eA,eP,eB] at ha;subst ha
   exact congrArg some (aov x.2.1 hr)
  ·simp[eA,eP,eB] at ha;subst ha
   exact congrArg some (agI hr)
  ·simp[eA,eP,eB] at ha;subst ha
   exact congrArg some (agI hr)
  ·simp[eA,eP,eB] at ha;subst ha
   exact congrArg some (aov x.2.2 hr)
  ·simp[eA,eP,eB] at ha;subst ha
   exact congrArg some (agI hr)
  ·simp[eA,eP,eB] at ha;subst ha
   exact congrArg some (agI hr)
  ·simp[eA,eP,eB] at ha
def cf(x y:OQ):Int:=adt x.1 y.1
theorem agJ(x y:OQ):ltOf cf x y=true↔Vx x.1 y.1:=by unfold ltOf cf Vx;exact decide_eq_true_iff
theorem abQ(x y:OQ):ltOf cf x y=false↔¬ Vx x.1 y.1:=by rw[← agJ];simp
theorem aqm:SWO (ltOf cf) where
 irrefl x:=(abQ x x).2 (VC.irr x.1 x.2)
 trans x y z h1 h2:=(agJ x z).2 (VC.trans x.1 y.1 z.1 x.2 y.2 z.2 ((agJ x y).1 h1) ((agJ y z).1 h2))
 ntrans x y z h1 h2:=by
  rw[abQ] at *
  intro h3
  by_cases h4:Vx y.1 x.1
  ·exact h2 (VC.trans y.1 x.1 z.1 y.2 x.2 z.2 h4 h3)
  ·have e:=VC.tri x.1 y.1 x.2 y.2 h1 h4
   rw[e] at h3;exact h2 h3
theorem aqn(x y:OQ)(h1:ltOf cf x y=false)(h2:ltOf cf y x=false):x=y:=
 Subtype.ext (VC.tri x.1 y.1 x.2 y.2 ((abQ x y).1 h1) ((abQ y x).1 h2))
def Tl:List AV→List Pr
 |.str a b ::.int .i64 (.lit n) ::.int .i64 (.lit m) ::.str c d ::.int .i64 (.lit i) ::.int .i64 (.lit j) ::r=>(⟨a,b,n,m⟩,⟨c,d,i,j⟩) ::Tl r
 |_=>[]
theorem Tm:∀ us:List Pr,Tl (aI eP us)=us
 | []=>rfl
 |x ::us=>by rw[rj];simp[eP,eB,Tl,Tm us]
open Classical in
noncomputable def aal(f:Nat)(l:List AV)(h:T ab)(nx:Key):Option (AV×T ab×Key):=
 if f=12∧l=[] then some (.bool true,h,nx) else
 if f=29 then match l with
  | [.slice b off len sz,.fn g a c]=>if off=0∧sz=6∧g=30∧a=[]∧c=[] then(match aa b h with
   |some (.cells L .fix)=>if L=aI eP (Tl L)∧len=(Tl L).length∧len≤1000000∧∀ x∈Tl L,Mb x then some (.tuple [],aK b (some (.cells (aI eP (GH (Tl L))) .fix)) h,nx) else none
   |_=>none) else none
  |_=>none
 else none
def agK(f:Nat):Bool:=Nat.beq f 62||Nat.beq f 29||Nat.beq f 85||Nat.beq f 10||Nat.beq f 11
noncomputable def CB:cU:=⟨[],ajp,aal,agK,fun f=>Nat.beq f 7⟩
noncomputable def C0:cU:=⟨[],ajp,ah6 [],agK,fun _=>false⟩
theorem fn0{f:Nat}{p:eG}(hg:OL C0 f=some p):Fn C0 f p:=⟨hg,fun l h nx=>rfl,rfl⟩
theorem Yw{f:Nat}(h1:f≠12)(h2:f≠29)(l:List AV)(h:T ab)(nx:Key):aal f l h nx=none:=by
 unfold aal;rw[if_neg (fun h=>h1 h.1),if_neg h2]
theorem fnB{f:Nat}{p:eG}(hg:OL CB f=some p)(h1:f≠12)(h2:f≠29)(h3:CB.IS f=false):Fn CB f p:=⟨hg,fun l h nx=>Yw h1 h2 l h nx,h3⟩
theorem ajq:∀ f,(f≠62∧f≠29∧f≠85∧f≠10∧f≠11)→agK f=false:=by
 intro f hf
 have h:∀ n,f≠n→Nat.beq f n=false:=fun n hn=>by
  cases hb:Nat.beq f n with
  |false=>rfl
  |true=>exact absurd (yB hb) hn
 unfold agK
 rw[h _ hf.1,h _ hf.2.1,h _ hf.2.2.1,h _ hf.2.2.2.1,h _ hf.2.2.2.2];rfl
theorem auJ:dd C0:=by constructor<;>first|rfl|exact fn0 (by kernel_rfl)
theorem aAm:Std C0:=by
 constructor
 ·exact auJ
 ·exact ajq
 all_goals exact fn0 (by kernel_rfl)
theorem auK:dd CB:=by constructor<;>first|rfl|exact fnB (by kernel_rfl) (by decide) (by decide) rfl
theorem aAn:Std CB:=by
 constructor
 ·exact auK
 ·exact ajq
 all_goals exact fnB (by kernel_rfl) (by decide) (by decide) rfl
theorem aAo:∀ w,(isAgg (Tryz.laysS_ren.t 24)).run Tryz.prog w=.ok true w:=fun w=>by kernel_rfl
theorem aAp:∀ w,(Go.sizeOf (Tryz.laysS_ren.t 24)).run Tryz.prog w=.ok 6 w:=fun w=>by kernel_rfl
theorem aAq{ρ:Nat→Int}(w0:W0)(hL:qE Tryz.prog heap0 w0):Ctx Tryz.prog ρ w0 C0:=
 have X:=abR Rj abS mix (show IT Tryz.prog ρ heap0 [] from trivial) w0 hL
 ⟨X.sum,X.has,X.orc,X.fns,X.mix⟩
theorem ams{ρ:Nat→Int}{w0:W0}(hL:qE Tryz.prog heap0 w0){us:List Pr}(hu:∀ x∈us,Mb x)(hlen:us.length≤1000000){b:Key}{H:T ab}{nx:Key}(hb:aa b H=some (.cells (aI eP us) .fix)) :
  Wp Tryz.prog ρ w0 29 [.slice b 0 us.length 6,.fn 30 [] []] H nx (.tuple []) (aK b (some (.cells (aI eP (GH us)) .fix)) H) nx:=by
 have Yx:(us.attachWith Mb hu).map Subtype.val=us:=List.attachWith_map_subtype_val hu
 have Wq:∀ l:List OQ,aI eA l=aI eP (l.map Subtype.val):=fun l=>by simp[aI,List.flatMap_map,eA]
 have hl:(us.attachWith Mb hu).length=us.length:=List.length_attachWith
 have kO:aa b H=some (.cells (aI eA (us.attachWith Mb hu)) .fix):=by rw[Wq,Yx];exact hb
 obtain⟨fn,c,g1,g2,g3,_⟩:=AO (P:=Tryz.prog) (f:=30) Tn
 have key:=ajr (P:=Tryz.prog) (ρ:=ρ) (heap0:=heap0) (C:=C0) (fun w0 hL=>aAq w0 hL) Tryz.laysS (k:=6) aAo aAp two (cf:=cf) aqm aqn (g:=30)
  (fun args w=>vN g1 (by rw[g2];rfl) g3 args) (nx0:=jv) few (fun x y=>(amt aAm x.1 y.1 heap0 jv).mono fun o _ _ h=>h.1) (us:=us.attachWith Mb hu) (by omega) hL kO (nx:=nx)
 have hs:aI eA ((us.attachWith Mb hu).mergeSort fun x y=>!(ltOf cf) y x)=aI eP (GH us):=by
  have e:=List.map_mergeSort (r:=fun x y:OQ=>!(ltOf cf) y x) (s:=fun x y:Pr=>!(decide (adt y x<0))) (f:=Subtype.val) (l:=us.attachWith Mb hu) (fun a _ b _=>rfl)
  rw[Wq,e,Yx];rfl
 rw[hs,hl] at key
 exact key
theorem aAr{ρ:Nat→Int}(w0:W0)(hL:qE Tryz.prog heap0 w0):Ctx Tryz.prog ρ w0 CB:=by
 have X:=abR (ρ:=ρ) Rj abS mix (show IT Tryz.prog ρ heap0 [] from trivial) w0 hL
 refine⟨?_,?_,X.orc,X.fns,X.mix⟩
 ·intro f l H nx a H' nx' hs0
  have hs:aal f l H nx=some (a,H',nx'):=hs0
  clear hs0
  unfold aal at hs
  split at hs
  ·rename_i h
   obtain⟨rfl,rfl⟩:=h
   cases hs
   exact aAs ρ w0 hL H nx
  ·split at hs
   ·rename_i hf
    subst hf
    split at hs
    ·split at hs
     ·rename_i h
      obtain⟨rfl,rfl,rfl,rfl,rfl⟩:=h
      split at hs
      ·rename_i L hg
       split at hs
       ·rename_i h
        obtain⟨h1,rfl,h3,h4⟩:=h
        cases hs
        refine ams hL h4 h3 ?_
        rw[← h1];exact hg
       ·cases hs
      ·cases hs
     ·cases hs
    ·cases hs
   ·cases hs
 ·intro f l H nx r hs
  have hs:aal f l H nx=some r:=hs
  have hf:f=12∨f=29:=by
   by_cases h1:f=12
   ·exact .inl h1
   ·by_cases h2:f=29
    ·exact .inr h2
    ·rw[Yw h1 h2] at hs;cases hs
  rcases hf with rfl|rfl
  ·obtain⟨fn,c,f1,f2,f3,_⟩:=AO (okx (n:=12) (by kernel_rfl))
   exact⟨fn,f1,by rw[f2];rfl,f3⟩
  ·obtain⟨fn,c,f1,f2,f3,_⟩:=AO (okx (n:=29) (by kernel_rfl))
   exact⟨fn,f1,by rw[f2];rfl,f3⟩
theorem aAt:abT CB:=by
 refine⟨aAn,rfl,?_⟩
 intro us b h nx hu hl hg
 show aal 29 [.slice b 0 us.length 6,.fn 30 [] []] h nx=_
 unfold aal
 rw[if_neg (by simp),if_pos rfl]
 simp only[hg,Tm]
 simp[hl]
 rw[Tm]
 exact⟨rfl,rfl,fun a b hab=>hu (a,b) hab⟩
theorem aAu{f:Nat}{p:eG}(hg:OL CB f=some p)(h1:f≠12)(h2:f≠29)(h3:CB.IS f=true):FnR CB f p:=⟨hg,fun l h nx=>Yw h1 h2 l h nx,h3⟩
theorem ajs:auN CB:=⟨aAt,aAu (by kernel_rfl) (by decide) (by decide) rfl,rfl,rfl⟩
theorem auO:XR CB Ac [] (·=.ret (.bool true)):=fun h nx=>.inl ⟨.bool true,h,nx,by show aal 12 [] h nx=_;unfold aal;simp,rfl,Ext.refl _ _⟩
theorem ah7{c d:AV}{l m:List Int}(hc:IsR 1 eI c l)(hd:IsR 1 eI d m)(hl:inR l)(hm:inR m):XR CB tG [c,d] (·=.ret (.bool true)):=adu ajs auO rfl hc hd hl hm
end Tp
