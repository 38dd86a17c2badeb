/- A part of the proof. No condition. -/
import Derived.Test.YtmdpbiocakjlkaaGreatDoorP4
import Derived.Lib.LaidTab
set_option linter.unusedSimpArgs false
set_option linter.unusedVariables false
set_option linter.unusedSectionVars false
namespace Go.Sx
def zW(W:World)(c i:Nat):Option Value:=match W.heap[c]? with
 |some (.cells arr _ _)=>arr[i]?
 |_=>none
theorem an5{W:World}:∀ c i v,zW W c i=some v→∃ arr elem f,W.heap[c]?=some (.cells arr elem f)∧arr[i]?=some v:=by
 intro c i v h
 unfold zW at h
 split at h
 ·rename_i arr e f he;exact⟨arr,e,f,he,h⟩
 ·cases h
def ahH(W:World)(g:Nat)(zs:List (List UInt8)):Prop:=
 ∃ arr elem f,W.heap[g]?=some (.cells arr elem f)∧∃ ss:List ByteArray,arr.toList=ss.map Value.string∧ss.map (·.data.toList)=zs
def Va{H:Type}(zs:List (List UInt8)):DataW H:=.agg (zs.map fun z=>.lit (.string z))
def UD:DataW Unit→List (List UInt8)
 |.agg l=>l.filterMap fun
  |.lit (.string z)=>some z
  |_=>none
 |_=>[]
theorem trod_string{H:Type}{enc:TypeId×Value→H}{P:Program}{w:World}{base:Nat}{sp:Nat→Bool}{held:Bool}{fuel:Nat}{t:TypeId}{cs:List Value}{x:DataW H×List MemPlace}
  (ht:P.underlying t=some .string) (h:DataW.trod enc P w base sp held fuel t cs=some x):∃ s,cs=[.string s]∧x=(.lit (.string s.data.toList),[]):=by
 cases fuel with
 |zero=>simp[DataW.trod] at h
 |succ fuel=>
  match cs with
  | []=>simp[DataW.trod,ht] at h
  |_ ::_ ::_=>simp[DataW.trod,ht] at h
  | [c]=>
   cases c<;>simp[DataW.trod,ht] at h
   exact⟨_,rfl,h.2.symm⟩
theorem aey:∀ {n:Nat} {cs:List Value} {zs:List (List UInt8)},cs.length=n→zs.length=n→(∀ i,i<n→∃ s:ByteArray,cs[i]?=some (.string s)∧zs[i]?=some s.data.toList)→
  ∃ ss:List ByteArray,cs=ss.map Value.string∧ss.map (·.data.toList)=zs
 |0,cs,zs,h1,h2,_=>⟨[],by simp[List.length_eq_zero_iff.1 h1],by simp[List.length_eq_zero_iff.1 h2]⟩
 |n+1,c ::cs,z ::zs,h1,h2,yw=>by
  obtain⟨s,e1,e2⟩:=yw 0 (by omega)
  simp only[List.getElem?_cons_zero,dO] at e1 e2
  subst e1 e2
  obtain⟨ss,i1,i2⟩:=aey (n:=n) (cs:=cs) (zs:=zs) (by simpa using h1) (by simpa using h2) (fun i hi=>by have:=yw (i+1) (by omega);simpa using this)
  exact⟨s ::ss,by simp[i1],by simp[i2]⟩
theorem ZO{H:Type}{enc:TypeId×Value→H}{P:Program}{w:World}{base:Nat}{sp:Nat→Bool}{held:Bool}{fuel:Nat}{t e:TypeId}{n:Nat}{cs:List Value}{zs:List (List UInt8)}{p:List MemPlace}
  (ht:P.underlying t=some (.array n e)) (he:P.underlying e=some .string) (hce:P.cellsOf e=1) (hct:P.cellsOf t=n)
  (h:DataW.trod enc P w base sp held fuel t cs=some (Va zs,p)):∃ ss:List ByteArray,cs=ss.map Value.string∧ss.map (·.data.toList)=zs:=by
 cases fuel with
 |zero=>simp[DataW.trod] at h
 |succ fuel=>
  simp only[DataW.trod,ht,hce,hct,Nat.mul_one] at h
  split at h
  ·rename_i hl
   obtain⟨xs,hm,hx⟩:=Option.map_eq_some_iff.1 h
   have hxs:xs.map (·.1)=zs.map fun z=>(DataW.lit (.string z):DataW H):=by
    have:=congrArg Prod.fst hx
    simpa[Va] using this
   have hxl:xs.length=n:=by simpa using Lib.mapM_length hm
   have hzl:zs.length=n:=by
    have:=congrArg List.length hxs
    simp at this
    omega
   have yw:∀ i,i<n→∃ s:ByteArray,cs[i]?=some (.string s)∧zs[i]?=some s.data.toList:=by
    intro i hi
    obtain⟨b,hb,hf⟩:=Lib.mapM_at hm i i (by simp[hi])
    obtain⟨s,hc,rfl⟩:=trod_string he hf
    have h1:cs[i]?=some (.string s):=by
     have:=congrArg (·[0]?) hc
     simpa[List.getElem?_take,List.getElem?_drop] using this
    have h2:(xs.map (·.1))[i]?=some (DataW.lit (.string s.data.toList):DataW H):=by simp[hb]
    rw[hxs] at h2
    simp only[List.getElem?_map,Option.map_eq_some_iff,DataW.lit.injEq,Lit.string.injEq] at h2
    obtain⟨z',hz',rfl⟩:=h2
    exact⟨s,h1,hz'⟩
   exact aey hl hzl yw
  ·cases h
theorem WW{P:Program}{W:World}{name:String}{d:DataW Unit}{zs:List (List UInt8)}{rest:List (String×DataW Unit)}{g:Nat}{t e:TypeId}{n:Nat}
  (hg:P.globalNamed name=some g) (hty:(P.globals[g]?).map (·.type)=some t) (ht:P.underlying t=some (.array n e)) (he:P.underlying e=some .string) (hce:P.cellsOf e=1) (hct:P.cellsOf t=n) (hd:d=Va zs)
  (h:laidMet P ((name,d) ::rest) W):ahH W g zs:=by
 subst hd
 obtain⟨ps,⟨g',t',cs,fuel,p,q,hg',ht',agq,hd,_,_⟩,_⟩:=h
 obtain rfl:=Option.some.inj (hg.symm.trans hg')
 obtain rfl:=Option.some.inj (hty.symm.trans ht')
 obtain⟨ss,h1,h2⟩:=ZO ht he hce hct hd
 unfold World.var? at agq
 rw[hg] at agq
 simp only[Option.bind_some] at agq
 split at agq
 ·rename_i arr elem f hh
  cases agq
  exact⟨_,elem,f,hh,ss,h1,h2⟩
 ·cases agq
theorem acT{P:Program}{W:World}{x:String×DataW Unit}{rest:List (String×DataW Unit)}(h:laidMet P (x ::rest) W):laidMet P rest W:=by
 obtain⟨ps,⟨g',t',cs,fuel,p,q,hg',ht',agq,hd,hr,rfl⟩,hn,ha⟩:=h
 exact⟨q,hr,(List.nodup_append.1 hn).2.1,fun b off hb=>ha b off (List.mem_append_right _ hb)⟩
def ahI(z:List UInt8):AV:=.str z.length (enc z)
theorem abv(ρ:Nat→Int)(μ:Mu):∀ (ss:List ByteArray),aB ρ μ ((ss.map (·.data.toList)).map ahI) (ss.map Value.string)
 | []=>.nil
 |s ::ss=>.cons _ _ _ _ (.str _ _ s rfl rfl) (abv ρ μ ss)
theorem ahJ{P:Program}{W:World}{b:Key}{zs:List (List UInt8)}{B:ab}(h:ahH W b.toNat zs)(hb:b.toNat<P.globals.size)(hB:B=.cells (zs.map ahI) .ro) :
  b.toNat<P.globals.size∧∃ L arr elem f,B=.cells L .ro∧W.heap[b.toNat]?=some (.cells arr elem f)∧(∀ (ρ:Nat→Int) (μ:Mu),aB ρ μ L arr.toList)∧∀ i v,arr[i]?=some v→zW W b.toNat i=some v:=by
 obtain⟨arr,elem,f,h1,ss,h2,rfl⟩:=h
 refine⟨hb,_,arr,elem,f,hB,h1,fun ρ μ=>?_,fun i v hv=>?_⟩
 ·rw[h2];exact abv ρ μ ss
 ·unfold zW;rw[h1];exact hv
end Go.Sx
