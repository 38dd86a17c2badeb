/- A part of the proof. No condition. -/
import GoSem.Step
import Derived.Below
set_option linter.unusedSimpArgs false
set_option linter.unusedVariables false
set_option linter.unusedSectionVars false
namespace Go.Sx
theorem fh:type_of% @Nat.le_refl:=@Nat.le_refl
theorem Pe:type_of% @List.getElem?_eq_getElem:=@List.getElem?_eq_getElem
theorem vV:type_of% @List.all_eq_true:=@List.all_eq_true
theorem mU:type_of% @Nat.eq_of_beq_eq_true:=@Nat.eq_of_beq_eq_true
theorem jj:type_of% @Bool.and_eq_true:=@Bool.and_eq_true
theorem zqf:type_of% @List.length_append:=@List.length_append
theorem Ga:type_of% @List.mem_cons:=@List.mem_cons
theorem Pu:type_of% @List.take_of_length_le:=@List.take_of_length_le
theorem zqi:type_of% @List.length_cons:=@List.length_cons
theorem Uv:type_of% @Array.getElem?_eq_none:=@Array.getElem?_eq_none
theorem zqk:type_of% @List.flatten_cons:=@List.flatten_cons
theorem JJ:type_of% @Nat.lt_of_lt_of_le:=@Nat.lt_of_lt_of_le
theorem Ps:type_of% @Bool.false_eq_true:=@Bool.false_eq_true
theorem zqn:type_of% @Array.getElem?_setIfInBounds_ne:=@Array.getElem?_setIfInBounds_ne
theorem zqo:type_of% @List.getElem?_eq_none:=@List.getElem?_eq_none
theorem Dn:type_of% @List.getElem_mem:=@List.getElem_mem
theorem zqq:type_of% @List.drop_append:=@List.drop_append
theorem zqr:type_of% @List.eq_nil_of_length_eq_zero:=@List.eq_nil_of_length_eq_zero
theorem Dr:type_of% @Nat.lt_or_ge:=@Nat.lt_or_ge
theorem zqt:type_of% @List.drop_eq_getElem_cons:=@List.drop_eq_getElem_cons
theorem zqu:type_of% @List.take_succ_eq_append_getElem:=@List.take_succ_eq_append_getElem
theorem Fa:type_of% @List.mem_map:=@List.mem_map
theorem zqw:type_of% @List.take_append:=@List.take_append
theorem zqx:type_of% @List.map_cons:=@List.map_cons
theorem zqy:type_of% @List.length_take:=@List.length_take
theorem cT:type_of% @Option.some.injEq:=@Option.some.injEq
inductive Key where
 |z
 |o (k:Key)
 |e (k:Key)
def Key.toNat:Key→Nat
 |.z=>0
 |.o k=>2*k.toNat+1
 |.e k=>2*k.toNat+2
noncomputable def Key.succ(k:Key):Key:=
 Key.rec (.o .z) (fun k _=>.e k) (fun _ ih=>.o ih) k
def Key.eH:Nat→Nat→Key
 |0,_=>.z
 |f+1,n=>bif Nat.beq n 0 then .z else bif Nat.beq (n%2) 1 then .o (Key.eH f (n / 2)) else .e (Key.eH f (n / 2-1))
def Key.beq:Key→Key→Bool
 |.z,.z=>true
 |.o a,.o b=>Key.beq a b
 |.e a,.e b=>Key.beq a b
 |_,_=>false
inductive T(α:Type) where
 |nil
 |node (v:Option α) (l r:T α)
noncomputable def aa{α:Type}(k:Key):T α→Option α:=
 Key.rec (fun t=>T.rec none (fun v _ _ _ _=>v) t) (fun _ ih t=>T.rec none (fun _ l _ _ _=>ih l) t)
  (fun _ ih t=>T.rec none (fun _ _ r _ _=>ih r) t) k
noncomputable def sY{α R:Type}(k:Key)(x:Option α):T α→(T α→R)→R:=
 Key.rec (fun t c=>T.rec (c (.node x .nil .nil)) (fun _ l r _ _=>c (.node x l r)) t)
  (fun _ ih t c=>T.rec (ih .nil fun l=>c (.node none l .nil)) (fun v l r _ _=>ih l fun l=>c (.node v l r)) t)
  (fun _ ih t c=>T.rec (ih .nil fun r=>c (.node none .nil r)) (fun v l r _ _=>ih r fun r=>c (.node v l r)) t) k
noncomputable def nth{α:Type}(n:Nat):List α→Option α:=
 Nat.rec (fun l=>List.rec none (fun x _ _=>some x) l) (fun _ ih l=>List.rec none (fun _ t _=>ih t) l) n
noncomputable def td{α:Type}(n:Nat):List α→List α:=
 Nat.rec (fun l=>l) (fun _ ih l=>List.rec [] (fun _ t _=>ih t) l) n
noncomputable def vY{α R:Type}(n:Nat):List α→R→(List α→R)→R:=
 Nat.rec (fun _ _ c=>c []) (fun _ ih l bad c=>List.rec bad (fun x t _=>ih t bad fun r=>c (x ::r)) l) n
noncomputable def anh{α R:Type}(vs:List α):List α→R→(List α→R)→R:=
 List.rec (fun l _ c=>c l) (fun v _ ih l bad c=>List.rec bad (fun _ t _=>ih t bad fun r=>c (v ::r)) l) vs
noncomputable def U6{α R:Type}(vs:List α)(off:Nat):List α→R→(List α→R)→R:=
 Nat.rec (fun l bad c=>anh vs l bad c) (fun _ ih l bad c=>List.rec bad (fun x t _=>ih t bad fun r=>c (x ::r)) l) off
noncomputable def Pv{α R:Type}(a b:List α)(c:List α→R):R:=
 List.rec (motive:=fun _=>(List α→R)→R) (fun c=>c b) (fun x _ ih c=>ih fun r=>c (x ::r)) a c
noncomputable def lenL{α:Type}(l:List α):Nat:=List.rec 0 (fun _ _ ih=>Nat.succ ih) l
noncomputable def av5{α:Type}(n:Nat)(zs:List α):List α→List α:=
 Nat.rec (fun acc=>acc) (fun _ ih acc=>Pv zs (ih acc) fun r=>r) n
inductive SI where
 |lit (n:Int)
 |var (i:Nat)
 |bin (op:BinOp) (k:IntKind) (a b:SI)
inductive SF where
 |any
 |tok (b:Key)
inductive AV where
 |bool (b:Bool)
 |int (k:IntKind) (n:SI)
 |str (n c:Nat)
 |ptr (b:Key) (off:Nat)
 |nilp
 |slice (b:Key) (off len sz:Nat)
 |nils
 |map (b:Key)
 |nilm
 |fn (f:Nat) (first cap:List AV)
 |yld (l:Key)
 |nilf
 |iface (t:Nat) (v:AV)
 |nili
 |agg (l:List AV)
 |tuple (l:List AV)
 |sl (l:List AV) (len sz:Nat) (fl:SF)
 |cref (l:List AV)
def AV.cells:AV→List AV
 |.agg l=>l
 |v=>[v]
def AV.aN:AV→Bool
 |.agg _=>false
 |.tuple _=>false
 |_=>true
def eqI:Int→Int→Bool
 |.ofNat a,.ofNat b=>Nat.beq a b
 |.negSucc a,.negSucc b=>Nat.beq a b
 |_,_=>false
def D9:Int→Int→Bool
 |.ofNat a,.ofNat b=>Nat.blt a b
 |.negSucc a,.negSucc b=>Nat.blt b a
 |.negSucc _,.ofNat _=>true
 |.ofNat _,.negSucc _=>false
def ID:BinOp→BinOp→Bool
 |.add,.add|.sub,.sub|.mul,.mul|.quo,.quo|.rem,.rem|.lss,.lss|.leq,.leq|.gtr,.gtr|.geq,.geq|.eql,.eql|.neq,.neq=>true
 |_,_=>false
def beqKind:IntKind→IntKind→Bool
 |.i8,.i8|.i16,.i16|.i32,.i32|.i64,.i64|.u8,.u8|.u16,.u16|.u32,.u32|.u64,.u64=>true
 |_,_=>false
def SI.beq:SI→SI→Bool
 |.lit a,.lit b=>eqI a b
 |.var i,.var j=>Nat.beq i j
 |.bin o k a b,.bin o' k' a' b'=>ID o o'&&beqKind k k'&&SI.beq a a'&&SI.beq b b'
 |_,_=>false
def SF.beq:SF→SF→Bool
 |.any,.any=>true
 |.tok a,.tok b=>Key.beq a b
 |_,_=>false
mutual
def AV.beq:AV→AV→Bool
 |.bool a,.bool b=>a==b
 |.int k a,.int k' b=>beqKind k k'&&SI.beq a b
 |.str n c,.str n' c'=>Nat.beq n n'&&Nat.beq c c'
 |.ptr b o,.ptr b' o'=>Key.beq b b'&&Nat.beq o o'
 |.nilp,.nilp=>true
 |.slice b o l s,.slice b' o' l' s'=>Key.beq b b'&&Nat.beq o o'&&Nat.beq l l'&&Nat.beq s s'
 |.nils,.nils=>true
 |.map b,.map b'=>Key.beq b b'
 |.nilm,.nilm=>true
 |.fn f a c,.fn f' a' c'=>Nat.beq f f'&&AV.DI a a'&&AV.DI c c'
 |.yld l,.yld l'=>Key.beq l l'
 |.nilf,.nilf=>true
 |.iface t v,.iface t' v'=>Nat.beq t t'&&AV.beq v v'
 |.nili,.nili=>true
 |.agg l,.agg l'=>AV.DI l l'
 |.tuple l,.tuple l'=>AV.DI l l'
 |.sl l n z f,.sl l' n' z' f'=>AV.DI l l'&&Nat.beq n n'&&Nat.beq z z'&&SF.beq f f'
 |.cref l,.cref l'=>AV.DI l l'
 |_,_=>false
def AV.DI:List AV→List AV→Bool
 | [],[]=>true
 |a ::l,b ::m=>AV.beq a b&&AV.DI l m
 |_,_=>false
end
def full:IntKind→Int
 |.i8|.u8=>256
 |.i16|.u16=>65536
 |.i32|.u32=>4294967296
 |.i64|.u64=>18446744073709551616
def half:IntKind→Int
 |.i8=>128
 |.i16=>32768
 |.i32=>2147483648
 |.i64=>9223372036854775808
 |.u8=>256
 |.u16=>65536
 |.u32=>4294967296
 |.u64=>18446744073709551616
def cu(k:IntKind)(n:Int):Int:=
 bif D9 (Int.emod n (full k)) (half k) then Int.emod n (full k) else Int.sub (Int.emod n (full k)) (full k)
inductive PX where
 |t (k:Key)
 |v (a:AV)
inductive tK where
 |bool
 |int
 |str
 |ptr
 |iface
 |slice
 |func
 |map
 |parts (l:List (Nat×tK))
inductive F9 where
 |mov (x:PX)
 |pick (c a b:PX)
 |new (zs:List AV)
 |box (x:PX)
 |build (zs:List AV) (parts:List (Nat×Nat×PX))
 |bslice (sz len:Nat) (zs:List AV) (parts:List (Nat×Nat×PX))
 |load (agg:Bool) (n:Nat) (a:PX)
 |store (n:Nat) (a v:PX)
 |nilc (x:PX)
 |bin (op:BinOp) (x y:PX)
 |eq (neg:Bool) (p:tK) (x y:PX)
 |un (op:UnOp) (x:PX)
 |cint (k:IntKind) (x:PX)
 |cstr (x:PX)
 |cbytes (x:PX)
 |mkif (t:Nat) (x:PX)
 |mkfn (f:Nat) (first cap:List PX)
 |mkmap
 |mkslice (sz:Nat) (zs:List AV) (l c:PX)
 |sliceS (x:PX) (lo hi:Option PX)
 |sliceL (sz:Nat) (x:PX) (lo hi:Option PX)
 |sliceA (len sz:Nat) (x:PX) (lo hi:Option PX)
 |fieldA (off:Nat) (x:PX)
 |field (agg:Bool) (off n:Nat) (x:PX)
 |indexA (len sz:Nat) (x i:PX)
 |indexL (sz:Nat) (x i:PX)
 |indexS (x i:PX)
 |indexV (len:Nat) (agg:Bool) (sz:Nat) (x i:PX)
 |lookup (sk:Bool) (zero:AV) (ok:Bool) (m k:PX)
 |mapupd (sk:Bool) (m k v:PX)
 |mapupdP (p:tK) (m k v:PX)
 |delP (p:tK) (m k:PX)
 |rangeM (x:PX)
 |nextM (x:PX)
 |entryM (x:PX)
 |strb (x:PX)
 |assert (t:Nat) (zero:AV) (ok:Bool) (x:PX)
 |extract (x:PX) (i:Nat)
 |callF (f:Nat) (args:List PX)
 |callV (v:PX) (args:List PX)
 |lenS (x:PX)
 |lenL (x:PX)
 |lenM (x:PX)
 |append (sz:Nat) (s x:PX)
 |mx (isMax:Bool) (a b:PX)
 |dfr (v:PX) (args:List PX)
 |panic (x:PX)
 |recover
structure J where
 dst:Option Key
 op:F9
 guard:Option (Key×Bool)
inductive aM where
 |L (i:Nat) (o:J)
 |A (i:Nat) (o:J)
 |H (i:Nat) (o:J) (BK:List Nat)
 |R (os:List (Nat×J))
structure SD where
 ds:List Key
 iK:List (Nat×List Nat)
inductive aA where
 |skip
 |ops (l:List J)
 |staged (l:List aM) (ic:SD)
 |seq (a b:aA)
 |cond (c:PX) (a b:aA)
 |block (id:Nat) (c:aA)
 |loop (c:aA)
 |rangeF (f:PX) (params:List Key) (assign body:aA)
 |exit (id:Nat)
 |ret
inductive RV where
 |tmp (k:Key)
 |cell (k:Key) (agg:Bool) (n:Nat)
structure fK where
 body:aA
 res:List RV
inductive LS where
 |ready|busy|done|exhausted
inductive CK where
 |fix|ro|part
inductive ag where
 |cells (l:List AV) (k:CK)
 |map (l:List (AV×AV))
 |mapD (l:List (Nat×AV×AV)) (clock:Nat)
 |iter (m:Key) (n:Nat) (seen:List Nat)
 |loop (st:LS) (pending:Option aA) (fn:Nat) (tm:T AV) (res:List RV) (params:List Key) (assign body:aA) (dfs:Key)
 |dfs (taken:Bool)
 |tok
inductive cJ where
 |code (c:aA)
 |inBlock (id:Nat)
 |inLoop (c:aA)
 |ops (l:List J)
 |staged (l:List aM) (ic:SD) (ak:List (Nat×Key×ag))
 |inRF (l:Key)
 |endRF (l:Key)
 |beginRound
inductive asb where
 |run
 |ret
 |pan (v:AV) (recovered:Bool)
inductive Sb where
 |fn (f:Nat) (args:List AV)
 |coll (b:Key)
structure jP where
 fn:Nat
 tm:T AV
 todo:List cJ
 dfs:List Sb
 mode:asb
 BX:Bool
 qZ:Option Key
 res:List RV
structure AM where
 fr:jP
 cs:List jP
 h:T ag
 nx:Key
inductive OR where
 |val (v:AV) (h:T ag) (nx:Key)
 |call (f:Nat) (args:List AV)
 |yld (l:Key) (args:List AV)
 |pan (v:AV)
 |dfr (f:Nat) (args:List AV)
 |recover
 |alt (l:List (AV×T ag))
 |bad (why:Nat)
abbrev hU:=List (BinOp×SI×SI×Bool)
def hU.ask(op:BinOp)(a b:SI):hU→Option Bool
 | []=>none
 |(o,x,y,r) ::l=>bif ID o op&&SI.beq x a&&SI.beq y b then some r else hU.ask op a b l
noncomputable def PX.at(x:PX)(tm:T AV):Option AV:=
 match x with
 |.t k=>aa k tm
 |.v a=>some a
noncomputable def atAll(tm:T AV):List PX→Option (List AV)
 | []=>some []
 |x ::l=>match x.at tm with
  |none=>none
  |some a=>match atAll tm l with
   |none=>none
   |some r=>some (a ::r)
def Q2(k:IntKind)(n:Int):Nat:=Int.toNat (Int.emod n (full k))
def arith(op:BinOp)(k:IntKind)(a b:SI):Option SI:=
 match a,b with
 |.lit x,.lit y=>match op with
  |.add=>some (.lit (cu k (Int.add x y)))
  |.sub=>some (.lit (cu k (Int.sub x y)))
  |.mul=>some (.lit (cu k (Int.mul x y)))
  |.quo=>bif eqI y 0 then none else some (.lit (cu k (Int.tdiv x y)))
  |.rem=>bif eqI y 0 then none else some (.lit (Int.tmod x y))
  |.xor=>match k,x,y with
   |.u64,.ofNat m,.ofNat n=>some (.lit (Int.emod (.ofNat (Nat.xor m n)) 18446744073709551616))
   |k,x,y=>some (.lit (cu k (.ofNat (Nat.xor (Q2 k x) (Q2 k y)))))
  |.or=>match k,x,y with
   |.u64,.ofNat m,.ofNat n=>some (.lit (Int.emod (.ofNat (Nat.lor m n)) 18446744073709551616))
   |k,x,y=>some (.lit (cu k (.ofNat (Nat.lor (Q2 k x) (Q2 k y)))))
  |.and=>match k,x,y with
   |.u64,.ofNat m,.ofNat n=>some (.lit (Int.emod (.ofNat (Nat.land m n)) 18446744073709551616))
   |k,x,y=>some (.lit (cu k (.ofNat (Nat.land (Q2 k x) (Q2 k y)))))
  |_=>none
 |_,_=>match op with
  |.add|.sub|.mul=>some (.bin op k a b)
  |_=>none
def DJ(orc:hU)(op:BinOp)(a b:SI):Option Bool:=
 match a,b with
 |.lit x,.lit y=>match op with
  |.eql=>some (eqI x y)
  |.neq=>some (!(eqI x y))
  |.lss=>some (D9 x y)
  |.leq=>some (!(D9 y x))
  |.gtr=>some (D9 y x)
  |.geq=>some (!(D9 x y))
  |_=>none
 |_,_=>bif SI.beq a b then(match op with
  |.eql|.leq|.geq=>some true
  |.neq|.lss|.gtr=>some false
  |_=>none) else orc.ask op a b
def isCmp:BinOp→Bool
 |.eql|.neq|.lss|.leq|.gtr|.geq=>true
 |_=>false
def ltS:Nat→Nat→Nat→Nat→Bool
 |0,_,m,_=>bif Nat.beq m 0 then false else true
 |n+1,c,m,d=>
  bif Nat.beq m 0 then false
  else bif Nat.blt (c%256) (d%256) then true
  else bif Nat.beq (c%256) (d%256) then ltS n (c / 256) (m-1) (d / 256) else false
def opS(op:BinOp)(n c m d:Nat):Option AV:=
 match op with
 |.add=>bif Nat.ble (n+m) 4611686018427387904 then some (.str (n+m) (c+Nat.shiftLeft d (8*n))) else none
 |.eql=>some (.bool (Nat.beq n m&&Nat.beq c d))
 |.neq=>some (.bool (!(Nat.beq n m&&Nat.beq c d)))
 |.lss=>some (.bool (ltS n c m d))
 |.leq=>some (.bool (!(ltS m d n c)))
 |.gtr=>some (.bool (ltS m d n c))
 |.geq=>some (.bool (!(ltS n c m d)))
 |_=>none
def aH1(c lo hi:Nat):AV:=.str (hi-lo) (Nat.mod (Nat.shiftRight c (8*lo)) (Nat.pow 2 (8*(hi-lo))))
mutual
noncomputable def hZ(orc:hU):tK→AV→AV→Option Bool
 |.bool,.bool a,.bool b=>some (a==b)
 |.int,.int k a,.int k' b=>bif beqKind k k' then DJ orc .eql a b else none
 |.str,.str n c,.str m d=>some (Nat.beq n m&&Nat.beq c d)
 |.ptr,.nilp,.nilp=>some true
 |.ptr,.nilp,.ptr _ _=>some false
 |.ptr,.ptr _ _,.nilp=>some false
 |.ptr,.ptr b o,.ptr b' o'=>bif Key.beq b b' then some (Nat.beq o o') else none
 |.ptr,.nilp,.cref _=>some false
 |.ptr,.cref _,.nilp=>some false
 |.iface,.nili,.nili=>some true
 |.iface,.nili,.iface _ _=>some false
 |.iface,.iface _ _,.nili=>some false
 |.slice,.nils,.nils=>some true
 |.slice,.nils,.slice _ _ _ _=>some false
 |.slice,.slice _ _ _ _,.nils=>some false
 |.slice,.nils,.sl _ _ _ _=>some false
 |.slice,.sl _ _ _ _,.nils=>some false
 |.func,.nilf,.nilf=>some true
 |.func,.nilf,.fn _ _ _=>some false
 |.func,.fn _ _ _,.nilf=>some false
 |.map,.nilm,.nilm=>some true
 |.map,.nilm,.map _=>some false
 |.map,.map _,.nilm=>some false
 |.parts l,.agg a,.agg b=>cH orc l a b
 |_,_,_=>none
noncomputable def cH(orc:hU):List (Nat×tK)→List AV→List AV→Option Bool
 | [],_,_=>some true
 |(off,p) ::l,a,b=>
  match nth off a,nth off b with
  |some x,some y=>match hZ orc p x y with
   |some true=>cH orc l a b
   |some false=>some false
   |none=>none
  |_,_=>none
end
noncomputable def GF(tm:T AV):List (Nat×Nat×PX)→List AV→Option (List AV)
 | [],cs=>some cs
 |(off,size,x) ::r,cs=>
  match x.at tm with
  |none=>none
  |some v=>bif Nat.beq (lenL v.cells) size then U6 v.cells off cs none (fun cs=>GF tm r cs) else none
noncomputable def ux(agg:Bool)(off n:Nat)(l:List AV):Option AV:=
 bif agg then vY n (td off l) none (fun r=>some (.agg r)) else nth off l
def keyEq(orc:hU)(sk:Bool):AV→AV→Option Bool
 |.int k a,.int k' b=>bif beqKind k k' && !sk then DJ orc .eql a b else none
 |.str n c,.str m d=>bif sk then some (Nat.beq n m&&Nat.beq c d) else none
 |_,_=>none
def findK(orc:hU)(sk:Bool)(k:AV):List (AV×AV)→Option (Option AV)
 | []=>some none
 |(a,v) ::l=>match keyEq orc sk k a with
  |some true=>some (some v)
  |some false=>findK orc sk k l
  |none=>none
def setK(orc:hU)(sk:Bool)(k x:AV):List (AV×AV)→Option (List (AV×AV))
 | []=>some [(k,x)]
 |(a,v) ::l=>match keyEq orc sk k a with
  |some true=>some ((k,x) ::l)
  |some false=>match setK orc sk k x l with
   |some r=>some ((a,v) ::r)
   |none=>none
  |none=>none
def ig:AV→Bool
 |.bool _|.int _ _|.str _ _=>true
 |_=>false
def Cc:List AV→Bool
 | []=>true
 |a ::l=>ig a&&Cc l
noncomputable def Q3(a:List AV):List (Nat×tK)→Bool
 | []=>true
 |(o,_) ::l=>match nth o a with
  |some _=>Q3 a l
  |none=>false
noncomputable def Q4:tK→AV→Bool
 |.parts l,.agg a=>Cc a&&Q3 a l
 |_,_=>false
noncomputable def av7(orc:hU)(p:tK)(k a:AV):Option Bool:=match hZ orc p k a with
 |some true=>bif AV.beq k a then some true else none
 |r=>r
noncomputable def U7(orc:hU)(p:tK)(k x:AV):List (AV×AV)→Option (List (AV×AV))
 | []=>some [(k,x)]
 |(a,v) ::l=>match av7 orc p k a with
  |some true=>some ((k,x) ::l)
  |some false=>match U7 orc p k x l with
   |some r=>some ((a,v) ::r)
   |none=>none
  |none=>none
def akf:Nat→List (AV×AV)→List (Nat×AV×AV)
 |_,[]=>[]
 |i,(a,v) ::l=>(i,a,v) ::akf (i+1) l
noncomputable def U8(orc:hU)(p:tK)(k:AV):List (Nat×AV×AV)→Option (List (Nat×AV×AV))
 | []=>some []
 |(s,a,v) ::l=>match av7 orc p k a with
  |some true=>some l
  |some false=>match U8 orc p k l with
   |some r=>some ((s,a,v) ::r)
   |none=>none
  |none=>none
noncomputable def stamped(b:Key)(h:T ag):Option (List (Nat×AV×AV)×Nat):=match aa b h with
 |some (.map l)=>some (akf 0 l,lenL l)
 |some (.mapD l c)=>some (l,c)
 |_=>none
def avQ(i:Nat):List Nat→Bool
 | []=>false
 |j ::l=>bif Nat.beq i j then true else avQ i l
def Gw(seen:List Nat):List (Nat×AV×AV)→List (Nat×AV×AV)
 | []=>[]
 |(s,a,v) ::l=>bif avQ s seen then Gw seen l else(s,a,v) ::Gw seen l
def ani(s:Nat):List (Nat×AV×AV)→Option AV
 | []=>none
 |(t,k,v) ::l=>bif Nat.beq t s then some (.tuple [k,v]) else ani s l
def U9:List Nat→Option Nat
 | []=>none
 |s ::l=>match l with
  | []=>some s
  |_ ::_=>U9 l
def Iv(n:Nat):List (Nat×AV×AV)→Bool
 | []=>true
 |(s,_,_) ::l=>Nat.blt s n&&Iv n l
noncomputable def UL(b m:Key)(n:Nat)(seen:List Nat)(h:T ag):List (Nat×AV×AV)→List (AV×T ag)
 | []=>[]
 |(s,k,v) ::l=>sY b (some (.iter m n (seen ++ [s]))) h fun h'=>(.tuple [.bool true,k,v],h') ::UL b m n seen h l
noncomputable def newB(v:Key→AV)(b:ag)(h:T ag)(nx:Key):OR:=
 sY nx (some b) h fun h=>.val (v nx) h nx.succ
def nD:AV→Option Nat
 |.int _ (.lit (.ofNat n))=>some n
 |_=>none
noncomputable def kP(tm:T AV)(av8:Nat):Option PX→Option Nat
 |none=>some av8
 |some x=>match x.at tm with
  |none=>none
  |some v=>nD v
def bytesOf:Nat→Nat→List AV
 |0,_=>[]
 |n+1,c=>.int .u8 (.lit (.ofNat (c%256))) ::bytesOf n (c / 256)
def ofBytes:List AV→Option (Nat×Nat)
 | []=>some (0,0)
 |.int .u8 (.lit (.ofNat b)) ::l=>match ofBytes l with
  |some (n,c)=>bif Nat.blt b 256 then some (n+1,b+256*c) else none
  |none=>none
 |_=>none
noncomputable def allocOp(op:F9)(tm:T AV):Option ((Key→AV)×ag):=
 match op with
 |.new zs=>some (fun b=>.ptr b 0,.cells zs .fix)
 |.box x=>match x.at tm with
  |some v=>some (fun b=>.ptr b 0,.cells v.cells .fix)
  |none=>none
 |.bslice sz len zs parts=>match GF tm parts (av5 len zs []) with
  |some cs=>some (fun b=>.slice b 0 len sz,.cells cs .fix)
  |none=>none
 |.mkmap=>some (fun b=>.map b,.map [])
 |.mkslice sz zs l c=>match l.at tm,c.at tm with
  |some l,some c=>match nD l,nD c with
   |some l,some c=>bif Nat.ble l c&&Nat.ble c 1048576 then some (fun b=>.slice b 0 l sz,.cells (av5 c zs []) .fix) else none
   |_,_=>none
  |_,_=>none
 |_=>none
noncomputable def loadB(h:T ag)(b:Key)(agg:Bool)(off n:Nat):Option AV:=
 match aa b h with
 |some (.cells l _)=>ux agg off n l
 |_=>none
def BB(k:IntKind)(n:Nat):Bool:=match k with
 |.i64|.u64=>Nat.ble n 64
 |.i32|.u32=>Nat.ble n 32
 |.i16|.u16=>Nat.ble n 16
 |.i8|.u8=>Nat.ble n 8
noncomputable def lightOp(orc:hU)(op:F9)(tm:T AV)(h:T ag):Option AV:=
 match op with
 |.mov x=>x.at tm
 |.pick c a b=>match c.at tm with
  |some (.bool true)=>a.at tm
  |some (.bool false)=>b.at tm
  |_=>none
 |.build zs parts=>match GF tm parts zs with
  |some cs=>some (.agg cs)
  |none=>none
 |.load agg n a=>match a.at tm with
  |some (.ptr b off)=>loadB h b agg off n
  |some (.cref l)=>ux agg 0 n l
  |_=>none
 |.nilc x=>match x.at tm with
  |some (.ptr b o)=>some (.ptr b o)
  |some (.cref l)=>some (.cref l)
  |some (.fn f a c)=>some (.fn f a c)
  |some (.yld l)=>some (.yld l)
  |some (.iface t v)=>some (.iface t v)
  |_=>none
 |.bin op x y=>match x.at tm,y.at tm with
  |some (.int k a),some (.int k' b)=>
   match op with
   |.shl=>match a,b with
    |.lit a,.lit (.ofNat n)=>bif BB k n then some (.int k (.lit (cu k (Int.mul a (.ofNat (Nat.pow 2 n)))))) else none
    |_,_=>none
   |.shr=>match a,b with
    |.lit (.ofNat a),.lit (.ofNat n)=>bif BB k n then some (.int k (.lit (.ofNat (Nat.div a (Nat.pow 2 n))))) else none
    |.lit (.negSucc a),.lit (.ofNat n)=>bif BB k n then some (.int k (.lit (.negSucc (Nat.div a (Nat.pow 2 n))))) else none
    |_,_=>none
   |op=>bif beqKind k k' then
     (bif isCmp op then(match DJ orc op a b with|some r=>some (.bool r)|none=>none)
     else(match arith op k a b with|some r=>some (.int k r)|none=>none))
    else none
  |some (.str n c),some (.str m d)=>opS op n c m d
  |_,_=>none
 |.eq neg p x y=>match x.at tm,y.at tm with
  |some a,some b=>match hZ orc p a b with
   |some r=>some (.bool (bif neg then !r else r))
   |none=>none
  |_,_=>none
 |.un op x=>match op,x.at tm with
  |.not,some (.bool b)=>some (.bool (!b))
  |.neg,some (.int k a)=>match arith .sub k (.lit 0) a with
   |some r=>some (.int k r)
   |none=>none
  |_,_=>none
 |.cint k x=>match x.at tm with
  |some (.int _ (.lit n))=>some (.int k (.lit (cu k n)))
  |_=>none
 |.cstr x=>match x.at tm with
  |some (.str n c)=>some (.str n c)
  |_=>none
 |.cbytes x=>match x.at tm with
  |some .nils=>some (.str 0 0)
  |some (.slice b off len sz)=>bif Nat.beq sz 1 then(match aa b h with
   |some (.cells l _)=>vY len (td off l) none (fun r=>match ofBytes r with
    |some (n,c)=>some (.str n c)
    |none=>none)
   |_=>none) else none
  |some (.sl l _ sz _)=>bif Nat.beq sz 1 then(match ofBytes l with
   |some (n,c)=>some (.str n c)
   |none=>none) else none
  |_=>none
 |.mkif t x=>match x.at tm with
  |some v=>some (.iface t v)
  |none=>none
 |.mkfn f first cap=>match atAll tm first,atAll tm cap with
  |some a,some c=>some (.fn f a c)
  |_,_=>none
 |.sliceS x lo hi=>match x.at tm with
  |some (.str n c)=>match kP tm 0 lo,kP tm n hi with
   |some l,some r=>bif Nat.ble l r&&Nat.ble r n then some (aH1 c l r) else none
   |_,_=>none
  |_=>none
 |.sliceL sz x lo hi=>match x.at tm with
  |some (.slice b off len Gc)=>match kP tm 0 lo,kP tm len hi with
   |some l,some r=>bif Nat.ble l r&&Nat.ble r len&&Nat.beq sz Gc then some (.slice b (off+l*sz) (r-l) sz) else none
   |_,_=>none
  |some .nils=>match kP tm 0 lo,kP tm 0 hi with
   |some l,some r=>bif Nat.beq l 0&&Nat.beq r 0 then some .nils else none
   |_,_=>none
  |some (.sl cs len Gc fl)=>match kP tm 0 lo,kP tm len hi with
   |some l,some r=>bif Nat.ble l r&&Nat.ble r len&&Nat.beq sz Gc then
     vY ((r-l)*sz) (td (l*sz) cs) none (fun cs=>some (.sl cs (r-l) sz (bif Nat.beq r len then fl else .any))) else none
   |_,_=>none
  |_=>none
 |.fieldA off x=>match x.at tm with
  |some (.ptr b o)=>some (.ptr b (o+off))
  |some (.cref l)=>some (.cref (td off l))
  |_=>none
 |.field agg off n x=>match x.at tm with
  |some (.agg l)=>ux agg off n l
  |_=>none
 |.indexA len sz x i=>match x.at tm,i.at tm with
  |some (.ptr b o),some v=>match nD v with
   |some j=>bif Nat.blt j len then some (.ptr b (o+j*sz)) else none
   |none=>none
  |some (.cref l),some v=>match nD v with
   |some j=>bif Nat.blt j len then some (.cref (td (j*sz) l)) else none
   |none=>none
  |_,_=>none
 |.indexL sz x i=>match x.at tm,i.at tm with
  |some (.slice b off len Gc),some v=>match nD v with
   |some j=>bif Nat.blt j len&&Nat.beq sz Gc then some (.ptr b (off+j*sz)) else none
   |none=>none
  |some (.sl l len Gc _),some v=>match nD v with
   |some j=>bif Nat.blt j len&&Nat.beq sz Gc then vY sz (td (j*sz) l) none (fun r=>some (.cref r)) else none
   |none=>none
  |_,_=>none
 |.indexS x i=>match x.at tm,i.at tm with
  |some (.str n c),some v=>match nD v with
   |some j=>bif Nat.blt j n then some (.int .u8 (.lit (.ofNat (Nat.mod (Nat.shiftRight c (8*j)) 256)))) else none
   |none=>none
  |_,_=>none
 |.indexV len agg sz x i=>match x.at tm,i.at tm with
  |some (.agg l),some v=>match nD v with
   |some j=>bif Nat.blt j len then ux agg (j*sz) sz l else none
   |none=>none
  |_,_=>none
 |.lookup sk zero ok m k=>match m.at tm,k.at tm with
  |some (.map b),some k=>match aa b h with
   |some (.map l)=>match findK orc sk k l with
    |some (some v)=>some (bif ok then .tuple [v,.bool true] else v)
    |some none=>some (bif ok then .tuple [zero,.bool false] else zero)
    |none=>none
   |_=>none
  |_,_=>none
 |.entryM x=>match x.at tm with
  |some (.ptr b 0)=>match aa b h with
   |some (.iter m n seen)=>match stamped m h,U9 seen with
    |some (l,c),some s=>bif Nat.beq c n then ani s l else none
    |_,_=>none
   |_=>none
  |_=>none
 |.assert t zero ok x=>match x.at tm with
  |some (.iface t' v)=>bif ok then(bif Nat.beq t t' then some (.tuple [v,.bool true]) else some (.tuple [zero,.bool false]))
    else(bif Nat.beq t t' then some v else none)
  |_=>none
 |.extract x i=>match x.at tm with
  |some (.tuple l)=>nth i l
  |_=>none
 |.lenS x=>match x.at tm with
  |some (.str n _)=>some (.int .i64 (.lit (.ofNat n)))
  |_=>none
 |.lenL x=>match x.at tm with
  |some (.slice _ _ n _)=>some (.int .i64 (.lit (.ofNat n)))
  |some (.sl _ n _ _)=>some (.int .i64 (.lit (.ofNat n)))
  |some .nils=>some (.int .i64 (.lit (.ofNat 0)))
  |_=>none
 |.lenM x=>match x.at tm with
  |some (.map b)=>match aa b h with
   |some (.map l)=>some (.int .i64 (.lit (.ofNat (lenL l))))
   |some (.mapD l _)=>some (.int .i64 (.lit (.ofNat (lenL l))))
   |_=>none
  |_=>none
 |.mx isMax a b=>match a.at tm,b.at tm with
  |some (.int k x),some (.int k' y)=>bif beqKind k k' then(match DJ orc (bif isMax then .gtr else .lss) y x with
   |some true=>some (.int k y)
   |some false=>some (.int k x)
   |none=>none) else none
  |_,_=>none
 |_=>none
noncomputable def It{R:Type}(g:AV→T ag→(AV→T ag→R)→R)(l:List AV):T ag→(List AV→T ag→R)→R:=
 List.rec (fun h c=>c [] h) (fun v _ ih h c=>g v h fun v h=>ih h fun r h=>c (v ::r) h) l
noncomputable def GG{R:Type}(ih:AV→T ag→(AV→T ag→R)→R)(v:AV)(h:T ag)(c:AV→T ag→R):R:=
 match v with
 |.slice b off len sz=>match aa b h with
  |some (.cells l .fix)=>vY (len*sz) (td off l) (c v h) fun cs=>sY b (some (.cells l .ro)) h fun h=>It ih cs h fun cs h=>c (.sl cs len sz .any) h
  |some (.cells l .ro)=>vY (len*sz) (td off l) (c v h) fun cs=>It ih cs h fun cs h=>c (.sl cs len sz .any) h
  |some (.cells l .part)=>vY (len*sz) (td off l) (c v h) fun cs=>sY b none h fun h=>It ih cs h fun cs h=>c (.sl cs len sz .any) h
  |_=>c v h
 |.sl l len sz _=>c (.sl l len sz .any) h
 |.agg cs=>It ih cs h fun cs h=>c (.agg cs) h
 |v=>c v h
noncomputable def frz{R:Type}(n:Nat):AV→T ag→(AV→T ag→R)→R:=
 Nat.rec (fun v h c=>c v h) (fun _ ih v h c=>GG ih v h c) n
def Cd(sz:Nat):Bool:=Nat.beq sz 10
noncomputable def appendTo(sz:Nat)(s:AV)(new:List AV)(m:Nat)(h:T ag)(nx:Key):OR:=
 match s with
 |.nils=>bif Nat.beq m 0 then .val .nils h nx else bif Nat.ble m 1048576 then sY nx (some (.cells new .part)) h fun h=>.val (.slice nx 0 m sz) h nx.succ else .bad 25
 |.sl l len Gc fl=>bif Nat.beq m 0 then .val (.sl l len Gc fl) h nx else bif Nat.beq sz Gc&&Nat.ble (len+m) 1048576&&new.all AV.aN then
  (match fl with
  |.any=>.bad 11
  |.tok b=>match aa b h with
   |some .tok=>Pv l new fun r=>sY b none h fun h=>sY nx (some .tok) h fun h=>.val (.sl r (len+m) sz (.tok nx)) h nx.succ
   |_=>.bad 15) else .bad 11
 |.slice b off len Gc=>bif Nat.beq sz Gc&&Nat.ble (len+m) 1048576&&new.all AV.aN then
  (match aa b h with
  |some (.cells l .fix)=>
   bif Nat.ble (off+(len+m)*sz) (lenL l) then
    U6 new (off+len*sz) l (.bad 12) (fun l=>sY b (some (.cells l .fix)) h fun h=>.val (.slice b off (len+m) sz) h nx)
   else vY (len*sz) (td off l) (.bad 14) (fun old=>It (frz 9999) old h fun old h=>Pv old new (fun r=>sY nx (some (.cells r .part)) h fun h=>.val (.slice nx 0 (len+m) sz) h nx.succ))
  |some (.cells l .ro)=>
   bif Nat.ble (off+(len+m)*sz) (lenL l) then .bad 13
   else vY (len*sz) (td off l) (.bad 14) (fun old=>It (frz 9999) old h fun old h=>Pv old new (fun r=>sY nx (some (.cells r .part)) h fun h=>.val (.slice nx 0 (len+m) sz) h nx.succ))
  |some (.cells l .part)=>
   bif Nat.beq m 0 then .val (.slice b off len Gc) h nx
   else bif (Nat.beq off 0 || !Cd sz)&&Nat.beq (off+len*sz) (lenL l) then
    (bif Cd sz then Pv l new fun r=>sY b none h fun h=>sY nx (some (.cells r .part)) h fun h=>.val (.slice nx 0 (len+m) sz) h nx.succ
    else Pv (td off l) new fun r=>sY b none h fun h=>sY nx (some .tok) h fun h=>.val (.sl r (len+m) sz (.tok nx)) h nx.succ)
   else .bad 26
  |_=>.bad 15) else .bad 11
 |_=>.bad 16
def okV(h:T ag)(nx:Key):Option AV→OR
 |some v=>.val v h nx
 |none=>.bad 1
noncomputable def aOp(orc:hU)(op:F9)(tm:T AV)(h:T ag)(nx:Key):OR:=
 match op with
 |.new _|.box _|.bslice _ _ _ _|.mkmap|.mkslice _ _ _ _=>match allocOp op tm with
  |some (v,b)=>newB v b h nx
  |none=>.bad 2
 |.store n a v=>match a.at tm,v.at tm with
  |some (.ptr b off),some v=>bif Nat.beq (lenL v.cells) n&&v.cells.all AV.aN then
    (match aa b h with
    |some (.cells _ .ro)=>.bad 4
    |some (.cells l g)=>U6 v.cells off l (.bad 4) (fun l=>sY b (some (.cells l g)) h fun h=>.val (.tuple []) h nx)
    |_=>.bad 5)
   else .bad 6
  |_,_=>.bad 3
 |.mapupd sk m k v=>match m.at tm,k.at tm,v.at tm with
  |some (.map b),some k,some v=>match aa b h with
   |some (.map l)=>match setK orc sk k v l with
    |some l=>sY b (some (.map l)) h fun h=>.val (.tuple []) h nx
    |none=>.bad 7
   |_=>.bad 8
  |_,_,_=>.bad 9
 |.mapupdP p m k v=>match m.at tm,k.at tm,v.at tm with
  |some (.map b),some k,some v=>match aa b h with
   |some (.map l)=>bif Q4 p k then(match U7 orc p k v l with
    |some l=>sY b (some (.map l)) h fun h=>.val (.tuple []) h nx
    |none=>.bad 57) else .bad 56
   |_=>.bad 58
  |_,_,_=>.bad 59
 |.delP p m k=>match m.at tm,k.at tm with
  |some (.map b),some k=>match stamped b h with
   |some (l,c)=>bif Q4 p k then(match U8 orc p k l with
    |some l=>sY b (some (.mapD l c)) h fun h=>.val (.tuple []) h nx
    |none=>.bad 60) else .bad 56
   |none=>.bad 61
  |_,_=>.bad 62
 |.rangeM x=>match x.at tm with
  |some (.map m)=>match stamped m h with
   |some (_,n)=>newB (fun b=>.ptr b 0) (.iter m n []) h nx
   |none=>.bad 63
  |_=>.bad 64
 |.nextM x=>match x.at tm with
  |some (.ptr b 0)=>match aa b h with
   |some (.iter m n seen)=>match stamped m h with
    |some (l,c)=>bif Nat.beq c n&&Iv n l then(match Gw seen l with
     | []=>.alt [(.tuple [.bool false],h)]
     |x ::r=>.alt (UL b m n seen h (x ::r))) else .bad 65
    |none=>.bad 66
   |_=>.bad 67
  |_=>.bad 68
 |.strb x=>match x.at tm with
  |some (.str n c)=>.val (.sl (bytesOf n c) n 1 .any) h nx
  |_=>.bad 69
 |.append sz s x=>match s.at tm,x.at tm with
  |some s,some .nils=>appendTo sz s [] 0 h nx
  |some s,some (.slice b off len Gc)=>bif Nat.beq sz Gc then(match aa b h with
   |some (.cells l _)=>vY (len*sz) (td off l) (.bad 17) (fun new=>It (frz 9999) new h fun new h=>appendTo sz s new len h nx)
   |_=>.bad 18) else .bad 19
  |some s,some (.sl l len Gc _)=>bif Nat.beq sz Gc then appendTo sz s l len h nx else .bad 19
  |some s,some (.str n c)=>bif Nat.beq sz 1 then appendTo sz s (bytesOf n c) n h nx else .bad 20
  |_,_=>.bad 10
 |.callF f args=>match atAll tm args with
  |some l=>.call f l
  |none=>.bad 21
 |.callV v args=>match v.at tm,atAll tm args with
  |some (.fn f first cap),some l=>.call f (first++l++cap)
  |some (.yld k),some l=>.yld k l
  |_,_=>.bad 22
 |.dfr v args=>match v.at tm,atAll tm args with
  |some (.fn f first cap),some l=>.dfr f (first++l++cap)
  |_,_=>.bad 23
 |.panic x=>match x.at tm with
  |some (.iface t v)=>.pan (.iface t v)
  |_=>.bad 24
 |.recover=>.recover
 |op=>okV h nx (lightOp orc op tm h)
noncomputable def cx(g:Option (Key×Bool))(tm:T AV):Option Bool:=
 match g with
 |none=>some true
 |some (k,want)=>match aa k tm with
  |some (.bool b)=>some (b==want)
  |some (.tuple [])=>some false
  |_=>none
noncomputable def uB{R:Type}(d:Option Key)(v:Option AV)(tm:T AV)(c:T AV→R):R:=
 match d with
 |none=>c tm
 |some k=>sY k v tm c
inductive SR where
 |next (m:AM)
 |alt (l:List AM)
 |done (f:Nat) (v:AV) (h:T ag) (nx:Key)
 |pan (v:AV) (h:T ag) (nx:Key)
 |bad (why:Nat) (m:AM)
structure cD where
 orc:hU
 fns:T fK
 /- calls aMQ outcome is known by other aMR -/
 sum:Nat→List AV→T ag→Key→Option (AV×T ag×Key)
 /- aCH aH2 are aH3 aDY arguments, and hand back aDY results, as aQK are -/
 raw:Nat→Bool
 lS:Nat→Bool
inductive RR where
 |fin (tm:T AV) (h:T ag) (nx:Key)
 |ev (r:OR) (rest:List J) (tm:T AV) (h:T ag) (nx:Key)
noncomputable def iO(orc:hU)(l:List J):T AV→T ag→Key→RR:=
 List.rec (fun tm h nx=>.fin tm h nx)
  (fun o rest ih tm h nx=>match cx o.guard tm with
   |none=>.ev (.bad 30) (o ::rest) tm h nx
   |some false=>uB o.dst (some (.tuple [])) tm fun tm=>ih tm h nx
   |some true=>match aOp orc o.op tm h nx with
    |.val v h nx=>uB o.dst (some v) tm fun tm=>ih tm h nx
    |r=>.ev r (o ::rest) tm h nx) l
def memN(i:Nat):List Nat→Bool
 | []=>false
 |j ::l=>bif Nat.beq i j then true else memN i l
noncomputable def BK{R:Type}(l:List Nat)(p:List (Nat×Key×ag)):T ag→(List (Nat×Key×ag)→T ag→R)→R:=
 List.rec (fun h c=>c [] h)
  (fun x _ ih h c=>bif memN x.1 l then sY x.2.1 (some x.2.2) h fun h=>ih h c else ih h fun p h=>c (x ::p) h) p
noncomputable def Ce{R:Type}(p:List (Nat×Key×ag)):T ag→(T ag→R)→R:=
 List.rec (fun h c=>c h) (fun x _ ih h c=>sY x.2.1 (some x.2.2) h fun h=>ih h c) p
def BC(i:Nat):List (Nat×List Nat)→List Nat
 | []=>[]
 |(j,l) ::r=>bif Nat.beq i j then l else BC i r
noncomputable def uC(l:List Nat)(ak:List (Nat×Key×ag))(h:T ag):T ag:=match l with
 | []=>h
 |l=>BK l ak h fun _ h=>h
noncomputable def recheck(orc:hU)(iK:List (Nat×List Nat))(ak:List (Nat×Key×ag))(tm:T AV)(h:T ag):List (Nat×J)→Bool
 | []=>true
 |(i,o) ::l=>match cx o.guard tm with
  |some false=>match o.dst with
   |none=>false
   |some d=>match aa d tm with
    |some (.tuple [])=>recheck orc iK ak tm h l
    |_=>false
  |some true=>match o.dst with
   |none=>false
   |some d=>match aa d tm,lightOp orc o.op tm (uC (BC i iK) ak h) with
    |some v,some u=>bif AV.beq v u then recheck orc iK ak tm h l else false
    |_,_=>false
  |none=>false
inductive RS where
 |fin (tm:T AV) (h:T ag) (nx:Key)
 |ev (r:OR) (rest:List aM) (ak:List (Nat×Key×ag)) (tm:T AV) (h:T ag) (nx:Key)
noncomputable def gA(orc:hU)(iK:List (Nat×List Nat))(l:List aM):List (Nat×Key×ag)→T AV→T ag→Key→RS:=
 List.rec (fun ak tm h nx=>Ce ak h fun h=>.fin tm h nx)
  (fun x rest ih ak tm h nx=>match x with
  |.L i o=>match cx o.guard tm with
   |none=>.ev (.bad 31) (x ::rest) ak tm h nx
   |some false=>uB o.dst (some (.tuple [])) tm fun tm=>ih ak tm h nx
   |some true=>match lightOp orc o.op tm (uC (BC i iK) ak h) with
    |some v=>uB o.dst (some v) tm fun tm=>ih ak tm h nx
    |none=>.ev (.bad 32) (x ::rest) ak tm h nx
  |.A i o=>match cx o.guard tm with
   |none=>.ev (.bad 33) (x ::rest) ak tm h nx
   |some false=>uB o.dst (some (.tuple [])) tm fun tm=>ih ak tm h nx
   |some true=>match allocOp o.op tm with
    |some (v,b)=>uB o.dst (some (v nx)) tm fun tm=>ih ((i,nx,b) ::ak) tm h nx.succ
    |none=>.ev (.bad 34) (x ::rest) ak tm h nx
  |.H _ o l=>BK l ak h fun ak h=>match cx o.guard tm with
   |none=>.ev (.bad 35) (x ::rest) ak tm h nx
   |some false=>uB o.dst (some (.tuple [])) tm fun tm=>ih ak tm h nx
   |some true=>match aOp orc o.op tm h nx with
    |.val v h nx=>uB o.dst (some v) tm fun tm=>ih ak tm h nx
    |r=>.ev r (x ::rest) ak tm h nx
  |.R os=>bif recheck orc iK ak tm h os then ih ak tm h nx else .ev (.bad 36) (x ::rest) ak tm h nx) l
noncomputable def Fe{R:Type}(l:List Key):T AV→(T AV→R)→R:=
 List.rec (fun tm c=>c tm) (fun k _ ih tm c=>sY k none tm fun tm=>ih tm c) l
noncomputable def Ss{R:Type}(l:List AV):Key→T AV→(T AV→R)→R:=
 List.rec (fun _ tm c=>c tm) (fun v _ ih k tm c=>sY k (some v) tm fun tm=>ih k.succ tm c) l
noncomputable def Su{R:Type}:List Key→List AV→T AV→R→(T AV→R)→R
 | [],[],tm,_,c=>c tm
 |k ::l,v ::m,tm,bad,c=>sY k (some v) tm fun tm=>Su l m tm bad c
 |_,_,_,bad,_=>bad
def kQ(id:Nat):List cJ→Option (List cJ)
 | []=>none
 |.inBlock id' ::k=>bif Nat.beq id' id then some k else kQ id k
 |_ ::k=>kQ id k
noncomputable def bD(v:AV)(fr:jP):Option jP:=
 match fr.todo with
 |.ops (o ::rest) ::k=>uB o.dst (some v) fr.tm fun tm=>some {fr with tm,todo:=.ops rest ::k}
 |.staged (.H _ o _ ::rest) ic ak ::k=>uB o.dst (some v) fr.tm fun tm=>some {fr with tm,todo:=.staged rest ic ak ::k}
 |.inRF l ::k=>some {fr with todo:=.endRF l ::k}
 |_=>none
noncomputable def resultsA(h:T ag)(tm:T AV):List RV→Option (List AV)
 | []=>some []
 |.tmp k ::l=>match aa k tm,resultsA h tm l with
  |some v,some r=>some (v ::r)
  |_,_=>none
 |.cell k agg n ::l=>match aa k tm,resultsA h tm l with
  |some (.ptr b off),some r=>match loadB h b agg off n with
   |some v=>some (v ::r)
   |none=>none
  |_,_=>none
def lT:List AV→AV
 | [v]=>v
 |l=>.tuple l
noncomputable def BY(C:cD)(f:Nat)(args:List AV)(BX:Bool)(bad:SR)(c:jP→SR):SR:=
 match (bif Nat.beq (Key.eH 12 f).toNat f then aa (Key.eH 12 f) C.fns else none) with
 |some p=>Ss args .z .nil fun tm=>c {fn:=f,tm,todo:=[.code p.body],dfs:=[],mode:=.run,BX,qZ:=none,res:=p.res}
 |none=>bad
noncomputable def ar1{R:Type}(raw:Bool)(l:List AV)(h:T ag)(c:List AV→T ag→R):R:=bif raw then c l h else It (frz 9999) l h c
noncomputable def ajZ(fr:jP)(cs:List jP)(nx:Key):List (AV×T ag)→List AM
 | []=>[]
 |(v,h) ::l=>(match bD v fr with
  |some fr=>⟨fr,cs,h,nx⟩
  |none=>⟨fr,cs,h,nx⟩) ::ajZ fr cs nx l
noncomputable def gh(C:cD)(r:OR)(fr:jP)(panicked:jP)(cs:List jP)(h:T ag)(nx:Key):SR:=
 match r with
 |.call f args=>ar1 (C.raw f) args h fun args h=>match C.sum f args h nx with
  |some (v,h,nx)=>match bD v fr with
   |some fr=>.next ⟨fr,cs,h,nx⟩
   |none=>.bad 39 ⟨fr,cs,h,nx⟩
  |none=>BY C f args false (.bad 40 ⟨fr,cs,h,nx⟩) fun eY=>.next ⟨eY,fr ::cs,h,nx⟩
 |.yld l args=>match aa l h with
  |some (.loop _ _ fn tm res params assign body _)=>
   Su params args tm (.bad 41 ⟨fr,cs,h,nx⟩) fun tm=>.next ⟨{fn,tm,todo:=[.code assign,.beginRound,.code body],dfs:=[],mode:=.run,BX:=false,qZ:=some l,res},fr ::cs,h,nx⟩
  |_=>.bad 42 ⟨fr,cs,h,nx⟩
 |.pan v=>.next ⟨{panicked with mode:=.pan v false},cs,h,nx⟩
 |.dfr f args=>match fr.qZ with
  |none=>match bD (.tuple []) fr with
   |some fr=>.next ⟨{fr with dfs:=.fn f args ::fr.dfs},cs,h,nx⟩
   |none=>.bad 43 ⟨fr,cs,h,nx⟩
  |some _=>.bad 44 ⟨fr,cs,h,nx⟩
 |.recover=>match fr.qZ,fr.BX,cs with
  |none,true,c ::zk=>match c.mode with
   |.pan v false=>match bD v fr with
    |some fr=>.next ⟨fr,{c with mode:=.pan v true} ::zk,h,nx⟩
    |none=>.bad 45 ⟨fr,cs,h,nx⟩
   |.ret=>match bD .nili fr with
    |some fr=>.next ⟨fr,cs,h,nx⟩
    |none=>.bad 46 ⟨fr,cs,h,nx⟩
   |_=>.bad 47 ⟨fr,cs,h,nx⟩
  |_,_,_=>.bad 48 ⟨fr,cs,h,nx⟩
 |.alt l=>match bD .nili fr with
  |none=>.bad 56 ⟨fr,cs,h,nx⟩
  |some _=>.alt (ajZ fr cs nx l)
 |.val _ _ _=>.bad 49 ⟨fr,cs,h,nx⟩
 |.bad w=>.bad w ⟨fr,cs,h,nx⟩
noncomputable def GH(v:AV)(fr:jP)(cs:List jP)(h:T ag)(nx:Key):SR:=
 match cs with
 | []=>bif fr.BX then .bad 55 ⟨fr,[],h,nx⟩ else .done fr.fn v h nx
 |c ::cs=>bif fr.BX then
   (match c.mode with
   |.pan _ true=>.next ⟨{c with mode:=.ret},cs,h,nx⟩
   |.run=>.bad 50 ⟨c,cs,h,nx⟩
   |_=>.next ⟨c,cs,h,nx⟩)
  else match bD v c with
   |some c=>.next ⟨c,cs,h,nx⟩
   |none=>.bad 51 ⟨c,cs,h,nx⟩
noncomputable def Fl(jump:Option aA)(fr:jP)(cs:List jP)(h:T ag)(nx:Key):SR:=
 match fr.qZ with
 |none=>match jump with
  |none=>.next ⟨{fr with mode:=.ret},cs,h,nx⟩
  |some .ret=>.next ⟨{fr with mode:=.ret},cs,h,nx⟩
  |_=>.bad 52 ⟨fr,cs,h,nx⟩
 |some l=>match cs with
  | []=>.bad 54 ⟨fr,cs,h,nx⟩
  |c ::cs=>match aa l h with
   |some (.loop _ _ fn tm res params assign body dfs)=>
    sY l (some (.loop (match jump with|none=>.ready|some _=>.done) jump fn tm res params assign body dfs)) h fun h=>
     match bD (.bool (match jump with|none=>true|some _=>false)) c with
     |some c=>.next ⟨c,cs,h,nx⟩
     |none=>.bad 51 ⟨c,cs,h,nx⟩
   |_=>.bad 53 ⟨fr,c ::cs,h,nx⟩
noncomputable def bP(C:cD)(fr:jP)(cs:List jP)(h:T ag)(nx:Key):SR:=
 match fr.todo with
 | []=>Fl none fr cs h nx
 |x ::k=>match x with
  |.code c=>match c with
   |.skip=>.next ⟨{fr with todo:=k},cs,h,nx⟩
   |.ops l=>.next ⟨{fr with todo:=.ops l ::k},cs,h,nx⟩
   |.staged l d=>.next ⟨{fr with todo:=.staged l d [] ::k},cs,h,nx⟩
   |.seq a b=>.next ⟨{fr with todo:=.code a ::.code b ::k},cs,h,nx⟩
   |.cond x a b=>match x.at fr.tm with
    |some (.bool true)=>.next ⟨{fr with todo:=.code a ::k},cs,h,nx⟩
    |some (.bool false)=>.next ⟨{fr with todo:=.code b ::k},cs,h,nx⟩
    |_=>.bad 60 ⟨fr,cs,h,nx⟩
   |.block id c=>.next ⟨{fr with todo:=.code c ::.inBlock id ::k},cs,h,nx⟩
   |.loop c=>.next ⟨{fr with todo:=.code c ::.inLoop c ::k},cs,h,nx⟩
   |.exit id=>match kQ id k with
    |some k=>.next ⟨{fr with todo:=k},cs,h,nx⟩
    |none=>Fl (some (.exit id)) fr cs h nx
   |.ret=>Fl (some .ret) fr cs h nx
   |.rangeF f params assign body=>match fr.qZ,f.at fr.tm with
    |none,some (.fn g first cap)=>
     sY nx (some (.dfs false)) h fun h=>
     sY nx.succ (some (.loop .ready none fr.fn fr.tm fr.res params assign body nx)) h fun h=>
     BY C g (first ++ .yld nx.succ ::cap) false (.bad 61 ⟨fr,cs,h,nx⟩) fun eY=>
      .next ⟨eY,{fr with todo:=.inRF nx.succ ::k,dfs:=.coll nx ::fr.dfs} ::cs,h,nx.succ.succ⟩
    |_,_=>.bad 62 ⟨fr,cs,h,nx⟩
  |.inBlock _=>.next ⟨{fr with todo:=k},cs,h,nx⟩
  |.inLoop c=>.next ⟨{fr with todo:=.code c ::.inLoop c ::k},cs,h,nx⟩
  |.ops l=>match iO C.orc l fr.tm h nx with
   |.fin tm h nx=>.next ⟨{fr with tm,todo:=k},cs,h,nx⟩
   |.ev r rest tm h nx=>gh C r {fr with tm,todo:=.ops rest ::k} {fr with tm,todo:=[]} cs h nx
  |.staged l d ak=>match gA C.orc d.iK l ak fr.tm h nx with
   |.fin tm h nx=>.next ⟨{fr with tm,todo:=k},cs,h,nx⟩
   |.ev r rest ak tm h nx=>Fe d.ds tm fun tm'=>gh C r {fr with tm,todo:=.staged rest d ak ::k} {fr with tm:=tm',todo:=[]} cs h nx
  |.inRF _=>.bad 63 ⟨fr,cs,h,nx⟩
  |.endRF l=>match aa l h with
   |some (.loop st pending fn tm res params assign body dfs)=>match st with
    |.busy=>.bad 64 ⟨fr,cs,h,nx⟩
    |_=>sY l (some (.loop .exhausted pending fn tm res params assign body dfs)) h fun h=>
     .next ⟨{fr with todo:=match pending with|none=>k|some c=>.code c ::k},cs,h,nx⟩
   |_=>.bad 65 ⟨fr,cs,h,nx⟩
  |.beginRound=>match fr.qZ with
   |none=>.bad 66 ⟨fr,cs,h,nx⟩
   |some l=>match aa l h with
    |some (.loop .ready pending fn tm res params assign body dfs)=>
     sY l (some (.loop .busy pending fn tm res params assign body dfs)) h fun h=>.next ⟨{fr with todo:=k},cs,h,nx⟩
    |_=>.bad 67 ⟨fr,cs,h,nx⟩
noncomputable def vZ(C:cD)(fr:jP)(cs:List jP)(h:T ag)(nx:Key):SR:=
 match fr.dfs with
 |.coll b ::ds=>match aa b h with
  |some (.dfs false)=>sY b (some (.dfs true)) h fun h=>.next ⟨{fr with dfs:=ds},cs,h,nx⟩
  |_=>.bad 70 ⟨fr,cs,h,nx⟩
 |.fn f args ::ds=>BY C f args true (.bad 71 ⟨fr,cs,h,nx⟩) fun eY=>.next ⟨eY,{fr with dfs:=ds} ::cs,h,nx⟩
 | []=>match fr.mode with
  |.run=>.bad 72 ⟨fr,cs,h,nx⟩
  |.ret=>match resultsA h fr.tm fr.res with
   |some l=>ar1 (C.lS fr.fn) l h fun l h=>GH (lT l) fr cs h nx
   |none=>.bad 73 ⟨fr,cs,h,nx⟩
  |.pan v false=>match cs with
   | []=>.pan v h nx
   |c ::cs=>match c.mode with
    |.run=>.next ⟨{c with mode:=.pan v false,todo:=[],tm:=(match c.todo with|.staged _ d _ ::_=>Fe d.ds c.tm (fun t=>t)|_=>c.tm)},cs,h,nx⟩
    |_=>.bad 74 ⟨fr,c ::cs,h,nx⟩
  |.pan _ true=>.bad 75 ⟨fr,cs,h,nx⟩
noncomputable def gC(C:cD)(m:AM):SR:=
 match m.fr.mode with
 |.run=>bP C m.fr m.cs m.h m.nx
 |_=>vZ C m.fr m.cs m.h m.nx
noncomputable def rX(C:cD)(n:Nat):AM→SR:=
 Nat.rec (fun m=>.next m) (fun _ ih m=>match gC C m with
  |.next m=>ih m
  |r=>r) n
end Go.Sx
/-
 SX: the model's code made ready for the abstract machine of SxCore. No condition.
-/
namespace Go.Sx
def D0(nt i:Nat):Option Key:=
 bif Nat.blt i nt&&Nat.beq (Key.eH 12 i).toNat i then some (Key.eH 12 i) else none
def enc:List UInt8→Nat
 | []=>0
 |b ::l=>b.toNat+256*enc l
mutual
def jX:Nat→Value→Option AV
 |0,_=>none
 |n+1,v=>match v with
  |.bool b=>some (.bool b)
  |.int k i=>some (.int k (.lit i))
  |.string s=>some (.str s.data.toList.length (enc s.data.toList))
  |.pointer none=>some .nilp
  |.slice none 0 0=>some .nils
  |.map none=>some .nilm
  |.nilFunc=>some .nilf
  |.nilIface=>some .nili
  |.iface t v=>match jX n v with
   |some a=>some (.iface t a)
   |none=>none
  |.agg cs=>match E5 n cs.toList with
   |some l=>some (.agg l)
   |none=>none
  |.tuple cs=>match E5 n cs.toList with
   |some l=>some (.tuple l)
   |none=>none
  |_=>none
def E5:Nat→List Value→Option (List AV)
 |_,[]=>some []
 |0,_ ::_=>none
 |n+1,v ::l=>match jX n v,E5 n l with
  |some a,some r=>some (a ::r)
  |_,_=>none
end
def rU:Nat:=400
def pX(P:Program)(nt:Nat):Operand→Option PX
 |.tmp t=>match D0 nt t with
  |some k=>some (.t k)
  |none=>none
 |.const v=>match jX rU v with
  |some a=>some (.v a)
  |none=>none
 |.global g=>match D0 P.globals.size g with
  |some k=>some (.v (.ptr k 0))
  |none=>none
 |.func f=>some (.v (.fn f [] []))
def L7(P:Program)(nt:Nat):List Operand→Option (List PX)
 | []=>some []
 |x ::l=>match pX P nt x,L7 P nt l with
  |some a,some r=>some (a ::r)
  |_,_=>none
def arW(P:Program)(nt:Nat):Option Operand→Option (Option PX)
 |none=>some none
 |some x=>match pX P nt x with
  |some a=>some (some a)
  |none=>none
structure TI where
 size:Nat
 agg:Bool
 zero:AV
def tyI(P:Program)(t:TypeId):Option TI:=
 match P.info? t,P.underlying t with
 |some i,some d=>match i.zero with
  |some z=>match jX rU z with
   |some a=>some ⟨i.size,(match d with|.struct _=>true|.array _ _=>true|_=>false),a⟩
   |none=>none
  |none=>none
 |_,_=>none
def E6(P:Program)(nt:Nat)(place:Nat→Option (Nat×Nat)):List (Nat×Operand)→Option (List (Nat×Nat×PX))
 | []=>some []
 |(i,x) ::l=>match place i,pX P nt x,E6 P nt place l with
  |some (off,size),some a,some r=>some ((off,size,a) ::r)
  |_,_,_=>none
def qV(P:Program):List Field→Option (List (Nat×Nat))
 | []=>some []
 |f ::l=>match P.info? f.type,qV P l with
  |some i,some r=>some ((f.offset,i.size) ::r)
  |_,_=>none
def BI(l:List (Nat×tK))(sz:Nat):Nat→Nat→List (Nat×tK)
 |0,_=>[]
 |n+1,off=>l.map (fun x=>(off+x.1,x.2))++BI l sz n (off+sz)
mutual
def QF(P:Program):Nat→TypeId→Option tK
 |0,_=>none
 |n+1,t=>match P.underlying t with
  |some .bool=>some .bool
  |some (.int _)=>some .int
  |some .string=>some .str
  |some (.pointer e)=>match P.info? e with
   |some i=>bif Nat.beq i.size 0 then none else some .ptr
   |none=>none
  |some (.interface _)=>some .iface
  |some (.slice _)=>some .slice
  |some (.func _ _ _)=>some .func
  |some (.map _ _)=>some .map
  |some (.struct fs)=>bif P.stoodInHeld t then none else match eqFields P n fs.toList with
   |some l=>some (.parts l)
   |none=>none
  |some (.array len e)=>match P.underlying e,QF P n e,P.info? e with
   |some (.struct _),some (.parts l),some i=>bif l.all (fun x=>Nat.blt x.1 i.size) then some (.parts (BI l i.size len 0)) else none
   |_,_,_=>none
  |_=>none
def eqFields(P:Program):Nat→List Field→Option (List (Nat×tK))
 |_,[]=>some []
 |0,_ ::_=>none
 | n + 1, f :: l => bif f.name == "_" then none else match QF P n f.type, eqFields P n l with
  |some .bool,some r=>some ((f.offset,.bool) ::r)
  |some .int,some r=>some ((f.offset,.int) ::r)
  |some .str,some r=>some ((f.offset,.str) ::r)
  |_,_=>none
end
def RU:tK→Bool
 |.parts _=>true
 |.int=>true
 |.str=>true
 |_=>false
def jn:Operand→Bool
 |.const _=>true
 |_=>false
def gP(P:Program)(nt:Nat)(o:Oper):Option F9:=
 match o.op with
 |.move x|.assign x=>(pX P nt x).map .mov
 |.pick c a b=>match pX P nt c,pX P nt a,pX P nt b with
  |some c,some a,some b=>some (.pick c a b)
  |_,_,_=>none
 |.alloc t=>match tyI P t with
  |some i=>some (.new i.zero.cells)
  |none=>none
 |.box _ x=>(pX P nt x).map .box
 |.build t parts=>match tyI P t,P.underlying t with
  |some i,some (.struct fs)=>match qV P fs.toList with
   |some pl=>match E6 P nt (pl[·]?) parts.toList with
    |some ps=>some (.build i.zero.cells ps)
    |none=>none
   |none=>none
  |some i,some (.array _ e)=>match P.info? e with
   |some ie=>match E6 P nt (fun j=>some (j*ie.size,ie.size)) parts.toList with
    |some ps=>some (.build i.zero.cells ps)
    |none=>none
   |none=>none
  |_,_=>none
 |.buildSlice t len parts=>match P.underlying t with
  |some (.slice e)=>match tyI P e with
   |some ie=>bif Nat.ble (len*ie.size) 16777216&&Nat.blt 0 ie.size&&Nat.beq ie.zero.cells.length ie.size then(match E6 P nt (fun j=>some (j*ie.size,ie.size)) parts.toList with
    |some ps=>some (.bslice ie.size len ie.zero.cells ps)
    |none=>none) else none
   |none=>none
  |_=>none
 |.load t a=>match tyI P t,pX P nt a with
  |some i,some a=>some (.load i.agg i.size a)
  |_,_=>none
 |.store t a v=>match P.info? t,pX P nt a,pX P nt v with
  |some i,some a,some v=>some (.store i.size a v)
  |_,_,_=>none
 |.nilCheck x=>(pX P nt x).map .nilc
 |.binOp op t x y _=>match pX P nt x,pX P nt y with
  |some a,some b=>match P.underlying t with
   |some (.int _)=>some (.bin op a b)
   |some .string=>some (.bin op a b)
   |some (.interface _)=>bif jn x||jn y then(match op with
    |.eql=>some (.eq false .iface a b)
    |.neq=>some (.eq true .iface a b)
    |_=>none) else none
   |some (.struct _)=>bif P.eqGuardType P.depth t then none else(match op,QF P 100 t with
    |.eql,some p=>some (.eq false p a b)
    |.neq,some p=>some (.eq true p a b)
    |_,_=>none)
   |some (.array _ _)=>bif P.eqGuardType P.depth t then none else(match op,QF P 100 t with
    |.eql,some p=>some (.eq false p a b)
    |.neq,some p=>some (.eq true p a b)
    |_,_=>none)
   |some _=>match op,QF P 100 t with
    |.eql,some p=>bif RU p then none else some (.eq false p a b)
    |.neq,some p=>bif RU p then none else some (.eq true p a b)
    |_,_=>none
   |none=>none
  |_,_=>none
 |.unOp op _ x=>(pX P nt x).map (.un op)
 |.convert src dst x=>match pX P nt x,P.underlying src,P.underlying dst with
  |some a,some (.int _),some (.int k)=>some (.cint k a)
  |some a,some .string,some .string=>some (.cstr a)
  |some a,some (.slice e),some .string=>match P.underlying e with
   |some (.int .u8)=>some (.cbytes a)
   |_=>none
  |some a,some .string,some (.slice e)=>match P.underlying e with
   |some (.int .u8)=>some (.strb a)
   |_=>none
  |_,_,_=>none
 |.makeInterface t x=>match P.underlying t with
  |some (.interface _)=>none
  |none=>none
  |some _=>(pX P nt x).map (.mkif t)
 |.makeFunc (.func f) first cap=>match L7 P nt first.toList,L7 P nt cap.toList with
  |some a,some c=>some (.mkfn f a c)
  |_,_=>none
 |.makeMap _ none=>some .mkmap
 |.makeSlice t l c=>match P.underlying t with
  |some (.slice e)=>match tyI P e,pX P nt l,pX P nt c with
   |some ie,some l,some c=>match P.info? e with
    |some i=>bif Nat.blt 0 ie.size&&Nat.beq ie.zero.cells.length ie.size&&Nat.ble i.bytes 65536 then some (.mkslice ie.size ie.zero.cells l c) else none
    |none=>none
   |_,_,_=>none
  |_=>none
 |.slice t x lo hi none=>match pX P nt x,arW P nt lo,arW P nt hi with
  |some a,some lo,some hi=>match P.underlying t with
   |some .string=>some (.sliceS a lo hi)
   |some (.slice e)=>match P.info? e with
    |some i=>bif Nat.blt 0 i.size then some (.sliceL i.size a lo hi) else none
    |none=>none
   |_=>none
  |_,_,_=>none
 |.fieldAddr s x f=>match P.underlying s with
  |some (.struct fs)=>match fs[f]? with
   |some fd=>match P.info? fd.type,pX P nt x with
    |some i,some a=>bif Nat.beq i.size 0 then none else some (.fieldA fd.offset a)
    |_,_=>none
   |none=>none
  |_=>none
 |.field t x f=>match P.underlying t with
  |some (.struct fs)=>match fs[f]? with
   |some fd=>match tyI P fd.type,pX P nt x with
    |some i,some a=>some (.field i.agg fd.offset i.size a)
    |_,_=>none
   |none=>none
  |_=>none
 |.indexAddr t x i=>match P.underlying t,pX P nt x,pX P nt i with
  |some (.array len e),some a,some b=>match P.info? e with
   |some ie=>bif Nat.blt 0 ie.size then some (.indexA len ie.size a b) else none
   |none=>none
  |some (.slice e),some a,some b=>match P.info? e with
   |some ie=>bif Nat.blt 0 ie.size then some (.indexL ie.size a b) else none
   |none=>none
  |_,_,_=>none
 |.index t x i=>match P.underlying t,pX P nt x,pX P nt i with
  |some .string,some a,some b=>some (.indexS a b)
  |some (.array len e),some a,some b=>match tyI P e with
   |some ie=>some (.indexV len ie.agg ie.size a b)
   |none=>none
  |_,_,_=>none
 |.lookup t m k ok=>match P.underlying t with
  |some (.map kt e)=>match P.underlying kt,tyI P e,pX P nt m,pX P nt k with
   |some (.int _),some i,some a,some b=>some (.lookup false i.zero ok a b)
   |some .string,some i,some a,some b=>some (.lookup true i.zero ok a b)
   |_,_,_,_=>none
  |_=>none
 |.mapUpdate t m k v|.insert t m k v=>match P.underlying t with
  |some (.map kt _)=>match P.underlying kt,pX P nt m,pX P nt k,pX P nt v with
   |some (.int _),some a,some b,some c=>some (.mapupd false a b c)
   |some .string,some a,some b,some c=>some (.mapupd true a b c)
   |some (.struct _),some a,some b,some c=>match QF P 100 kt with
    |some p=>some (.mapupdP p a b c)
    |none=>none
   |some (.array _ _),some a,some b,some c=>match QF P 100 kt with
    |some p=>some (.mapupdP p a b c)
    |none=>none
   |_,_,_,_=>none
  |_=>none
 |.range t x=>match P.underlying t with
  |some (.map _ _)=>(pX P nt x).map .rangeM
  |_=>none
 |.next x false=>(pX P nt x).map .nextM
 |.entry x=>(pX P nt x).map .entryM
 |.typeAssert x _ t ok=>match P.underlying t,tyI P t,pX P nt x with
  |some (.interface _),_,_=>none
  |some _,some i,some a=>some (.assert t i.zero ok a)
  |_,_,_=>none
 |.extract x i=>match pX P nt x with
  |some a=>some (.extract a i)
  |none=>none
 |.call c=>match c.callee with
  |.value (.func f)=>match L7 P nt c.args.toList,P.funcs[f]? with
   | some l, some fn => bif fn.body.isSome && !(fn.name == "runtime.NumGoroutine") then some (.callF f l) else none
   |_,_=>none
  |.value x=>match pX P nt x,L7 P nt c.args.toList with
   |some a,some l=>some (.callV a l)
   |_,_=>none
  |.invoke _ _=>none
  |.builtin b=>match b,L7 P nt c.args.toList with
   |.len,some [x]=>match c.argTypes.toList with
    | [t]=>match P.underlying t with
     |some .string=>some (.lenS x)
     |some (.slice _)=>some (.lenL x)
     |some (.map _ _)=>some (.lenM x)
     |_=>none
    |_=>none
   |.append,some [s,x]=>match c.argTypes.toList with
    | [t,u]=>match P.underlying t,P.underlying u with
     |some (.slice e),some (.slice _)=>match tyI P e,P.info? e with
      |some ie,some i=>bif Nat.blt 0 ie.size&&Nat.beq ie.zero.cells.length ie.size&&Nat.ble i.bytes 65536 then some (.append ie.size s x) else none
      |_,_=>none
     |some (.slice e),some .string=>match tyI P e,P.info? e with
      |some ie,some i=>bif Nat.blt 0 ie.size&&Nat.beq ie.zero.cells.length ie.size&&Nat.ble i.bytes 65536 then some (.append ie.size s x) else none
      |_,_=>none
     |_,_=>none
    |_=>none
   |.max,some [x,y]=>some (.mx true x y)
   |.min,some [x,y]=>some (.mx false x y)
   |.recover,some []=>some .recover
   |.delete,some [m,k]=>match c.argTypes.toList with
    |t ::_=>match P.underlying t with
     |some (.map kt _)=>match P.underlying kt,QF P 100 kt with
      |some (.struct _),some p=>some (.delP p m k)
      |some (.array _ _),some p=>some (.delP p m k)
      |_,_=>none
     |_=>none
    |_=>none
   |_,_=>none
 |.defer c=>match c.callee with
  |.value x=>match pX P nt x,L7 P nt c.args.toList with
   |some a,some l=>some (.dfr a l)
   |_,_=>none
  |_=>none
 |.panic x=>(pX P nt x).map .panic
 |_=>none
def L8(nt:Nat)(ops:Array Oper):Option (Nat×Bool)→Option (Option (Key×Bool))
 |none=>some none
 |some (j,want)=>match ops[j]? with
  |some o=>match o.dst with
   |some d=>match D0 nt d with
    |some k=>some (some (k,want))
    |none=>none
   |none=>none
  |none=>none
def JC(P:Program)(nt:Nat)(ops:Array Oper)(o:Oper):Option J:=
 match gP P nt o,L8 nt ops o.guard with
 |some op,some g=>match o.dst with
  |none=>some ⟨none,op,g⟩
  |some d=>match D0 nt d with
   |some k=>some ⟨some k,op,g⟩
   |none=>none
 |_,_=>none
def lP(P:Program)(nt:Nat)(ops:Array Oper):List Nat→Option (List J)
 | []=>some []
 |i ::l=>match ops[i]? with
  |none=>none
  |some o=>match JC P nt ops o,lP P nt ops l with
   |some a,some r=>some (a ::r)
   |_,_=>none
def Gi:F9→Bool
 |.store _ _ _|.mapupd _ _ _ _|.mapupdP _ _ _ _|.delP _ _ _|.rangeM _|.nextM _|.strb _|.append _ _ _|.callF _ _|.callV _ _|.dfr _ _|.panic _|.recover=>true
 |_=>false
def LF:F9→Bool
 |.new _|.box _|.bslice _ _ _ _|.mkmap|.mkslice _ _ _ _=>true
 |_=>false
def Ip:F9→Bool
 |.load _ _ _|.lookup _ _ _ _ _|.cbytes _|.lenM _|.entryM _=>true
 |_=>false
def np(ops:Array Oper):List Nat:=(Region.before ops).toList
def RW:List J→Nat→List Nat
 | [],_=>[]
 |o ::l,i=>bif Gi o.op then i ::RW l (i+1) else RW l (i+1)
def LG(b:Nat):List Nat→Nat
 | []=>0
 |h ::l=>bif Nat.testBit b h then LG b l+1 else LG b l
def Gj(hs:List Nat)(s:Nat):List (J×Nat)→Nat→List aM
 | [],_=>[]
 |(o,b) ::l,i=>bif Gi o.op || !(Nat.beq (LG b hs) s) then Gj hs s l (i+1)
   else(bif LF o.op then .A i o else .L i o) ::Gj hs s l (i+1)
def Gk(bh:Nat):List (J×Nat)→Nat→List Nat
 | [],_=>[]
 |(o,_) ::l,i=>bif LF o.op&&Nat.testBit bh i then i ::Gk bh l (i+1) else Gk bh l (i+1)
def E7(hs:List Nat)(s bh:Nat):List (J×Nat)→Nat→List (Nat×J)
 | [],_=>[]
 |(o,b) ::l,i=>bif Ip o.op&&Nat.ble (LG b hs) s && !(Nat.testBit bh i) then(i,o) ::E7 hs s bh l (i+1) else E7 hs s bh l (i+1)
def aHC(l:List (J×Nat))(i:Nat):Option (J×Nat):=l[i]?
def L9(hs:List Nat)(all:List (J×Nat)):Nat→List Nat→Option (List aM)
 |s,[]=>some (Gj hs s all 0)
 |s,h ::rest=>match aHC all h,L9 hs all (s+1) rest with
  |some (o,b),some r=>some (Gj hs s all 0 ++ .H h o (Gk b all 0) ::.R (E7 hs s b all 0) ::r)
  |_,_=>none
def dstsOf:List J→List Key
 | []=>[]
 |o ::l=>match o.dst with
  |some d=>d ::dstsOf l
  |none=>dstsOf l
def Dm(avI:List (J×Nat)):List (J×Nat)→Nat→List (Nat×List Nat)
 | [],_=>[]
 |(o,b) ::l,i=>bif Ip o.op then(match Gk b avI 0 with
   | []=>Dm avI l (i+1)
   |ad=>(i,ad) ::Dm avI l (i+1)) else Dm avI l (i+1)
def hasB(m j:Nat):Bool:=Nat.testBit m j
def ajT(n a b:Nat):Bool:=(List.range n).all fun j=>!(hasB a j)||hasB b j
def fc(bf:List Nat)(i:Nat):Nat:=(bf[i]?).getD 0
def ke(ops:Array Oper)(o:Oper):List Nat:=
 o.op.operands.toList.filterMap (fun|.tmp t=>some t|_=>none)++(match o.guard with|some (j,_)=>((ops[j]?).bind (·.dst)).toList|none=>[])
def lQ(ops:Array Oper)(i:Nat):Option Nat:=(ops[i]?).bind (·.dst)
def LH(ops:Array Oper)(bf:List Nat):Bool:=
 (List.range ops.size).all fun i=>match ops[i]? with
  |none=>false
  |some o=>(o.after.toList.all fun e=>!(Region.binds .any e)||(Nat.blt e.on i&&hasB (fc bf i) e.on)) &&
   (List.range ops.size).all fun j=>!(hasB (fc bf i) j)||o.after.toList.any fun e=>Region.binds .any e&&(Nat.beq e.on j||hasB (fc bf e.on) j)
def RX(ops:Array Oper)(bf:List Nat):Bool:=
 (List.range ops.size).all fun i=>match ops[i]? with
  |none=>false
  |some o=>(List.range ops.size).all fun j=>match lQ ops j with
   |none=>true
   |some t=>bif Nat.beq i j then !(ke ops o).contains t else
     !(o.dst==some t)&&(!(ke ops o).contains t||hasB (fc bf i) j||hasB (fc bf j) i)
def BJ(ops:Array Oper)(bf:List Nat)(i:Nat):Bool:=match ops[i]? with
 |none=>false
 |some o=>(List.range ops.size).all fun j=>match lQ ops j with
  |none=>true
  |some t=>!(ke ops o).contains t||hasB (fc bf i) j
inductive IIt where
 |L (i:Nat)
 |A (i:Nat)
 |H (i:Nat) (BK:List Nat)
 |R (os:List Nat)
def iOf:aM→IIt
 |.L i _=>.L i
 |.A i _=>.A i
 |.H i _ l=>.H i l
 |.R os=>.R (os.map (·.1))
def BL(pl:List J):IIt→Option aM
 |.L i=>(pl[i]?).map (.L i)
 |.A i=>(pl[i]?).map (.A i)
 |.H i l=>(pl[i]?).map (fun o=>.H i o l)
 |.R os=>(os.mapM fun i=>(pl[i]?).map fun o=>(i,o)).map .R
def pB(pl:List J)(i:Nat):Nat:=match pl[i]? with
 |none=>9
 |some o=>bif Gi o.op then 2 else bif LF o.op then 1 else 0
def fN(pl:List J)(i:Nat):Bool:=match pl[i]? with
 |none=>false
 |some o=>Ip o.op
def Gl(m i:Nat):Nat:=m ||| 2^i
def wP(ops:Array Oper)(pl:List J)(bf:List Nat):Nat→List IIt→Bool
 |m,[]=>(List.range ops.size).all (hasB m)
 |m,.L i ::r=>Nat.blt i ops.size&&Nat.beq (pB pl i) 0 && !(hasB m i)&&ajT ops.size (fc bf i) m&&wP ops pl bf (Gl m i) r
 |m,.A i ::r=>Nat.blt i ops.size&&Nat.beq (pB pl i) 1 && !(hasB m i)&&ajT ops.size (fc bf i) m&&wP ops pl bf (Gl m i) r
 |m,.H i l ::.R os ::r=>Nat.blt i ops.size&&Nat.beq (pB pl i) 2 && !(hasB m i)&&ajT ops.size (fc bf i) m &&
   ((List.range ops.size).all fun j=>hasB m j||Nat.beq j i || !(ajT ops.size (fc bf j) m)) &&
   (l.all fun j=>hasB (fc bf i) j) &&
   ((List.range ops.size).all fun j=>!(hasB m j) || !(fN pl j)||hasB (fc bf i) j||os.contains j) &&
   (os.all fun j=>Nat.blt j ops.size&&hasB m j&&Nat.beq (pB pl j) 0&&BJ ops bf j) &&
   wP ops pl bf (Gl m i) r
 |_,_=>false
def xD(bf:List Nat):List (Nat×List Nat)→Bool
 | []=>true
 |(i,l) ::r=>(l.all fun j=>hasB (fc bf i) j)&&xD bf r
def azz(ops:Array Oper)(pl:List J)(bf:List Nat)(l:List IIt):Bool:=LH ops bf&&RX ops bf&&wP ops pl bf 0 l
def Gm(P:Program)(nt:Nat)(ops:Array Oper)(draw:Bool):Option aA:=
 match lP P nt ops (List.range ops.size) with
 |none=>none
 |some l=>bif draw then
   (let all:=l.zip (np ops)
   let hs:=RW l 0
   match L9 hs all 0 hs with
   |some st=>match (st.map iOf).mapM (BL l) with
    |some st=>bif azz ops l (np ops) (st.map iOf)&&xD (np ops) (Dm all all 0) then some (.staged st ⟨dstsOf l,Dm all all 0⟩) else none
    |none=>none
   |none=>none)
  else some (.ops l)
def fZ(P:Program)(nt:Nat):Code→Option aA
 |.skip=>some .skip
 |.region _ ops draw=>Gm P nt ops draw
 |.seq a b=>match fZ P nt a,fZ P nt b with
  |some a,some b=>some (.seq a b)
  |_,_=>none
 |.cond c a b=>match pX P nt c,fZ P nt a,fZ P nt b with
  |some c,some a,some b=>some (.cond c a b)
  |_,_,_=>none
 |.block id c=>match fZ P nt c with
  |some c=>some (.block id c)
  |none=>none
 |.loop c=>match fZ P nt c with
  |some c=>some (.loop c)
  |none=>none
 |.rangeFunc f params a b=>match pX P nt f,params.toList.mapM (D0 nt),fZ P nt a,fZ P nt b with
  |some f,some ps,some a,some b=>some (.rangeF f ps a b)
  |_,_,_,_=>none
 |.exit id=>some (.exit id)
 |.ret=>some .ret
 |.scope c=>match fZ P nt c with
  |some c=>some (.seq c .skip)
  |none=>none
 |.label _=>some .skip
 |_=>none
def Pn(P:Program)(nt:Nat):List ResultVar→Option (List RV)
 | []=>some []
 |.tmp t ::l=>match D0 nt t,Pn P nt l with
  |some k,some r=>some (.tmp k ::r)
  |_,_=>none
 |.cell a t ::l=>match D0 nt a,tyI P t,Pn P nt l with
  |some k,some i,some r=>some (.cell k i.agg i.size ::r)
  |_,_,_=>none
def iH(P:Program)(f:Nat):Option fK:=
 match P.funcs[f]? with
 |none=>none
 |some fn=>match fn.body with
  |none=>none
  | some c => bif fn.name == "runtime.NumGoroutine" then none else match fZ P fn.ntmps c, Pn P fn.ntmps fn.results.toList with
   |some b,some r=>some ⟨b,r⟩
   |_,_=>none
end Go.Sx
/-
 SX: the laws of the machine's tries and lists. No condition.
-/
namespace Go.Sx
theorem Key.toNat_inj:∀ {a b:Key},a.toNat=b.toNat→a=b
 |.z,.z,_=>rfl
 |.z,.o b,h=>by simp[Key.toNat] at h
 |.z,.e b,h=>by simp[Key.toNat] at h
 |.o a,.z,h=>by simp[Key.toNat] at h
 |.e a,.z,h=>by simp[Key.toNat] at h
 |.o a,.o b,h=>by rw[Key.toNat_inj (a:=a) (b:=b) (by simp only[Key.toNat] at h;omega)]
 |.e a,.e b,h=>by rw[Key.toNat_inj (a:=a) (b:=b) (by simp only[Key.toNat] at h;omega)]
 |.o a,.e b,h=>by simp only[Key.toNat] at h;omega
 |.e a,.o b,h=>by simp only[Key.toNat] at h;omega
theorem kTSu:∀ (k:Key),k.succ.toNat=k.toNat+1
 |.z=>rfl
 |.o k=>by show(Key.e k).toNat=_;simp only[Key.toNat]
 |.e k=>by show(Key.o k.succ).toNat=_;simp only[Key.toNat,kTSu k];omega
theorem Key.eq_of_beq:∀ {a b:Key},Key.beq a b=true→a=b
 |.z,.z,_=>rfl
 |.o a,.o b,h=>by rw[Key.eq_of_beq (a:=a) (b:=b) h]
 |.e a,.e b,h=>by rw[Key.eq_of_beq (a:=a) (b:=b) h]
 |.z,.o _,h=>by cases h
 |.z,.e _,h=>by cases h
 |.o _,.z,h=>by cases h
 |.e _,.z,h=>by cases h
 |.o _,.e _,h=>by cases h
 |.e _,.o _,h=>by cases h
noncomputable def au{α:Type}(k:Key)(x:Option α)(t:T α):T α:=sY k x t fun t=>t
section
variable{α R:Type}
@[simp] theorem T.get_nil(k:Key):aa k (T.nil:T α)=none:=by cases k<;>rfl
@[simp] theorem T.aPt(v:Option α)(l r:T α):aa .z (.node v l r)=v:=rfl
@[simp] theorem T.auD(k:Key)(v:Option α)(l r:T α):aa (.o k) (.node v l r)=aa k l:=rfl
@[simp] theorem T.auE(k:Key)(v:Option α)(l r:T α):aa (.e k) (.node v l r)=aa k r:=rfl
theorem sTCe(x:Option α):∀ {R:Type} (k:Key) (t:T α) (c:T α→R),sY k x t c=c (au k x t)
 |_,.z,.nil,c=>rfl
 |_,.z,.node v l r,c=>rfl
 |_,.o k,.nil,c=>by
  show sY k x .nil (fun l=>c (.node none l .nil))=c (sY k x .nil fun l=>.node none l .nil)
  rw[sTCe x k .nil,sTCe x k .nil (fun l=>T.node none l .nil)]
 |_,.e k,.nil,c=>by
  show sY k x .nil (fun r=>c (.node none .nil r))=c (sY k x .nil fun r=>.node none .nil r)
  rw[sTCe x k .nil,sTCe x k .nil (fun r=>T.node none .nil r)]
 |_,.o k,.node v l r,c=>by
  show sY k x l (fun l=>c (.node v l r))=c (sY k x l fun l=>.node v l r)
  rw[sTCe x k l,sTCe x k l (fun l=>T.node v l r)]
 |_,.e k,.node v l r,c=>by
  show sY k x r (fun r=>c (.node v l r))=c (sY k x r fun r=>.node v l r)
  rw[sTCe x k r,sTCe x k r (fun r=>T.node v l r)]
theorem T.I6(k:Key)(x:Option α):au (.o k) x .nil=.node none (au k x .nil) .nil:=sTCe x k .nil _
theorem T.I7(k:Key)(x:Option α):au (.e k) x .nil=.node none .nil (au k x .nil):=sTCe x k .nil _
theorem T.att(k:Key)(x v:Option α)(l r:T α):au (.o k) x (.node v l r)=.node v (au k x l) r:=sTCe x k l _
theorem T.atu(k:Key)(x v:Option α)(l r:T α):au (.e k) x (.node v l r)=.node v l (au k x r):=sTCe x k r _
theorem gTSm(x:Option α):∀ (k:Key) (t:T α),aa k (au k x t)=x
 |.z,.nil=>rfl
 |.z,.node v l r=>rfl
 |.o k,.nil=>by rw[T.I6];exact gTSm x k .nil
 |.e k,.nil=>by rw[T.I7];exact gTSm x k .nil
 |.o k,.node v l r=>by rw[T.att];exact gTSm x k l
 |.e k,.node v l r=>by rw[T.atu];exact gTSm x k r
theorem bG(x:Option α):∀ (k k':Key) (t:T α),k'≠k→aa k' (au k x t)=aa k' t
 |.z,k',.nil,h=>by
  cases k' with
  |z=>exact absurd rfl h
  |o k'=>show aa k' T.nil=_;simp
  |e k'=>show aa k' T.nil=_;simp
 |.z,k',.node v l r,h=>by
  cases k' with
  |z=>exact absurd rfl h
  |o k'=>rfl
  |e k'=>rfl
 |.o k,k',.nil,h=>by
  rw[T.I6]
  cases k' with
  |z=>rfl
  |o k'=>rw[T.auD,bG x k k' .nil (fun e=>h (by rw[e]))];simp
  |e k'=>simp
 |.e k,k',.nil,h=>by
  rw[T.I7]
  cases k' with
  |z=>rfl
  |o k'=>simp
  |e k'=>rw[T.auE,bG x k k' .nil (fun e=>h (by rw[e]))];simp
 |.o k,k',.node v l r,h=>by
  rw[T.att]
  cases k' with
  |z=>rfl
  |o k'=>rw[T.auD,T.auD];exact bG x k k' l (fun e=>h (by rw[e]))
  |e k'=>rfl
 |.e k,k',.node v l r,h=>by
  rw[T.atu]
  cases k' with
  |z=>rfl
  |o k'=>rfl
  |e k'=>rw[T.auE,T.auE];exact bG x k k' r (fun e=>h (by rw[e]))
theorem nth_eq:∀ (n:Nat) (l:List α),nth n l=l[n]?
 |0,[]=>rfl
 |0,x ::l=>rfl
 |n+1,[]=>rfl
 |n+1,x ::l=>by show nth n l=_;rw[nth_eq n l];simp
theorem dropL_eq:∀ (n:Nat) (l:List α),td n l=l.drop n
 |0,l=>rfl
 |n+1,[]=>by simp;rfl
 |n+1,x ::l=>by show td n l=_;rw[dropL_eq n l];simp
theorem takeC_eq:∀ (n:Nat) (l:List α) (bad:R) (c:List α→R),vY n l bad c=if n≤l.length then c (l.take n) else bad
 |0,l,bad,c=>by simp;rfl
 |n+1,[],bad,c=>by simp;rfl
 |n+1,x ::l,bad,c=>by
  show vY n l bad (fun r=>c (x ::r))=_
  rw[takeC_eq n l];simp
theorem ajj:∀ (vs l:List α) (bad:R) (c:List α→R),anh vs l bad c=if vs.length≤l.length then c (vs++l.drop vs.length) else bad
 | [],l,bad,c=>by simp;rfl
 |v ::vs,[],bad,c=>by simp;rfl
 |v ::vs,x ::l,bad,c=>by
  show anh vs l bad (fun r=>c (v ::r))=_
  rw[ajj vs l];simp
theorem putC_eq(vs:List α):∀ (off:Nat) (l:List α) (bad:R) (c:List α→R),
  U6 vs off l bad c=if off+vs.length≤l.length then c (l.take off++vs++l.drop (off+vs.length)) else bad
 |0,l,bad,c=>by
  show anh vs l bad c=_
  rw[ajj];simp
 |off+1,[],bad,c=>by
  have:¬ (off+1+vs.length≤([]:List α).length):=by simp
  rw[if_neg this];rfl
 |off+1,x ::l,bad,c=>by
  show U6 vs off l bad (fun r=>c (x ::r))=_
  rw[putC_eq vs off l]
  have e:(off+1+vs.length≤(x ::l).length)↔(off+vs.length≤l.length):=by simp;omega
  by_cases h:off+vs.length≤l.length
  ·rw[if_pos h,if_pos (e.2 h)]
   have:off+1+vs.length=(off+vs.length)+1:=by omega
   rw[this];simp
  ·rw[if_neg h,if_neg (fun h'=>h (e.1 h'))]
theorem appC_eq:∀ (a b:List α) (c:List α→R),Pv a b c=c (a++b)
 | [],b,c=>rfl
 |x ::a,b,c=>by
  show Pv a b (fun r=>c (x ::r))=_
  rw[appC_eq a b];simp
theorem lenL_eq:∀ (l:List α),lenL l=l.length
 | []=>rfl
 |x ::l=>by show Nat.succ (lenL l)=_;rw[lenL_eq l];simp
theorem repL_eq(zs:List α):∀ (n:Nat) (acc:List α),av5 n zs acc=(List.replicate n zs).flatten++acc
 |0,acc=>by simp;rfl
 |n+1,acc=>by
  show Pv zs (av5 n zs acc) (fun r=>r)=_
  rw[appC_eq,repL_eq zs n acc];simp[List.replicate_succ]
end
theorem beqN_eq(a b:Nat):Nat.beq a b=decide (a=b):=by
 by_cases h:a=b
 ·subst h;simp
 ·have:Nat.beq a b=false:=by
   cases e:Nat.beq a b with
   |false=>rfl
   |true=>exact absurd (mU e) h
  rw[this];simp[h]
theorem eqI_eq(a b:Int):eqI a b=(a==b):=by
 cases a with
 |ofNat a=>cases b with
  |ofNat b=>
   show Nat.beq a b=_
   rw[beqN_eq,Bool.eq_iff_iff]
   simp
   omega
  |negSucc b=>
   show false=_
   symm
   rw[beq_eq_false_iff_ne]
   intro h;cases h
 |negSucc a=>cases b with
  |ofNat b=>
   show false=_
   symm
   rw[beq_eq_false_iff_ne]
   intro h;cases h
  |negSucc b=>
   show Nat.beq a b=_
   rw[beqN_eq,Bool.eq_iff_iff]
   simp
theorem bltN_eq(a b:Nat):Nat.blt a b=decide (a<b):=by
 rw[Bool.eq_iff_iff,decide_eq_true_iff]
 unfold Nat.blt
 rw[Nat.ble_eq]
 omega
theorem FD(a b:Int):D9 a b=decide (a<b):=by
 cases a with
 |ofNat a=>cases b with
  |ofNat b=>
   show Nat.blt a b=_
   rw[bltN_eq,decide_eq_decide]
   show a<b↔(a:Int)<(b:Int)
   omega
  |negSucc b=>
   show false=_
   symm
   rw[decide_eq_false_iff_not]
   have:=Int.negSucc_lt_zero b
   show ¬ ((a:Int)<_)
   omega
 |negSucc a=>cases b with
  |ofNat b=>
   show true=_
   symm
   rw[decide_eq_true_iff]
   have:=Int.negSucc_lt_zero a
   show _<(b:Int)
   omega
  |negSucc b=>
   show Nat.blt b a=_
   rw[bltN_eq,decide_eq_decide,Int.negSucc_eq,Int.negSucc_eq]
   omega
theorem ap1(k:IntKind):full k=(2^k.bits:Int):=by cases k<;>decide
theorem jv(k:IntKind)(n:Int):cu k n=k.wrap n:=by
 have hm:Int.emod n (full k)=n%(2^k.bits:Int):=by rw[ap1];rfl
 have h0:0≤n%(2^k.bits:Int)∧n%(2^k.bits:Int)<(2^k.bits:Int):=
  ⟨Int.emod_nonneg _ (by cases k<;>decide),Int.emod_lt_of_pos _ (by cases k<;>decide)⟩
 unfold cu IntKind.wrap
 rw[hm,FD]
 generalize n%(2^k.bits:Int)=m at h0
 by_cases h:m<half k
 ·rw[decide_eq_true h]
  have:(k.signed&&decide (m≥(2^(k.bits-1):Int)))=false:=by
   cases k<;>simp[half,IntKind.signed,IntKind.bits] at h h0 ⊢<;>omega
  simp[this]
 ·rw[decide_eq_false h]
  have:(k.signed&&decide (m≥(2^(k.bits-1):Int)))=true:=by
   cases k<;>simp[half,IntKind.signed,IntKind.bits] at h h0 ⊢<;>omega
  simp only[this,cond_false,if_true,ap1]
  rfl
theorem qa{a b:IntKind}(h:beqKind a b=true):a=b:=by
 cases a<;>cases b<;>first|rfl|cases h
theorem RK{a b:BinOp}(h:ID a b=true):a=b:=by
 cases a<;>cases b<;>first|rfl|cases h
theorem SI.eq_of_beq:∀ {a b:SI},SI.beq a b=true→a=b
 |.lit a,.lit b,h=>by simp only[SI.beq,eqI_eq,beq_iff_eq] at h;rw[h]
 |.var i,.var j,h=>by rw[mU (n:=i) (m:=j) h]
 |.bin o k a b,.bin o' k' a' b',h=>by
  simp only[SI.beq,jj] at h
  rw[RK h.1.1.1,qa h.1.1.2,SI.eq_of_beq h.1.2,SI.eq_of_beq h.2]
 |.lit _,.var _,h=>by cases h
 |.lit _,.bin ..,h=>by cases h
 |.var _,.lit _,h=>by cases h
 |.var _,.bin ..,h=>by cases h
 |.bin ..,.lit _,h=>by cases h
 |.bin ..,.var _,h=>by cases h
theorem SF.eq_of_beq:∀ {a b:SF},SF.beq a b=true→a=b
 |.any,.any,_=>rfl
 |.tok a,.tok b,h=>by simp only[SF.beq] at h;rw[Key.eq_of_beq h]
 |.any,.tok _,h=>by cases h
 |.tok _,.any,h=>by cases h
mutual
theorem AV.eq_of_beq:∀ (a b:AV),AV.beq a b=true→a=b:=by
 intro a b h
 cases a with
 |bool b1=>
  cases b with
  |bool b2=>simp only[AV.beq,beq_iff_eq] at h;rw[h]
  |_=>exact absurd h (by simp[AV.beq])
 |int k1 n1=>
  cases b with
  |int k2 n2=>simp only[AV.beq,jj] at h;rw[qa h.1,SI.eq_of_beq h.2]
  |_=>exact absurd h (by simp[AV.beq])
 |str n1 c1=>
  cases b with
  |str n2 c2=>simp only[AV.beq,jj] at h;rw[mU h.1,mU h.2]
  |_=>exact absurd h (by simp[AV.beq])
 |ptr b1 o1=>
  cases b with
  |ptr b2 o2=>simp only[AV.beq,jj] at h;rw[Key.eq_of_beq h.1,mU h.2]
  |_=>exact absurd h (by simp[AV.beq])
 |nilp=>
  cases b with
  |nilp=>rfl
  |_=>exact absurd h (by simp[AV.beq])
 |slice b1 o1 l1 s1=>
  cases b with
  |slice b2 o2 l2 s2=>simp only[AV.beq,jj] at h;rw[Key.eq_of_beq h.1.1.1,mU h.1.1.2,mU h.1.2,mU h.2]
  |_=>exact absurd h (by simp[AV.beq])
 |nils=>
  cases b with
  |nils=>rfl
  |_=>exact absurd h (by simp[AV.beq])
 |map b1=>
  cases b with
  |map b2=>simp only[AV.beq] at h;rw[Key.eq_of_beq h]
  |_=>exact absurd h (by simp[AV.beq])
 |nilm=>
  cases b with
  |nilm=>rfl
  |_=>exact absurd h (by simp[AV.beq])
 |fn f1 a1 c1=>
  cases b with
  |fn f2 a2 c2=>simp only[AV.beq,jj] at h;rw[mU h.1.1,AV.gH _ _ h.1.2,AV.gH _ _ h.2]
  |_=>exact absurd h (by simp[AV.beq])
 |yld l1=>
  cases b with
  |yld l2=>simp only[AV.beq] at h;rw[Key.eq_of_beq h]
  |_=>exact absurd h (by simp[AV.beq])
 |nilf=>
  cases b with
  |nilf=>rfl
  |_=>exact absurd h (by simp[AV.beq])
 |iface t1 v1=>
  cases b with
  |iface t2 v2=>simp only[AV.beq,jj] at h;rw[mU h.1,AV.eq_of_beq _ _ h.2]
  |_=>exact absurd h (by simp[AV.beq])
 |nili=>
  cases b with
  |nili=>rfl
  |_=>exact absurd h (by simp[AV.beq])
 |agg l1=>
  cases b with
  |agg l2=>simp only[AV.beq] at h;rw[AV.gH _ _ h]
  |_=>exact absurd h (by simp[AV.beq])
 |tuple l1=>
  cases b with
  |tuple l2=>simp only[AV.beq] at h;rw[AV.gH _ _ h]
  |_=>exact absurd h (by simp[AV.beq])
 |sl l1 n1 z1 f1=>
  cases b with
  |sl l2 n2 z2 f2=>simp only[AV.beq,jj] at h;rw[AV.gH _ _ h.1.1.1,mU h.1.1.2,mU h.1.2,SF.eq_of_beq h.2]
  |_=>exact absurd h (by simp[AV.beq])
 |cref l1=>
  cases b with
  |cref l2=>simp only[AV.beq] at h;rw[AV.gH _ _ h]
  |_=>exact absurd h (by simp[AV.beq])
theorem AV.gH:∀ (a b:List AV),AV.DI a b=true→a=b
 | [],[],_=>rfl
 |x ::a,y ::b,h=>by
  simp only[AV.DI,jj] at h
  rw[AV.eq_of_beq x y h.1,AV.gH a b h.2]
 | [],_ ::_,h=>by cases h
 |_ ::_,[],h=>by cases h
end
end Go.Sx
/-
 SX: what it means that the abstract machine's data stand for the model's. No condition.
-/
namespace Go.Sx
open Go.RowKit
structure Loc where
 c:Nat
 base:Nat
 ext:Nat
structure Mu where
 loc:Key→Option Loc
 fz:Nat→Nat→Option Value
instance:CoeFun Mu (fun _=>Key→Option Loc):=⟨Mu.loc⟩
structure Mu.le(μ μ':Mu):Prop where
 l:∀ b l,μ b=some l→μ' b=some l
 f:∀ c i v,μ.fz c i=some v→μ'.fz c i=some v
theorem Mu.le_refl(μ:Mu):μ.le μ:=⟨fun _ _ h=>h,fun _ _ _ h=>h⟩
theorem Mu.le_trans{a b c:Mu}(h:a.le b)(k:b.le c):a.le c:=⟨fun x l e=>k.l x l (h.l x l e),fun x i v e=>k.f x i v (h.f x i v e)⟩
def Nz(μ:Mu)(c o len cap sz:Nat):SF→Prop
 |.any=>True
 |.tok b=>μ b=some ⟨c,o+len*sz,(cap-len)*sz⟩
theorem Nz.mono{μ μ':Mu}(hm:μ.le μ'){c o len cap sz:Nat}{fl:SF}(h:Nz μ c o len cap sz fl):Nz μ' c o len cap sz fl:=by
 cases fl with
 |any=>trivial
 |tok b=>exact hm.l _ _ h
def SI.den(ρ:Nat→Int):SI→Int
 |.lit n=>n
 |.var i=>ρ i
 |.bin .add k a b=>k.wrap (a.den ρ+b.den ρ)
 |.bin .sub k a b=>k.wrap (a.den ρ-b.den ρ)
 |.bin .mul k a b=>k.wrap (a.den ρ*b.den ρ)
 |.bin _ _ _ _=>0
mutual
inductive aD(ρ:Nat→Int)(μ:Mu):AV→Value→Prop
 |bool (b:Bool):aD ρ μ (.bool b) (.bool b)
 |int (k:IntKind) (s:SI) (n:Int) (h:s.den ρ=n):aD ρ μ (.int k s) (.int k n)
 |str (n c:Nat) (s:ByteArray) (h:s.data.toList.length=n) (h':enc s.data.toList=c):aD ρ μ (.str n c) (.string s)
 |ptr (b:Key) (off:Nat) (l:Loc) (a:Addr) (h:μ b=some l) (ha:a=⟨l.c,l.base+off,none⟩):aD ρ μ (.ptr b off) (.pointer (some a))
 |nilp:aD ρ μ .nilp (.pointer none)
 |slice (b:Key) (off len sz cap:Nat) (l:Loc) (a:Addr) (h:μ b=some l) (hc:off+cap*sz=l.ext) (hl:len≤cap)
   (ha:cap=0∨a=⟨l.c,l.base+off,none⟩):aD ρ μ (.slice b off len sz) (.slice (some a) len cap)
 |nils:aD ρ μ .nils (.slice none 0 0)
 |map (b:Key) (l:Loc) (r:Nat) (h:μ b=some l) (hr:r=l.c):aD ρ μ (.map b) (.map (some r))
 |nilm:aD ρ μ .nilm (.map none)
 |fn (f:Nat) (first cap:List AV) (vs ws:Array Value) (h:an ρ μ first vs.toList) (h':an ρ μ cap ws.toList):aD ρ μ (.fn f first cap) (.func (.func f) vs ws)
 |yld (b:Key) (l:Loc) (r:Nat) (h:μ b=some l) (hr:r=l.c):aD ρ μ (.yld b) (.func (.yield r) #[] #[])
 |nilf:aD ρ μ .nilf .nilFunc
 |iface (t:Nat) (a:AV) (v:Value) (h:aD ρ μ a v):aD ρ μ (.iface t a) (.iface t v)
 |nili:aD ρ μ .nili .nilIface
 |agg (l:List AV) (vs:Array Value) (h:an ρ μ l vs.toList):aD ρ μ (.agg l) (.agg vs)
 |tuple (l:List AV) (vs:Array Value) (h:an ρ μ l vs.toList):aD ρ μ (.tuple l) (.tuple vs)
 |sl (l:List AV) (len sz:Nat) (fl:SF) (cap c o:Nat) (a:Addr) (vs:List Value) (h:an ρ μ l vs) (hn:l.length=len*sz) (hl:len≤cap) (ha:cap=0∨a=⟨c,o,none⟩)
   (hf:∀ i v,vs[i]?=some v→μ.fz c (o+i)=some v) (hg:Nz μ c o len cap sz fl):aD ρ μ (.sl l len sz fl) (.slice (some a) len cap)
 |cref (l:List AV) (c o:Nat) (a:Addr) (vs:List Value) (h:an ρ μ l vs) (ha:a=⟨c,o,none⟩) (hf:∀ i v,vs[i]?=some v→μ.fz c (o+i)=some v):aD ρ μ (.cref l) (.pointer (some a))
inductive an(ρ:Nat→Int)(μ:Mu):List AV→List Value→Prop
 |nil:an ρ μ [] []
 |cons (a:AV) (l:List AV) (v:Value) (vs:List Value) (h:aD ρ μ a v) (h':an ρ μ l vs):an ρ μ (a ::l) (v ::vs)
end
mutual
theorem aD.mono{ρ:Nat→Int}{μ μ':Mu}(hm:μ.le μ'):∀ {a:AV} {v:Value},aD ρ μ a v→aD ρ μ' a v
 |_,_,.bool b=>.bool b
 |_,_,.int k s n h=>.int k s n h
 |_,_,.str n c s h h'=>.str n c s h h'
 |_,_,.ptr b off l a h ha=>.ptr b off l a (hm.l _ _ h) ha
 |_,_,.nilp=>.nilp
 |_,_,.slice b off len sz cap l a h hc hl ha=>.slice b off len sz cap l a (hm.l _ _ h) hc hl ha
 |_,_,.nils=>.nils
 |_,_,.map b l r h hr=>.map b l r (hm.l _ _ h) hr
 |_,_,.nilm=>.nilm
 |_,_,.fn f first cap vs ws h h'=>.fn f first cap vs ws (an.mono hm h) (an.mono hm h')
 |_,_,.yld b l r h hr=>.yld b l r (hm.l _ _ h) hr
 |_,_,.nilf=>.nilf
 |_,_,.iface t a v h=>.iface t a v (aD.mono hm h)
 |_,_,.nili=>.nili
 |_,_,.agg l vs h=>.agg l vs (an.mono hm h)
 |_,_,.tuple l vs h=>.tuple l vs (an.mono hm h)
 |_,_,.sl l len sz fl cap c o a vs h hn hl ha hf hg=>.sl l len sz fl cap c o a vs (an.mono hm h) hn hl ha (fun i v e=>hm.f _ _ _ (hf i v e)) (hg.mono hm)
 |_,_,.cref l c o a vs h ha hf=>.cref l c o a vs (an.mono hm h) ha (fun i v e=>hm.f _ _ _ (hf i v e))
theorem an.mono{ρ:Nat→Int}{μ μ':Mu}(hm:μ.le μ'):∀ {l:List AV} {vs:List Value},an ρ μ l vs→an ρ μ' l vs
 |_,_,.nil=>.nil
 |_,_,.cons a l v vs h h'=>.cons a l v vs (aD.mono hm h) (an.mono hm h')
end
section
variable{ρ:Nat→Int}{μ:Mu}
theorem an.length{l:List AV}{vs:List Value}(h:an ρ μ l vs):l.length=vs.length:=by
 induction l generalizing vs with
 |nil=>cases h;rfl
 |cons a l ih=>cases h with|cons _ _ v vs h h'=>simp[ih h']
theorem an.get{l:List AV}{vs:List Value}(h:an ρ μ l vs):∀ (i:Nat) (a:AV),l[i]?=some a→∃ v,vs[i]?=some v∧aD ρ μ a v:=by
 induction l generalizing vs with
 |nil=>intro i a h';simp at h'
 |cons x l ih=>
  cases h with
  |cons _ _ v vs h h'=>
   intro i a hi
   cases i with
   |zero=>simp at hi;subst hi;exact⟨v,by simp,h⟩
   |succ i=>simpa using ih h' i a (by simpa using hi)
theorem an.Se:∀ {l:List AV} {vs:List Value},l.length=vs.length→(∀ (i:Nat) (a:AV),l[i]?=some a→∃ v,vs[i]?=some v∧aD ρ μ a v)→an ρ μ l vs
 | [],[],_,_=>.nil
 | [],_ ::_,h,_=>by simp at h
 |_ ::_,[],h,_=>by simp at h
 |a ::l,v ::vs,h,hg=>by
  refine .cons a l v vs ?_ (an.Se (by simpa using h) fun i b hb=>?_)
  ·obtain⟨v',hv,hr⟩:=hg 0 a (by simp)
   simp at hv;subst hv;exact hr
  ·obtain⟨v',hv,hr⟩:=hg (i+1) b (by simpa using hb)
   exact⟨v',by simpa using hv,hr⟩
theorem an.append{a b:List AV}{va vb:List Value}(h:an ρ μ a va)(h':an ρ μ b vb):an ρ μ (a++b) (va++vb):=by
 induction a generalizing va with
 |nil=>cases h;exact h'
 |cons x a ih=>cases h with|cons _ _ v vs h1 h2=>exact .cons _ _ _ _ h1 (ih h2)
theorem an.take{l:List AV}{vs:List Value}(h:an ρ μ l vs)(n:Nat):an ρ μ (l.take n) (vs.take n):=by
 induction n generalizing l vs with
 |zero=>simp;exact .nil
 |succ n ih=>cases h with
  |nil=>exact .nil
  |cons a l v vs h h'=>exact .cons _ _ _ _ h (ih h')
theorem an.drop{l:List AV}{vs:List Value}(h:an ρ μ l vs)(n:Nat):an ρ μ (l.drop n) (vs.drop n):=by
 induction n generalizing l vs with
 |zero=>exact h
 |succ n ih=>cases h with
  |nil=>exact .nil
  |cons a l v vs h h'=>exact ih h'
theorem an.one{a:AV}{v:Value}(h:aD ρ μ a v):an ρ μ [a] [v]:=.cons _ _ _ _ h .nil
theorem an.replicate{zs:List AV}{vs:List Value}(h:an ρ μ zs vs):∀ (n:Nat),an ρ μ (List.replicate n zs).flatten (List.replicate n vs).flatten
 |0=>.nil
 |n+1=>by simp only[List.replicate_succ,zqk];exact h.append (an.replicate h n)
theorem aD.cells{a:AV}{v:Value}(h:aD ρ μ a v):an ρ μ a.cells v.cells.toList:=by
 cases h with
 |agg l vs h=>exact h
 |_=>first|exact an.one (.bool _)|exact an.one (.int _ _ _ ‹_›)|exact an.one (.str _ _ _ ‹_› ‹_›)|exact an.one (.ptr _ _ _ _ ‹_› ‹_›)|exact an.one .nilp|exact an.one (.slice _ _ _ _ _ _ _ ‹_› ‹_› ‹_› ‹_›)|exact an.one .nils|exact an.one (.map _ _ _ ‹_› ‹_›)|exact an.one .nilm|exact an.one (.fn _ _ _ _ _ ‹_› ‹_›)|exact an.one (.yld _ _ _ ‹_› ‹_›)|exact an.one .nilf|exact an.one (.iface _ _ _ ‹_›)|exact an.one .nili|exact an.one (.tuple _ _ ‹_›)|exact an.one (.sl _ _ _ _ _ _ _ _ _ ‹_› ‹_› ‹_› ‹_› ‹_› ‹_›)|exact an.one (.cref _ _ _ _ _ ‹_› ‹_› ‹_›)
theorem aD.awp{a:AV}{v:Value}(h:aD ρ μ a v)(hc:a.aN=true):(∀ vs,v≠.agg vs)∧(∀ vs,v≠.tuple vs):=by
 cases h<;>simp_all [AV.aN]
end
mutual
theorem gw{ρ:Nat→Int}{μ:Mu}:∀ (n:Nat) (v:Value) (a:AV),jX n v=some a→aD ρ μ a v:=by
 intro n v a h
 cases n with
 |zero=>simp[jX] at h
 |succ n=>
  cases v with
  |bool b=>simp only[jX,cT] at h;subst h;exact .bool b
  |int k i=>simp only[jX,cT] at h;subst h;exact .int k _ _ rfl
  |string s=>simp only[jX,cT] at h;subst h;exact .str _ _ _ rfl rfl
  |pointer p=>cases p with
   |none=>simp only[jX,cT] at h;subst h;exact .nilp
   |some p=>simp[jX] at h
  |slice p len cap=>
   unfold jX at h
   split at h<;>first|(cases h)|skip
   all_goals first|(simp at h;done)|skip
   all_goals simp_all
   all_goals first|exact .nils|skip
  |map r=>cases r with
   |none=>simp only[jX,cT] at h;subst h;exact .nilm
   |some p=>simp[jX] at h
  |nilFunc=>simp only[jX,cT] at h;subst h;exact .nilf
  |nilIface=>simp only[jX,cT] at h;subst h;exact .nili
  |iface t v=>
   simp only[jX] at h
   split at h
   ·rename_i b hb
    cases h
    exact .iface _ _ _ (gw n v b hb)
   ·simp at h
  |agg cs=>
   simp only[jX] at h
   split at h
   ·rename_i b hb
    cases h
    exact .agg _ _ (Ft n cs.toList b hb)
   ·simp at h
  |tuple cs=>
   simp only[jX] at h
   split at h
   ·rename_i b hb
    cases h
    exact .tuple _ _ (Ft n cs.toList b hb)
   ·simp at h
  |float k b=>simp[jX] at h
  |complex k a b=>simp[jX] at h
  |chan r=>simp[jX] at h
  |func f a b=>simp[jX] at h
theorem Ft{ρ:Nat→Int}{μ:Mu}:∀ (n:Nat) (vs:List Value) (l:List AV),E5 n vs=some l→an ρ μ l vs:=by
 intro n vs l h
 cases vs with
 |nil=>cases n<;>(simp only[E5,cT] at h;subst h;exact .nil)
 |cons v vs=>
  cases n with
  |zero=>simp[E5] at h
  |succ n=>
   simp only[E5] at h
   split at h
   ·rename_i a r ha hr
    cases h
    exact .cons _ _ _ _ (gw n v a ha) (Ft n vs r hr)
   ·simp at h
end
def jQ(ρ:Nat→Int)(μ:Mu)(nt:Nat)(tm:T AV)(tmps:Array Value):Prop:=
 nt≤tmps.size∧∀ k a,aa k tm=some a→∃ v,tmps[k.toNat]?=some v∧aD ρ μ a v
def lL(ρ:Nat→Int)(μ:Mu):List (AV×AV)→List MapEntry→Prop
 | [],[]=>True
 |(k,a) ::l,e ::es=>aD ρ μ k e.key∧aD ρ μ a e.val∧lL ρ μ l es
 |_,_=>False
def gV(ρ:Nat→Int)(μ:Mu):List (Nat×AV×AV)→List MapEntry→Prop
 | [],[]=>True
 |(s,k,a) ::l,e ::es=>e.born=s∧aD ρ μ k e.key∧aD ρ μ a e.val∧gV ρ μ l es
 |_,_=>False
def amY:LS→LoopState→Prop
 |.ready,.ready|.busy,.busy|.done,.done|.exhausted,.exhausted=>True
 |_,_=>False
def ar2(P:Program)(nt:Nat)(pc:aA)(c:Code):Prop:=fZ P nt c=some pc
def QP(P:Program)(nt:Nat):Option aA→Option Code→Prop
 |none,none=>True
 |some pc,some c=>ar2 P nt pc c
 |_,_=>False
def R7(ks:List Key)(ts:List Nat):Prop:=ks.map Key.toNat=ts
structure ar3(P:Program)(f:Nat)(nt:Nat)(res:List RV):Prop where
 ex:∃ fn,P.funcs[f]?=some fn∧fn.ntmps=nt∧Pn P fn.ntmps fn.results.toList=some res
inductive DK(P:Program)(ρ:Nat→Int)(μ:Mu):ag→Loc→Obj→Prop
 |cells (L:List AV) (k:CK) (l:Loc) (arr:Array Value) (elem:TypeId) (fz:Nat×Nat)
   (hc:∀ i a,L[i]?=some a→∃ v,arr[l.base+i]?=some v∧aD ρ μ a v)
   (hs:l.base+l.ext≤arr.size) (hl:L.length≤l.ext) (hf:k≠.ro→fz=(0,0)) (he:k≠.part→L.length=l.ext) :
   DK P ρ μ (.cells L k) l (.cells arr elem fz)
 |map (L:List (AV×AV)) (l:Loc) (es:Array MapEntry) (clock:Nat) (h:lL ρ μ L es.toList) (hb:∀ (i:Nat) (e:MapEntry),es.toList[i]?=some e→e.born=i) (hc:clock=L.length):DK P ρ μ (.map L) l (.map es clock)
 |mapD (L:List (Nat×AV×AV)) (l:Loc) (es:Array MapEntry) (clock:Nat) (h:gV ρ μ L es.toList):DK P ρ μ (.mapD L clock) l (.map es clock)
 |iter (m:Key) (n:Nat) (seen:List Nat) (l lm:Loc) (sa:Array Nat) (h:μ m=some lm) (hs:sa.toList=seen) (hz:l.base=0):DK P ρ μ (.iter m n seen) l (.mapIter (some lm.c) n sa n)
 |loop (st:LS) (pd:Option aA) (fn nt:Nat) (tm:T AV) (res:List RV) (params:List Key) (as bd:aA) (dfs:Key) (ld:Loc) (l:Loc) (L:Loop)
   (h1:amY st L.state) (h2:∀ n,QP P n pd L.pending) (h3:L.fn=fn) (h4:jQ ρ μ nt tm L.tmps) (h5:R7 params L.params.toList)
   (h5':∀ k∈params,k.toNat<nt) (h6:ar2 P nt as L.assign) (h7:ar2 P nt bd L.body) (h8:μ dfs=some ld) (h9:L.defers=ld.c) (h10:ar3 P fn nt res) :
   DK P ρ μ (.loop st pd fn tm res params as bd dfs) l (.loop L)
 |dfs (taken:Bool) (l:Loc):DK P ρ μ (.dfs taken) l (.deferred (if taken then none else some []))
 |tok (l:Loc) (arr:Array Value) (elem:TypeId) (hs:l.base+l.ext≤arr.size):DK P ρ μ .tok l (.cells arr elem (0,0))
theorem jQ.mono{ρ:Nat→Int}{μ μ':Mu}(hm:μ.le μ'){nt:Nat}{tm:T AV}{tmps:Array Value}(h:jQ ρ μ nt tm tmps):jQ ρ μ' nt tm tmps:=
 ⟨h.1,fun k a ha=>let ⟨v,hv,hr⟩:=h.2 k a ha;⟨v,hv,hr.mono hm⟩⟩
theorem lL.mono{ρ:Nat→Int}{μ μ':Mu}(hm:μ.le μ'):∀ {l:List (AV×AV)} {es:List MapEntry},lL ρ μ l es→lL ρ μ' l es
 | [],[],_=>trivial
 |(_,_) ::_,_ ::_,h=>⟨h.1.mono hm,h.2.1.mono hm,lL.mono hm h.2.2⟩
 | [],_ ::_,h=>h.elim
 |(_,_) ::_,[],h=>h.elim
theorem gV.mono{ρ:Nat→Int}{μ μ':Mu}(hm:μ.le μ'):∀ {l:List (Nat×AV×AV)} {es:List MapEntry},gV ρ μ l es→gV ρ μ' l es
 | [],[],_=>trivial
 |(_,_,_) ::_,_ ::_,h=>⟨h.1,h.2.1.mono hm,h.2.2.1.mono hm,gV.mono hm h.2.2.2⟩
 | [],_ ::_,h=>h.elim
 |(_,_,_) ::_,[],h=>h.elim
theorem lL.length{ρ:Nat→Int}{μ:Mu}:∀ {l:List (AV×AV)} {es:List MapEntry},lL ρ μ l es→l.length=es.length
 | [],[],_=>rfl
 |(_,_) ::_,_ ::_,h=>by simp[lL.length h.2.2]
 | [],_ ::_,h=>h.elim
 |(_,_) ::_,[],h=>h.elim
theorem lL.stamps{ρ:Nat→Int}{μ:Mu}:∀ {l:List (AV×AV)} {es:List MapEntry} (n:Nat),lL ρ μ l es→(∀ (i:Nat) (e:MapEntry),es[i]?=some e→e.born=n+i)→gV ρ μ (akf n l) es
 | [],[],_,_,_=>trivial
 |(_,_) ::_,e ::es,n,h,hb=>⟨by simpa using hb 0 e (by simp),h.1,h.2.1,lL.stamps (n+1) h.2.2 fun i e' he=>by have:=hb (i+1) e' (by simpa using he);omega⟩
 | [],_ ::_,_,h,_=>h.elim
 |(_,_) ::_,[],_,h,_=>h.elim
theorem DK.mono{P:Program}{ρ:Nat→Int}{μ μ':Mu}(hm:μ.le μ'){B:ag}{l:Loc}{o:Obj}(h:DK P ρ μ B l o):DK P ρ μ' B l o:=by
 cases h with
 |cells L k l arr elem fz hc hs hl hf he=>
  exact .cells L k l arr elem fz (fun i a ha=>let ⟨v,hv,hr⟩:=hc i a ha;⟨v,hv,hr.mono hm⟩) hs hl hf he
 |map L l es clock h hb hc=>exact .map L l es clock (h.mono hm) hb hc
 |mapD L l es clock h=>exact .mapD L l es clock (h.mono hm)
 |iter m n seen l lm sa h hs hz=>exact .iter m n seen l lm sa (hm.l _ _ h) hs hz
 |loop st pd fn nt tm res params as bd dfs ld l L h1 h2 h3 h4 h5 h5' h6 h7 h8 h9 h10=>
  exact .loop st pd fn nt tm res params as bd dfs ld l L h1 h2 h3 (h4.mono hm) h5 h5' h6 h7 (hm.l _ _ h8) h9 h10
 |dfs taken l=>exact .dfs taken l
 |tok l arr elem hs=>exact .tok l arr elem hs
def ag.ro:ag→Prop
 |.cells _ .ro=>True
 |_=>False
def ag.lo(l:Loc):ag→Option Nat
 |.cells _ .ro=>none
 |.tok=>some l.base
 |_=>some 0
structure W0 extends World where
 z:Nat→Nat→Option Value
structure aP(P:Program)(ρ:Nat→Int)(w0:W0)(μ:Mu)(G:Key→Option ag)(nx:Nat)(w:World):Prop where
 oR:∀ b B,G b=some B→∃ l o,μ b=some l∧w.heap[l.c]?=some o∧DK P ρ μ B l o
 sep:∀ b b' B B' l l',G b=some B→G b'=some B'→μ b=some l→μ b'=some l'→b≠b'→l.c≠l'.c
 wR:∀ b l,μ b=some l→l.c<w.heap.size
 own:∀ b B l,G b=some B→μ b=some l→B.ro∨w0.heap.size≤l.c
 Nr:∀ k:Key,k.toNat<P.globals.size→∃ ext,μ k=some ⟨k.toNat,0,ext⟩
 new:∀ b l,μ b=some l→b.toNat<nx
 below:Below w0.heap.size w0.toWorld w
 UQ:∀ c i v,μ.fz c i=some v→∃ arr elem f,w.heap[c]?=some (.cells arr elem f)∧arr[i]?=some v
 fzf:∀ b B l n,G b=some B→μ b=some l→B.lo l=some n→∀ i,n≤i→μ.fz l.c i=none
 zle:∀ c i v,w0.z c i=some v→μ.fz c i=some v
 fzo:∀ c i v,μ.fz c i=some v→w0.heap.size≤c∨w0.z c i=some v
 rof:∀ b L l,G b=some (.cells L .ro)→μ b=some l→w0.heap.size≤l.c∨∀ arr e f i v,w.heap[l.c]?=some (.cells arr e f)→arr[i]?=some v→μ.fz l.c i=some v
 dr:w0.drawn≤w.drawn
def HSub(h:T ag)(G:Key→Option ag):Prop:=∀ b B,aa b h=some B→G b=some B
end Go.Sx
