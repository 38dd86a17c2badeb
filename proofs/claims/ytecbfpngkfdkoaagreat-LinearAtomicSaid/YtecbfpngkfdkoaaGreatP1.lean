/- A part of the proof. No condition. -/
import GoSem.Step
import Derived.Below
import Derived.Laws.Sem
import Derived.Laws.World
set_option linter.unusedSimpArgs false
set_option linter.unusedVariables false
set_option linter.unusedSectionVars false
namespace Go.Sx
theorem fE:type_of% @Nat.le_refl:=@Nat.le_refl
theorem pY:type_of% @List.getElem?_eq_getElem:=@List.getElem?_eq_getElem
theorem sF:type_of% @List.all_eq_true:=@List.all_eq_true
theorem o5:type_of% @Nat.eq_of_beq_eq_true:=@Nat.eq_of_beq_eq_true
theorem jq:type_of% @Bool.and_eq_true:=@Bool.and_eq_true
theorem DG:type_of% @List.length_append:=@List.length_append
theorem GP:type_of% @List.mem_cons:=@List.mem_cons
theorem Lm:type_of% @List.take_of_length_le:=@List.take_of_length_le
theorem ZW:type_of% @List.length_cons:=@List.length_cons
theorem ZS:type_of% @Array.getElem?_eq_none:=@Array.getElem?_eq_none
theorem zqk:type_of% @List.flatten_cons:=@List.flatten_cons
theorem O5:type_of% @Nat.lt_of_lt_of_le:=@Nat.lt_of_lt_of_le
theorem Wh:type_of% @Bool.false_eq_true:=@Bool.false_eq_true
theorem zqn:type_of% @Array.getElem?_setIfInBounds_ne:=@Array.getElem?_setIfInBounds_ne
theorem zqo:type_of% @List.getElem?_eq_none:=@List.getElem?_eq_none
theorem LA:type_of% @List.getElem_mem:=@List.getElem_mem
theorem zqq:type_of% @List.drop_append:=@List.drop_append
theorem zqr:type_of% @List.eq_nil_of_length_eq_zero:=@List.eq_nil_of_length_eq_zero
theorem KA:type_of% @Nat.lt_or_ge:=@Nat.lt_or_ge
theorem zqt:type_of% @List.drop_eq_getElem_cons:=@List.drop_eq_getElem_cons
theorem zqu:type_of% @List.take_succ_eq_append_getElem:=@List.take_succ_eq_append_getElem
theorem NI:type_of% @List.mem_map:=@List.mem_map
theorem zqw:type_of% @List.take_append:=@List.take_append
theorem ZC:type_of% @List.map_cons:=@List.map_cons
theorem UD:type_of% @List.length_take:=@List.length_take
theorem dP:type_of% @Option.some.injEq:=@Option.some.injEq
inductive Key where
 |z
 |o (k:Key)
 |e (k:Key)
def Key.toNat:Key→Nat
 |.z=>0
 |.o k=>2*k.toNat+1
 |.e k=>2*k.toNat+2
noncomputable def Key.succ(k:Key):Key:=
 Key.rec (.o .z) (fun k _=>.e k) (fun _ ih=>.o ih) k
def Key.fP:Nat→Nat→Key
 |0,_=>.z
 |f+1,n=>bif Nat.beq n 0 then .z else bif Nat.beq (n%2) 1 then .o (Key.fP f (n / 2))else .e (Key.fP f (n / 2-1))
def Key.beq:Key→Key→Bool
 |.z,.z=>true
 |.o a,.o b=>Key.beq a b
 |.e a,.e b=>Key.beq a b
 |_,_=>false
inductive T(α:Type) where
 |nil
 |node (v:Option α) (l r:T α)
noncomputable def ag{α:Type}(k:Key):T α→Option α:=
 Key.rec (fun t=>T.rec none (fun v _ _ _ _=>v) t) (fun _ ih t=>T.rec none (fun _ l _ _ _=>ih l) t)
  (fun _ ih t=>T.rec none (fun _ _ r _ _=>ih r) t) k
noncomputable def yL{α R:Type}(k:Key)(x:Option α):T α→(T α→R)→R:=
 Key.rec (fun t c=>T.rec (c (.node x .nil .nil)) (fun _ l r _ _=>c (.node x l r)) t)
  (fun _ ih t c=>T.rec (ih .nil fun l=>c (.node none l .nil)) (fun v l r _ _=>ih l fun l=>c (.node v l r)) t)
  (fun _ ih t c=>T.rec (ih .nil fun r=>c (.node none .nil r)) (fun v l r _ _=>ih r fun r=>c (.node v l r)) t) k
noncomputable def nth{α:Type}(n:Nat):List α→Option α:=
 Nat.rec (fun l=>List.rec none (fun x _ _=>some x) l) (fun _ ih l=>List.rec none (fun _ t _=>ih t) l) n
noncomputable def xT{α:Type}(n:Nat):List α→List α:=
 Nat.rec (fun l=>l) (fun _ ih l=>List.rec [] (fun _ t _=>ih t) l) n
noncomputable def AT{α R:Type}(n:Nat):List α→R→(List α→R)→R:=
 Nat.rec (fun _ _ c=>c []) (fun _ ih l bad c=>List.rec bad (fun x t _=>ih t bad fun r=>c (x ::r)) l) n
noncomputable def ahc{α R:Type}(vs:List α):List α→R→(List α→R)→R:=
 List.rec (fun l _ c=>c l) (fun v _ ih l bad c=>List.rec bad (fun _ t _=>ih t bad fun r=>c (v ::r)) l) vs
noncomputable def aag{α R:Type}(vs:List α)(off:Nat):List α→R→(List α→R)→R:=
 Nat.rec (fun l bad c=>ahc vs l bad c) (fun _ ih l bad c=>List.rec bad (fun x t _=>ih t bad fun r=>c (x ::r)) l) off
noncomputable def UU{α R:Type}(a b:List α)(c:List α→R):R:=
 List.rec (motive:=fun _=>(List α→R)→R) (fun c=>c b) (fun x _ ih c=>ih fun r=>c (x ::r)) a c
noncomputable def lenL{α:Type}(l:List α):Nat:=List.rec 0 (fun _ _ ih=>Nat.succ ih) l
noncomputable def KI{α:Type}(n:Nat)(zs:List α):List α→List α:=
 Nat.rec (fun acc=>acc) (fun _ ih acc=>UU zs (ih acc) fun r=>r) n
inductive SI where
 |lit (n:Int)
 |var (i:Nat)
 |bin (op:BinOp) (k:IntKind) (a b:SI)
inductive SF where
 |any
 |tok (b:Key)
inductive AV where
 |bool (b:Bool)
 |int (k:IntKind) (n:SI)
 |str (n c:Nat)
 |ptr (b:Key) (off:Nat)
 |nilp
 |slice (b:Key) (off len sz:Nat)
 |nils
 |map (b:Key)
 |nilm
 |fn (f:Nat) (first cap:List AV)
 |yld (l:Key)
 |nilf
 |iface (t:Nat) (v:AV)
 |nili
 |agg (l:List AV)
 |tuple (l:List AV)
 |sl (l:List AV) (len sz:Nat) (fl:SF)
 |cref (l:List AV)
def AV.cells:AV→List AV
 |.agg l=>l
 |v=>[v]
def AV.aM:AV→Bool
 |.agg _=>false
 |.tuple _=>false
 |_=>true
def eqI:Int→Int→Bool
 |.ofNat a,.ofNat b=>Nat.beq a b
 |.negSucc a,.negSucc b=>Nat.beq a b
 |_,_=>false
def Wm:Int→Int→Bool
 |.ofNat a,.ofNat b=>Nat.blt a b
 |.negSucc a,.negSucc b=>Nat.blt b a
 |.negSucc _,.ofNat _=>true
 |.ofNat _,.negSucc _=>false
def NR:BinOp→BinOp→Bool
 |.add,.add|.sub,.sub|.mul,.mul|.quo,.quo|.rem,.rem|.lss,.lss|.leq,.leq|.gtr,.gtr|.geq,.geq|.eql,.eql|.neq,.neq=>true
 |_,_=>false
def beqKind:IntKind→IntKind→Bool
 |.i8,.i8|.i16,.i16|.i32,.i32|.i64,.i64|.u8,.u8|.u16,.u16|.u32,.u32|.u64,.u64=>true
 |_,_=>false
def SI.beq:SI→SI→Bool
 |.lit a,.lit b=>eqI a b
 |.var i,.var j=>Nat.beq i j
 |.bin o k a b,.bin o' k' a' b'=>NR o o'&&beqKind k k'&&SI.beq a a'&&SI.beq b b'
 |_,_=>false
def SF.beq:SF→SF→Bool
 |.any,.any=>true
 |.tok a,.tok b=>Key.beq a b
 |_,_=>false
mutual
def AV.beq:AV→AV→Bool
 |.bool a,.bool b=>a==b
 |.int k a,.int k' b=>beqKind k k'&&SI.beq a b
 |.str n c,.str n' c'=>Nat.beq n n'&&Nat.beq c c'
 |.ptr b o,.ptr b' o'=>Key.beq b b'&&Nat.beq o o'
 |.nilp,.nilp=>true
 |.slice b o l s,.slice b' o' l' s'=>Key.beq b b'&&Nat.beq o o'&&Nat.beq l l'&&Nat.beq s s'
 |.nils,.nils=>true
 |.map b,.map b'=>Key.beq b b'
 |.nilm,.nilm=>true
 |.fn f a c,.fn f' a' c'=>Nat.beq f f'&&AV.II a a'&&AV.II c c'
 |.yld l,.yld l'=>Key.beq l l'
 |.nilf,.nilf=>true
 |.iface t v,.iface t' v'=>Nat.beq t t'&&AV.beq v v'
 |.nili,.nili=>true
 |.agg l,.agg l'=>AV.II l l'
 |.tuple l,.tuple l'=>AV.II l l'
 |.sl l n z f,.sl l' n' z' f'=>AV.II l l'&&Nat.beq n n'&&Nat.beq z z'&&SF.beq f f'
 |.cref l,.cref l'=>AV.II l l'
 |_,_=>false
def AV.II:List AV→List AV→Bool
 | [],[]=>true
 |a ::l,b ::m=>AV.beq a b&&AV.II l m
 |_,_=>false
end
def full:IntKind→Int
 |.i8|.u8=>256
 |.i16|.u16=>65536
 |.i32|.u32=>4294967296
 |.i64|.u64=>18446744073709551616
def half:IntKind→Int
 |.i8=>128
 |.i16=>32768
 |.i32=>2147483648
 |.i64=>9223372036854775808
 |.u8=>256
 |.u16=>65536
 |.u32=>4294967296
 |.u64=>18446744073709551616
def bD(k:IntKind)(n:Int):Int:=
 bif Wm (Int.emod n (full k)) (half k)then Int.emod n (full k)else Int.sub (Int.emod n (full k)) (full k)
inductive PX where
 |t (k:Key)
 |v (a:AV)
inductive Nx where
 |bool
 |int
 |str
 |ptr
 |iface
 |slice
 |func
 |map
 |parts (l:List (Nat×Nx))
inductive Lr where
 |mov (x:PX)
 |pick (c a b:PX)
 |new (zs:List AV)
 |box (x:PX)
 |build (zs:List AV) (parts:List (Nat×Nat×PX))
 |bslice (sz len:Nat) (zs:List AV) (parts:List (Nat×Nat×PX))
 |load (agg:Bool) (n:Nat) (a:PX)
 |store (n:Nat) (a v:PX)
 |nilc (x:PX)
 |bin (op:BinOp) (x y:PX)
 |eq (neg:Bool) (p:Nx) (x y:PX)
 |un (op:UnOp) (x:PX)
 |cint (k:IntKind) (x:PX)
 |mkif (t:Nat) (x:PX)
 |mkfn (f:Nat) (first cap:List PX)
 |mkmap
 |mkslice (sz:Nat) (zs:List AV) (l c:PX)
 |sliceS (x:PX) (lo hi:Option PX)
 |sliceL (sz:Nat) (x:PX) (lo hi:Option PX)
 |fieldA (off:Nat) (x:PX)
 |field (agg:Bool) (off n:Nat) (x:PX)
 |indexA (len sz:Nat) (x i:PX)
 |indexL (sz:Nat) (x i:PX)
 |indexS (x i:PX)
 |indexV (len:Nat) (agg:Bool) (sz:Nat) (x i:PX)
 |lookup (sk:Bool) (zero:AV) (ok:Bool) (m k:PX)
 |mapupd (sk:Bool) (m k v:PX)
 |strb (x:PX)
 |assert (t:Nat) (zero:AV) (ok:Bool) (x:PX)
 |extract (x:PX) (i:Nat)
 |callF (f:Nat) (args:List PX)
 |callV (v:PX) (args:List PX)
 |lenS (x:PX)
 |lenL (x:PX)
 |append (sz:Nat) (s x:PX)
 |mx (isMax:Bool) (a b:PX)
 |dfr (v:PX) (args:List PX)
 |panic (x:PX)
 |recover
structure aC where
 dst:Option Key
 op:Lr
 guard:Option (Key×Bool)
inductive aN where
 |L (i:Nat) (o:aC)
 |A (i:Nat) (o:aC)
 |H (i:Nat) (o:aC) (Gk:List Nat)
 |R (os:List (Nat×aC))
structure SD where
 ds:List Key
 jK:List (Nat×List Nat)
inductive aK where
 |skip
 |ops (l:List aC)
 |staged (l:List aN) (jm:SD)
 |both (l1:List aN) (d1:SD) (l2:List aN) (d2:SD)
 |seq (a b:aK)
 |cond (c:PX) (a b:aK)
 |block (id:Nat) (c:aK)
 |loop (c:aK)
 |rangeF (f:PX) (params:List Key) (assign body:aK)
 |exit (id:Nat)
 |ret
inductive RV where
 |tmp (k:Key)
 |cell (k:Key) (agg:Bool) (n:Nat)
structure fq where
 body:aK
 res:List RV
inductive LS where
 |ready|busy|done|exhausted
inductive CK where
 |fix|ro|part|rop
inductive ah where
 |cells (l:List AV) (k:CK)
 |map (l:List (AV×AV))
 |loop (st:LS) (pending:Option aK) (fn:Nat) (tm:T AV) (res:List RV) (params:List Key) (assign body:aK) (dfs:Key)
 |dfs (taken:Bool)
 |tok
inductive de where
 |code (c:aK)
 |inBlock (id:Nat)
 |inLoop (c:aK)
 |ops (l:List aC)
 |staged (l:List aN) (jm:SD) (av:List (Nat×Key×ah))
 |inRF (l:Key)
 |endRF (l:Key)
 |beginRound
inductive alj where
 |run
 |ret
 |pan (v:AV) (recovered:Bool)
inductive Xu where
 |fn (f:Nat) (args:List AV)
 |coll (b:Key)
structure mB where
 fn:Nat
 tm:T AV
 todo:List de
 dfs:List Xu
 mode:alj
 GG:Bool
 vm:Option Key
 res:List RV
structure AM where
 fr:mB
 cs:List mB
 h:T ah
 nx:Key
inductive OR where
 |val (v:AV) (h:T ah) (nx:Key)
 |call (f:Nat) (args:List AV)
 |yld (l:Key) (args:List AV)
 |pan (v:AV)
 |dfr (f:Nat) (args:List AV)
 |recover
 |bad (why:Nat)
abbrev iV:=List (BinOp×SI×SI×Bool)
def iV.ask(op:BinOp)(a b:SI):iV→Option Bool
 | []=>none
 |(o,x,y,r) ::l=>bif NR o op&&SI.beq x a&&SI.beq y b then some r else iV.ask op a b l
noncomputable def PX.at(x:PX)(tm:T AV):Option AV:=
 match x with
 |.t k=>ag k tm
 |.v a=>some a
noncomputable def atAll(tm:T AV):List PX→Option (List AV)
 | []=>some []
 |x ::l=>match x.at tm with
  |none=>none
  |some a=>match atAll tm l with
   |none=>none
   |some r=>some (a ::r)
def Q7(k:IntKind)(n:Int):Nat:=Int.toNat (Int.emod n (full k))
def arith(op:BinOp)(k:IntKind)(a b:SI):Option SI:=
 match a,b with
 |.lit x,.lit y=>match op with
  |.add=>some (.lit (bD k (Int.add x y)))
  |.sub=>some (.lit (bD k (Int.sub x y)))
  |.mul=>some (.lit (bD k (Int.mul x y)))
  |.quo=>bif eqI y 0 then none else some (.lit (bD k (Int.tdiv x y)))
  |.rem=>bif eqI y 0 then none else some (.lit (Int.tmod x y))
  |.xor=>match k,x,y with
   |.u64,.ofNat m,.ofNat n=>some (.lit (Int.emod (.ofNat (Nat.xor m n)) 18446744073709551616))
   |k,x,y=>some (.lit (bD k (.ofNat (Nat.xor (Q7 k x) (Q7 k y)))))
  |.or=>match k,x,y with
   |.u64,.ofNat m,.ofNat n=>some (.lit (Int.emod (.ofNat (Nat.lor m n)) 18446744073709551616))
   |k,x,y=>some (.lit (bD k (.ofNat (Nat.lor (Q7 k x) (Q7 k y)))))
  |.and=>match k,x,y with
   |.u64,.ofNat m,.ofNat n=>some (.lit (Int.emod (.ofNat (Nat.land m n)) 18446744073709551616))
   |k,x,y=>some (.lit (bD k (.ofNat (Nat.land (Q7 k x) (Q7 k y)))))
  |_=>none
 |_,_=>match op with
  |.add|.sub|.mul=>some (.bin op k a b)
  |_=>none
def IJ(orc:iV)(op:BinOp)(a b:SI):Option Bool:=
 match a,b with
 |.lit x,.lit y=>match op with
  |.eql=>some (eqI x y)
  |.neq=>some (!(eqI x y))
  |.lss=>some (Wm x y)
  |.leq=>some (!(Wm y x))
  |.gtr=>some (Wm y x)
  |.geq=>some (!(Wm x y))
  |_=>none
 |_,_=>bif SI.beq a b then(match op with
  |.eql|.leq|.geq=>some true
  |.neq|.lss|.gtr=>some false
  |_=>none)else orc.ask op a b
def isCmp:BinOp→Bool
 |.eql|.neq|.lss|.leq|.gtr|.geq=>true
 |_=>false
def ltS:Nat→Nat→Nat→Nat→Bool
 |0,_,m,_=>bif Nat.beq m 0 then false else true
 |n+1,c,m,d=>
  bif Nat.beq m 0 then false
  else bif Nat.blt (c%256) (d%256)then true
  else bif Nat.beq (c%256) (d%256)then ltS n (c / 256) (m-1) (d / 256)else false
def opS(op:BinOp)(n c m d:Nat):Option AV:=
 match op with
 |.add=>bif Nat.ble (n+m) 4611686018427387904 then some (.str (n+m) (c+Nat.shiftLeft d (8*n)))else none
 |.eql=>some (.bool (Nat.beq n m&&Nat.beq c d))
 |.neq=>some (.bool (!(Nat.beq n m&&Nat.beq c d)))
 |.lss=>some (.bool (ltS n c m d))
 |.leq=>some (.bool (!(ltS m d n c)))
 |.gtr=>some (.bool (ltS m d n c))
 |.geq=>some (.bool (!(ltS n c m d)))
 |_=>none
def aFE(c lo hi:Nat):AV:=.str (hi-lo) (Nat.mod (Nat.shiftRight c (8*lo)) (Nat.pow 2 (8*(hi-lo))))
mutual
noncomputable def jM(orc:iV):Nx→AV→AV→Option Bool
 |.bool,.bool a,.bool b=>some (a==b)
 |.int,.int k a,.int k' b=>bif beqKind k k' then IJ orc .eql a b else none
 |.str,.str n c,.str m d=>some (Nat.beq n m&&Nat.beq c d)
 |.ptr,.nilp,.nilp=>some true
 |.ptr,.nilp,.ptr _ _=>some false
 |.ptr,.ptr _ _,.nilp=>some false
 |.ptr,.ptr b o,.ptr b' o'=>bif Key.beq b b' then some (Nat.beq o o')else none
 |.ptr,.nilp,.cref _=>some false
 |.ptr,.cref _,.nilp=>some false
 |.iface,.nili,.nili=>some true
 |.iface,.nili,.iface _ _=>some false
 |.iface,.iface _ _,.nili=>some false
 |.slice,.nils,.nils=>some true
 |.slice,.nils,.slice _ _ _ _=>some false
 |.slice,.slice _ _ _ _,.nils=>some false
 |.slice,.nils,.sl _ _ _ _=>some false
 |.slice,.sl _ _ _ _,.nils=>some false
 |.func,.nilf,.nilf=>some true
 |.func,.nilf,.fn _ _ _=>some false
 |.func,.fn _ _ _,.nilf=>some false
 |.map,.nilm,.nilm=>some true
 |.map,.nilm,.map _=>some false
 |.map,.map _,.nilm=>some false
 |.parts l,.agg a,.agg b=>db orc l a b
 |_,_,_=>none
noncomputable def db(orc:iV):List (Nat×Nx)→List AV→List AV→Option Bool
 | [],_,_=>some true
 |(off,p) ::l,a,b=>
  match nth off a,nth off b with
  |some x,some y=>match jM orc p x y with
   |some true=>db orc l a b
   |some false=>some false
   |none=>none
  |_,_=>none
end
noncomputable def L5(tm:T AV):List (Nat×Nat×PX)→List AV→Option (List AV)
 | [],cs=>some cs
 |(off,size,x) ::r,cs=>
  match x.at tm with
  |none=>none
  |some v=>bif Nat.beq (lenL v.cells) size then aag v.cells off cs none (fun cs=>L5 tm r cs)else none
noncomputable def y8(agg:Bool)(off n:Nat)(l:List AV):Option AV:=
 bif agg then AT n (xT off l) none (fun r=>some (.agg r))else nth off l
def keyEq(orc:iV)(sk:Bool):AV→AV→Option Bool
 |.int k a,.int k' b=>bif beqKind k k' && !sk then IJ orc .eql a b else none
 |.str n c,.str m d=>bif sk then some (Nat.beq n m&&Nat.beq c d)else none
 |_,_=>none
def findK(orc:iV)(sk:Bool)(k:AV):List (AV×AV)→Option (Option AV)
 | []=>some none
 |(a,v) ::l=>match keyEq orc sk k a with
  |some true=>some (some v)
  |some false=>findK orc sk k l
  |none=>none
def setK(orc:iV)(sk:Bool)(k x:AV):List (AV×AV)→Option (List (AV×AV))
 | []=>some [(k,x)]
 |(a,v) ::l=>match keyEq orc sk k a with
  |some true=>some ((k,x) ::l)
  |some false=>match setK orc sk k x l with
   |some r=>some ((a,v) ::r)
   |none=>none
  |none=>none
def xU:AV→Bool
 |.bool _|.int _ _|.str _ _=>true
 |_=>false
noncomputable def newB(v:Key→AV)(b:ah)(h:T ah)(nx:Key):OR:=
 yL nx (some b) h fun h=>.val (v nx) h nx.succ
def qL:AV→Option Nat
 |.int _ (.lit (.ofNat n))=>some n
 |_=>none
noncomputable def mF(tm:T AV)(aqA:Nat):Option PX→Option Nat
 |none=>some aqA
 |some x=>match x.at tm with
  |none=>none
  |some v=>qL v
def bytesOf:Nat→Nat→List AV
 |0,_=>[]
 |n+1,c=>.int .u8 (.lit (.ofNat (c%256))) ::bytesOf n (c / 256)
noncomputable def allocOp(op:Lr)(tm:T AV):Option ((Key→AV)×ah):=
 match op with
 |.new zs=>some (fun b=>.ptr b 0,.cells zs .fix)
 |.box x=>match x.at tm with
  |some v=>some (fun b=>.ptr b 0,.cells v.cells .fix)
  |none=>none
 |.bslice sz len zs parts=>match L5 tm parts (KI len zs [])with
  |some cs=>some (fun b=>.slice b 0 len sz,.cells cs .fix)
  |none=>none
 |.mkmap=>some (fun b=>.map b,.map [])
 |.mkslice sz zs l c=>match l.at tm,c.at tm with
  |some l,some c=>match qL l,qL c with
   |some l,some c=>bif Nat.ble l c&&Nat.ble c 1048576 then some (fun b=>.slice b 0 l sz,.cells (KI c zs []) .fix)else none
   |_,_=>none
  |_,_=>none
 |_=>none
noncomputable def loadB(h:T ah)(b:Key)(agg:Bool)(off n:Nat):Option AV:=
 match ag b h with
 |some (.cells l _)=>y8 agg off n l
 |_=>none
def NS(k:IntKind)(n:Nat):Bool:=match k with
 |.i64|.u64=>Nat.ble n 64
 |.i32|.u32=>Nat.ble n 32
 |.i16|.u16=>Nat.ble n 16
 |.i8|.u8=>Nat.ble n 8
noncomputable def lightOp(orc:iV)(op:Lr)(tm:T AV)(h:T ah):Option AV:=
 match op with
 |.mov x=>x.at tm
 |.pick c a b=>match c.at tm with
  |some (.bool true)=>a.at tm
  |some (.bool false)=>b.at tm
  |_=>none
 |.build zs parts=>match L5 tm parts zs with
  |some cs=>some (.agg cs)
  |none=>none
 |.load agg n a=>match a.at tm with
  |some (.ptr b off)=>loadB h b agg off n
  |some (.cref l)=>y8 agg 0 n l
  |_=>none
 |.nilc x=>match x.at tm with
  |some (.ptr b o)=>some (.ptr b o)
  |some (.cref l)=>some (.cref l)
  |some (.fn f a c)=>some (.fn f a c)
  |some (.yld l)=>some (.yld l)
  |some (.iface t v)=>some (.iface t v)
  |_=>none
 |.bin op x y=>match x.at tm,y.at tm with
  |some (.int k a),some (.int k' b)=>
   match op with
   |.shl=>match a,b with
    |.lit a,.lit (.ofNat n)=>bif NS k n then some (.int k (.lit (bD k (Int.mul a (.ofNat (Nat.pow 2 n))))))else none
    |_,_=>none
   |.shr=>match a,b with
    |.lit (.ofNat a),.lit (.ofNat n)=>bif NS k n then some (.int k (.lit (.ofNat (Nat.div a (Nat.pow 2 n)))))else none
    |.lit (.negSucc a),.lit (.ofNat n)=>bif NS k n then some (.int k (.lit (.negSucc (Nat.div a (Nat.pow 2 n)))))else none
    |_,_=>none
   |op=>bif beqKind k k' then
     (bif isCmp op then(match IJ orc op a b with|some r=>some (.bool r)|none=>none)
     else(match arith op k a b with|some r=>some (.int k r)|none=>none))
    else none
  |some (.str n c),some (.str m d)=>opS op n c m d
  |_,_=>none
 |.eq neg p x y=>match x.at tm,y.at tm with
  |some a,some b=>match jM orc p a b with
   |some r=>some (.bool (bif neg then !r else r))
   |none=>none
  |_,_=>none
 |.un op x=>match op,x.at tm with
  |.not,some (.bool b)=>some (.bool (!b))
  |.neg,some (.int k a)=>match arith .sub k (.lit 0) a with
   |some r=>some (.int k r)
   |none=>none
  |_,_=>none
 |.cint k x=>match x.at tm with
  |some (.int _ (.lit n))=>some (.int k (.lit (bD k n)))
  |_=>none
 |.mkif t x=>match x.at tm with
  |some v=>some (.iface t v)
  |none=>none
 |.mkfn f first cap=>match atAll tm first,atAll tm cap with
  |some a,some c=>some (.fn f a c)
  |_,_=>none
 |.sliceS x lo hi=>match x.at tm with
  |some (.str n c)=>match mF tm 0 lo,mF tm n hi with
   |some l,some r=>bif Nat.ble l r&&Nat.ble r n then some (aFE c l r)else none
   |_,_=>none
  |_=>none
 |.sliceL sz x lo hi=>match x.at tm with
  |some (.slice b off len Lo)=>match mF tm 0 lo,mF tm len hi with
   |some l,some r=>bif Nat.ble l r&&Nat.ble r len&&Nat.beq sz Lo then some (.slice b (off+l*sz) (r-l) sz)else none
   |_,_=>none
  |some .nils=>match mF tm 0 lo,mF tm 0 hi with
   |some l,some r=>bif Nat.beq l 0&&Nat.beq r 0 then some .nils else none
   |_,_=>none
  |some (.sl cs len Lo fl)=>match mF tm 0 lo,mF tm len hi with
   |some l,some r=>bif Nat.ble l r&&Nat.ble r len&&Nat.beq sz Lo then
     AT ((r-l)*sz) (xT (l*sz) cs) none (fun cs=>some (.sl cs (r-l) sz (bif Nat.beq r len then fl else .any)))else none
   |_,_=>none
  |_=>none
 |.fieldA off x=>match x.at tm with
  |some (.ptr b o)=>some (.ptr b (o+off))
  |some (.cref l)=>some (.cref (xT off l))
  |_=>none
 |.field agg off n x=>match x.at tm with
  |some (.agg l)=>y8 agg off n l
  |_=>none
 |.indexA len sz x i=>match x.at tm,i.at tm with
  |some (.ptr b o),some v=>match qL v with
   |some j=>bif Nat.blt j len then some (.ptr b (o+j*sz))else none
   |none=>none
  |some (.cref l),some v=>match qL v with
   |some j=>bif Nat.blt j len then some (.cref (xT (j*sz) l))else none
   |none=>none
  |_,_=>none
 |.indexL sz x i=>match x.at tm,i.at tm with
  |some (.slice b off len Lo),some v=>match qL v with
   |some j=>bif Nat.blt j len&&Nat.beq sz Lo then some (.ptr b (off+j*sz))else none
   |none=>none
  |some (.sl l len Lo _),some v=>match qL v with
   |some j=>bif Nat.blt j len&&Nat.beq sz Lo then AT sz (xT (j*sz) l) none (fun r=>some (.cref r))else none
   |none=>none
  |_,_=>none
 |.indexS x i=>match x.at tm,i.at tm with
  |some (.str n c),some v=>match qL v with
   |some j=>bif Nat.blt j n then some (.int .u8 (.lit (.ofNat (Nat.mod (Nat.shiftRight c (8*j)) 256))))else none
   |none=>none
  |_,_=>none
 |.indexV len agg sz x i=>match x.at tm,i.at tm with
  |some (.agg l),some v=>match qL v with
   |some j=>bif Nat.blt j len then y8 agg (j*sz) sz l else none
   |none=>none
  |_,_=>none
 |.lookup sk zero ok m k=>match m.at tm,k.at tm with
  |some (.map b),some k=>match ag b h with
   |some (.map l)=>match findK orc sk k l with
    |some (some v)=>some (bif ok then .tuple [v,.bool true]else v)
    |some none=>some (bif ok then .tuple [zero,.bool false]else zero)
    |none=>none
   |_=>none
  |_,_=>none
 |.assert t zero ok x=>match x.at tm with
  |some (.iface t' v)=>bif ok then(bif Nat.beq t t' then some (.tuple [v,.bool true])else some (.tuple [zero,.bool false]))
    else(bif Nat.beq t t' then some v else none)
  |_=>none
 |.extract x i=>match x.at tm with
  |some (.tuple l)=>nth i l
  |_=>none
 |.lenS x=>match x.at tm with
  |some (.str n _)=>some (.int .i64 (.lit (.ofNat n)))
  |_=>none
 |.lenL x=>match x.at tm with
  |some (.slice _ _ n _)=>some (.int .i64 (.lit (.ofNat n)))
  |some (.sl _ n _ _)=>some (.int .i64 (.lit (.ofNat n)))
  |some .nils=>some (.int .i64 (.lit (.ofNat 0)))
  |_=>none
 |.mx isMax a b=>match a.at tm,b.at tm with
  |some (.int k x),some (.int k' y)=>bif beqKind k k' then(match IJ orc (bif isMax then .gtr else .lss) y x with
   |some true=>some (.int k y)
   |some false=>some (.int k x)
   |none=>none)else none
  |_,_=>none
 |_=>none
noncomputable def LM{R:Type}(g:AV→T ah→(AV→T ah→R)→R)(l:List AV):T ah→(List AV→T ah→R)→R:=
 List.rec (fun h c=>c [] h) (fun v _ ih h c=>g v h fun v h=>ih h fun r h=>c (v ::r) h) l
noncomputable def Cx{R:Type}(ih:AV→T ah→(AV→T ah→R)→R)(v:AV)(h:T ah)(c:AV→T ah→R):R:=
 match v with
 |.slice b off len sz=>match ag b h with
  |some (.cells l .fix)=>AT (len*sz) (xT off l) (c v h) fun cs=>yL b (some (.cells l .ro)) h fun h=>LM ih cs h fun cs h=>c (.sl cs len sz .any) h
  |some (.cells l .ro)=>AT (len*sz) (xT off l) (c v h) fun cs=>LM ih cs h fun cs h=>c (.sl cs len sz .any) h
  |some (.cells l .part)=>AT (len*sz) (xT off l) (c v h) fun cs=>yL b (some (.cells l .rop)) h fun h=>LM ih cs h fun cs h=>c (.sl cs len sz .any) h
  |some (.cells l .rop)=>AT (len*sz) (xT off l) (c v h) fun cs=>LM ih cs h fun cs h=>c (.sl cs len sz .any) h
  |_=>c v h
 |.sl l len sz _=>c (.sl l len sz .any) h
 |.agg cs=>LM ih cs h fun cs h=>c (.agg cs) h
 |v=>c v h
noncomputable def ZM{R:Type}(n:Nat):AV→T ah→(AV→T ah→R)→R:=
 Nat.rec (fun v h c=>c v h) (fun _ ih v h c=>Cx ih v h c) n
def Jb(sz:Nat):Bool:=Nat.beq sz 10||Nat.beq sz 8||Nat.beq sz 4
noncomputable def appendTo(sz:Nat)(s:AV)(new:List AV)(m:Nat)(h:T ah)(nx:Key):OR:=
 match s with
 |.nils=>bif Nat.beq m 0 then .val .nils h nx else bif Nat.ble m 1048576 then yL nx (some (.cells new .part)) h fun h=>.val (.slice nx 0 m sz) h nx.succ else .bad 25
 |.sl l len Lo fl=>bif Nat.beq m 0 then .val (.sl l len Lo fl) h nx else bif Nat.beq sz Lo&&Nat.ble (len+m) 1048576&&new.all AV.aM then
  (match fl with
  |.any=>.bad 11
  |.tok b=>match ag b h with
   |some .tok=>UU l new fun r=>yL b none h fun h=>yL nx (some .tok) h fun h=>.val (.sl r (len+m) sz (.tok nx)) h nx.succ
   |_=>.bad 15)else .bad 11
 |.slice b off len Lo=>bif Nat.beq sz Lo&&Nat.ble (len+m) 1048576&&new.all AV.aM then
  (match ag b h with
  |some (.cells l .fix)=>
   bif Nat.ble (off+(len+m)*sz) (lenL l)then
    aag new (off+len*sz) l (.bad 12) (fun l=>yL b (some (.cells l .fix)) h fun h=>.val (.slice b off (len+m) sz) h nx)
   else AT (len*sz) (xT off l) (.bad 14) (fun Wq=>LM (ZM 9999) Wq h fun Wq h=>UU Wq new (fun r=>yL nx (some (.cells r .part)) h fun h=>.val (.slice nx 0 (len+m) sz) h nx.succ))
  |some (.cells l .ro)=>
   bif Nat.ble (off+(len+m)*sz) (lenL l)then .bad 13
   else AT (len*sz) (xT off l) (.bad 14) (fun Wq=>LM (ZM 9999) Wq h fun Wq h=>UU Wq new (fun r=>yL nx (some (.cells r .part)) h fun h=>.val (.slice nx 0 (len+m) sz) h nx.succ))
  |some (.cells l .part)=>
   bif Nat.beq m 0 then .val (.slice b off len Lo) h nx
   else bif (Nat.beq off 0 || !Jb sz)&&Nat.beq (off+len*sz) (lenL l)then
    (bif Jb sz then UU l new fun r=>yL b none h fun h=>yL nx (some (.cells r .part)) h fun h=>.val (.slice nx 0 (len+m) sz) h nx.succ
    else UU (xT off l) new fun r=>yL b none h fun h=>yL nx (some .tok) h fun h=>.val (.sl r (len+m) sz (.tok nx)) h nx.succ)
   else .bad 26
  |_=>.bad 15)else .bad 11
 |_=>.bad 16
def okV(h:T ah)(nx:Key):Option AV→OR
 |some v=>.val v h nx
 |none=>.bad 1
noncomputable def aOp(orc:iV)(op:Lr)(tm:T AV)(h:T ah)(nx:Key):OR:=
 match op with
 |.new _|.box _|.bslice _ _ _ _|.mkmap|.mkslice _ _ _ _=>match allocOp op tm with
  |some (v,b)=>newB v b h nx
  |none=>.bad 2
 |.store n a v=>match a.at tm,v.at tm with
  |some (.ptr b off),some v=>bif Nat.beq (lenL v.cells) n&&v.cells.all AV.aM then
    (match ag b h with
    |some (.cells _ .ro)=>.bad 4
    |some (.cells _ .rop)=>.bad 4
    |some (.cells l g)=>aag v.cells off l (.bad 4) (fun l=>yL b (some (.cells l g)) h fun h=>.val (.tuple []) h nx)
    |_=>.bad 5)
   else .bad 6
  |_,_=>.bad 3
 |.mapupd sk m k v=>match m.at tm,k.at tm,v.at tm with
  |some (.map b),some k,some v=>match ag b h with
   |some (.map l)=>match setK orc sk k v l with
    |some l=>yL b (some (.map l)) h fun h=>.val (.tuple []) h nx
    |none=>.bad 7
   |_=>.bad 8
  |_,_,_=>.bad 9
 |.strb x=>match x.at tm with
  |some (.str n c)=>.val (.sl (bytesOf n c) n 1 .any) h nx
  |_=>.bad 69
 |.append sz s x=>match s.at tm,x.at tm with
  |some s,some .nils=>appendTo sz s [] 0 h nx
  |some s,some (.slice b off len Lo)=>bif Nat.beq sz Lo then(match ag b h with
   |some (.cells l _)=>AT (len*sz) (xT off l) (.bad 17) (fun new=>LM (ZM 9999) new h fun new h=>appendTo sz s new len h nx)
   |_=>.bad 18)else .bad 19
  |some s,some (.sl l len Lo _)=>bif Nat.beq sz Lo then appendTo sz s l len h nx else .bad 19
  |some s,some (.str n c)=>bif Nat.beq sz 1 then appendTo sz s (bytesOf n c) n h nx else .bad 20
  |_,_=>.bad 10
 |.callF f args=>match atAll tm args with
  |some l=>.call f l
  |none=>.bad 21
 |.callV v args=>match v.at tm,atAll tm args with
  |some (.fn f first cap),some l=>.call f (first++l++cap)
  |some (.yld k),some l=>.yld k l
  |_,_=>.bad 22
 |.dfr v args=>match v.at tm,atAll tm args with
  |some (.fn f first cap),some l=>.dfr f (first++l++cap)
  |_,_=>.bad 23
 |.panic x=>match x.at tm with
  |some (.iface t v)=>.pan (.iface t v)
  |_=>.bad 24
 |.recover=>.recover
 |op=>okV h nx (lightOp orc op tm h)
noncomputable def cD(g:Option (Key×Bool))(tm:T AV):Option Bool:=
 match g with
 |none=>some true
 |some (k,want)=>match ag k tm with
  |some (.bool b)=>some (b==want)
  |some (.tuple [])=>some false
  |_=>none
noncomputable def zi{R:Type}(d:Option Key)(v:Option AV)(tm:T AV)(c:T AV→R):R:=
 match d with
 |none=>c tm
 |some k=>yL k v tm c
inductive SR where
 |next (m:AM)
 |done (f:Nat) (v:AV) (h:T ah) (nx:Key)
 |pan (v:AV) (h:T ah) (nx:Key)
 |bad (why:Nat) (m:AM)
 |alt (a b:AM)
structure bP where
 orc:iV
 fns:T fq
 sum:Nat→List AV→T ah→Key→Option (AV×T ah×Key)
 raw:Nat→Bool
 ma:Nat→Bool
inductive RR where
 |fin (tm:T AV) (h:T ah) (nx:Key)
 |ev (r:OR) (rest:List aC) (tm:T AV) (h:T ah) (nx:Key)
noncomputable def kJ(orc:iV)(l:List aC):T AV→T ah→Key→RR:=
 List.rec (fun tm h nx=>.fin tm h nx)
  (fun o rest ih tm h nx=>match cD o.guard tm with
   |none=>.ev (.bad 30) (o ::rest) tm h nx
   |some false=>zi o.dst (some (.tuple [])) tm fun tm=>ih tm h nx
   |some true=>match aOp orc o.op tm h nx with
    |.val v h nx=>zi o.dst (some v) tm fun tm=>ih tm h nx
    |r=>.ev r (o ::rest) tm h nx) l
def memN(i:Nat):List Nat→Bool
 | []=>false
 |j ::l=>bif Nat.beq i j then true else memN i l
noncomputable def Gk{R:Type}(l:List Nat)(p:List (Nat×Key×ah)):T ah→(List (Nat×Key×ah)→T ah→R)→R:=
 List.rec (fun h c=>c [] h)
  (fun x _ ih h c=>bif memN x.1 l then yL x.2.1 (some x.2.2) h fun h=>ih h c else ih h fun p h=>c (x ::p) h) p
noncomputable def GQ{R:Type}(p:List (Nat×Key×ah)):T ah→(T ah→R)→R:=
 List.rec (fun h c=>c h) (fun x _ ih h c=>yL x.2.1 (some x.2.2) h fun h=>ih h c) p
def FO(i:Nat):List (Nat×List Nat)→List Nat
 | []=>[]
 |(j,l) ::r=>bif Nat.beq i j then l else FO i r
noncomputable def zj(l:List Nat)(av:List (Nat×Key×ah))(h:T ah):T ah:=match l with
 | []=>h
 |l=>Gk l av h fun _ h=>h
noncomputable def recheck(orc:iV)(jK:List (Nat×List Nat))(av:List (Nat×Key×ah))(tm:T AV)(h:T ah):List (Nat×aC)→Bool
 | []=>true
 |(i,o) ::l=>match cD o.guard tm with
  |some false=>match o.dst with
   |none=>false
   |some d=>match ag d tm with
    |some (.tuple [])=>recheck orc jK av tm h l
    |_=>false
  |some true=>match o.dst with
   |none=>false
   |some d=>match ag d tm,lightOp orc o.op tm (zj (FO i jK) av h)with
    |some v,some u=>bif AV.beq v u then recheck orc jK av tm h l else false
    |_,_=>false
  |none=>false
inductive RS where
 |fin (tm:T AV) (h:T ah) (nx:Key)
 |ev (r:OR) (rest:List aN) (av:List (Nat×Key×ah)) (tm:T AV) (h:T ah) (nx:Key)
noncomputable def iH(orc:iV)(jK:List (Nat×List Nat))(l:List aN):List (Nat×Key×ah)→T AV→T ah→Key→RS:=
 List.rec (fun av tm h nx=>GQ av h fun h=>.fin tm h nx)
  (fun x rest ih av tm h nx=>match x with
  |.L i o=>match cD o.guard tm with
   |none=>.ev (.bad 31) (x ::rest) av tm h nx
   |some false=>zi o.dst (some (.tuple [])) tm fun tm=>ih av tm h nx
   |some true=>match lightOp orc o.op tm (zj (FO i jK) av h)with
    |some v=>zi o.dst (some v) tm fun tm=>ih av tm h nx
    |none=>.ev (.bad 32) (x ::rest) av tm h nx
  |.A i o=>match cD o.guard tm with
   |none=>.ev (.bad 33) (x ::rest) av tm h nx
   |some false=>zi o.dst (some (.tuple [])) tm fun tm=>ih av tm h nx
   |some true=>match allocOp o.op tm with
    |some (v,b)=>zi o.dst (some (v nx)) tm fun tm=>ih ((i,nx,b) ::av) tm h nx.succ
    |none=>.ev (.bad 34) (x ::rest) av tm h nx
  |.H _ o l=>Gk l av h fun av h=>match cD o.guard tm with
   |none=>.ev (.bad 35) (x ::rest) av tm h nx
   |some false=>zi o.dst (some (.tuple [])) tm fun tm=>ih av tm h nx
   |some true=>match aOp orc o.op tm h nx with
    |.val v h nx=>zi o.dst (some v) tm fun tm=>ih av tm h nx
    |r=>.ev r (x ::rest) av tm h nx
  |.R os=>bif recheck orc jK av tm h os then ih av tm h nx else .ev (.bad 36) (x ::rest) av tm h nx) l
noncomputable def Kx{R:Type}(l:List Key):T AV→(T AV→R)→R:=
 List.rec (fun tm c=>c tm) (fun k _ ih tm c=>yL k none tm fun tm=>ih tm c) l
noncomputable def XI{R:Type}(l:List AV):Key→T AV→(T AV→R)→R:=
 List.rec (fun _ tm c=>c tm) (fun v _ ih k tm c=>yL k (some v) tm fun tm=>ih k.succ tm c) l
noncomputable def XJ{R:Type}:List Key→List AV→T AV→R→(T AV→R)→R
 | [],[],tm,_,c=>c tm
 |k ::l,v ::m,tm,bad,c=>yL k (some v) tm fun tm=>XJ l m tm bad c
 |_,_,_,bad,_=>bad
def mG(id:Nat):List de→Option (List de)
 | []=>none
 |.inBlock id' ::k=>bif Nat.beq id' id then some k else mG id k
 |_ ::k=>mG id k
noncomputable def cY(v:AV)(fr:mB):Option mB:=
 match fr.todo with
 |.ops (o ::rest) ::k=>zi o.dst (some v) fr.tm fun tm=>some {fr with tm,todo:=.ops rest ::k}
 |.staged (.H _ o _ ::rest) jm av ::k=>zi o.dst (some v) fr.tm fun tm=>some {fr with tm,todo:=.staged rest jm av ::k}
 |.inRF l ::k=>some {fr with todo:=.endRF l ::k}
 |_=>none
noncomputable def resultsA(h:T ah)(tm:T AV):List RV→Option (List AV)
 | []=>some []
 |.tmp k ::l=>match ag k tm,resultsA h tm l with
  |some v,some r=>some (v ::r)
  |_,_=>none
 |.cell k agg n ::l=>match ag k tm,resultsA h tm l with
  |some (.ptr b off),some r=>match loadB h b agg off n with
   |some v=>some (v ::r)
   |none=>none
  |_,_=>none
def nM:List AV→AV
 | [v]=>v
 |l=>.tuple l
noncomputable def GH(C:bP)(f:Nat)(args:List AV)(GG:Bool)(bad:SR)(c:mB→SR):SR:=
 match (bif Nat.beq (Key.fP 12 f).toNat f then ag (Key.fP 12 f) C.fns else none)with
 |some p=>XI args .z .nil fun tm=>c {fn:=f,tm,todo:=[.code p.body],dfs:=[],mode:=.run,GG,vm:=none,res:=p.res}
 |none=>bad
noncomputable def alb{R:Type}(raw:Bool)(l:List AV)(h:T ah)(c:List AV→T ah→R):R:=bif raw then c l h else LM (ZM 9999) l h c
noncomputable def jn(C:bP)(r:OR)(fr:mB)(panicked:mB)(cs:List mB)(h:T ah)(nx:Key):SR:=
 match r with
 |.call f args=>alb (C.raw f) args h fun args h=>match C.sum f args h nx with
  |some (v,h,nx)=>match cY v fr with
   |some fr=>.next ⟨fr,cs,h,nx⟩
   |none=>.bad 39 ⟨fr,cs,h,nx⟩
  |none=>GH C f args false (.bad 40 ⟨fr,cs,h,nx⟩) fun fR=>.next ⟨fR,fr ::cs,h,nx⟩
 |.yld l args=>match ag l h with
  |some (.loop _ _ fn tm res params assign body _)=>
   XJ params args tm (.bad 41 ⟨fr,cs,h,nx⟩) fun tm=>.next ⟨{fn,tm,todo:=[.code assign,.beginRound,.code body],dfs:=[],mode:=.run,GG:=false,vm:=some l,res},fr ::cs,h,nx⟩
  |_=>.bad 42 ⟨fr,cs,h,nx⟩
 |.pan v=>.next ⟨{panicked with mode:=.pan v false},cs,h,nx⟩
 |.dfr f args=>match fr.vm with
  |none=>match cY (.tuple []) fr with
   |some fr=>.next ⟨{fr with dfs:=.fn f args ::fr.dfs},cs,h,nx⟩
   |none=>.bad 43 ⟨fr,cs,h,nx⟩
  |some _=>.bad 44 ⟨fr,cs,h,nx⟩
 |.recover=>match fr.vm,fr.GG,cs with
  |none,true,c ::yu=>match c.mode with
   |.pan v false=>match cY v fr with
    |some fr=>.next ⟨fr,{c with mode:=.pan v true} ::yu,h,nx⟩
    |none=>.bad 45 ⟨fr,cs,h,nx⟩
   |.ret=>match cY .nili fr with
    |some fr=>.next ⟨fr,cs,h,nx⟩
    |none=>.bad 46 ⟨fr,cs,h,nx⟩
   |_=>.bad 47 ⟨fr,cs,h,nx⟩
  |_,_,_=>.bad 48 ⟨fr,cs,h,nx⟩
 |.val _ _ _=>.bad 49 ⟨fr,cs,h,nx⟩
 |.bad w=>.bad w ⟨fr,cs,h,nx⟩
noncomputable def L6(v:AV)(fr:mB)(cs:List mB)(h:T ah)(nx:Key):SR:=
 match cs with
 | []=>bif fr.GG then .bad 55 ⟨fr,[],h,nx⟩else .done fr.fn v h nx
 |c ::cs=>bif fr.GG then
   (match c.mode with
   |.pan _ true=>.next ⟨{c with mode:=.ret},cs,h,nx⟩
   |.run=>.bad 50 ⟨c,cs,h,nx⟩
   |_=>.next ⟨c,cs,h,nx⟩)
  else match cY v c with
   |some c=>.next ⟨c,cs,h,nx⟩
   |none=>.bad 51 ⟨c,cs,h,nx⟩
noncomputable def KJ(jump:Option aK)(fr:mB)(cs:List mB)(h:T ah)(nx:Key):SR:=
 match fr.vm with
 |none=>match jump with
  |none=>.next ⟨{fr with mode:=.ret},cs,h,nx⟩
  |some .ret=>.next ⟨{fr with mode:=.ret},cs,h,nx⟩
  |_=>.bad 52 ⟨fr,cs,h,nx⟩
 |some l=>match cs with
  | []=>.bad 54 ⟨fr,cs,h,nx⟩
  |c ::cs=>match ag l h with
   |some (.loop _ _ fn tm res params assign body dfs)=>
    yL l (some (.loop (match jump with|none=>.ready|some _=>.done) jump fn tm res params assign body dfs)) h fun h=>
     match cY (.bool (match jump with|none=>true|some _=>false)) c with
     |some c=>.next ⟨c,cs,h,nx⟩
     |none=>.bad 51 ⟨c,cs,h,nx⟩
   |_=>.bad 53 ⟨fr,c ::cs,h,nx⟩
noncomputable def b9(C:bP)(fr:mB)(cs:List mB)(h:T ah)(nx:Key):SR:=
 match fr.todo with
 | []=>KJ none fr cs h nx
 |x ::k=>match x with
  |.code c=>match c with
   |.skip=>.next ⟨{fr with todo:=k},cs,h,nx⟩
   |.ops l=>.next ⟨{fr with todo:=.ops l ::k},cs,h,nx⟩
   |.staged l d=>.next ⟨{fr with todo:=.staged l d [] ::k},cs,h,nx⟩
   |.both l1 d1 l2 d2=>.alt ⟨{fr with todo:=.staged l1 d1 [] ::k},cs,h,nx⟩ ⟨{fr with todo:=.staged l2 d2 [] ::k},cs,h,nx⟩
   |.seq a b=>.next ⟨{fr with todo:=.code a ::.code b ::k},cs,h,nx⟩
   |.cond x a b=>match x.at fr.tm with
    |some (.bool true)=>.next ⟨{fr with todo:=.code a ::k},cs,h,nx⟩
    |some (.bool false)=>.next ⟨{fr with todo:=.code b ::k},cs,h,nx⟩
    |_=>.bad 60 ⟨fr,cs,h,nx⟩
   |.block id c=>.next ⟨{fr with todo:=.code c ::.inBlock id ::k},cs,h,nx⟩
   |.loop c=>.next ⟨{fr with todo:=.code c ::.inLoop c ::k},cs,h,nx⟩
   |.exit id=>match mG id k with
    |some k=>.next ⟨{fr with todo:=k},cs,h,nx⟩
    |none=>KJ (some (.exit id)) fr cs h nx
   |.ret=>KJ (some .ret) fr cs h nx
   |.rangeF f params assign body=>match fr.vm,f.at fr.tm with
    |none,some (.fn g first cap)=>
     yL nx (some (.dfs false)) h fun h=>
     yL nx.succ (some (.loop .ready none fr.fn fr.tm fr.res params assign body nx)) h fun h=>
     GH C g (first ++ .yld nx.succ ::cap) false (.bad 61 ⟨fr,cs,h,nx⟩) fun fR=>
      .next ⟨fR,{fr with todo:=.inRF nx.succ ::k,dfs:=.coll nx ::fr.dfs} ::cs,h,nx.succ.succ⟩
    |_,_=>.bad 62 ⟨fr,cs,h,nx⟩
  |.inBlock _=>.next ⟨{fr with todo:=k},cs,h,nx⟩
  |.inLoop c=>.next ⟨{fr with todo:=.code c ::.inLoop c ::k},cs,h,nx⟩
  |.ops l=>match kJ C.orc l fr.tm h nx with
   |.fin tm h nx=>.next ⟨{fr with tm,todo:=k},cs,h,nx⟩
   |.ev r rest tm h nx=>jn C r {fr with tm,todo:=.ops rest ::k} {fr with tm,todo:=[]} cs h nx
  |.staged l d av=>match iH C.orc d.jK l av fr.tm h nx with
   |.fin tm h nx=>.next ⟨{fr with tm,todo:=k},cs,h,nx⟩
   |.ev r rest av tm h nx=>Kx d.ds tm fun aD=>jn C r {fr with tm,todo:=.staged rest d av ::k} {fr with tm:=aD,todo:=[]} cs h nx
  |.inRF _=>.bad 63 ⟨fr,cs,h,nx⟩
  |.endRF l=>match ag l h with
   |some (.loop st pending fn tm res params assign body dfs)=>match st with
    |.busy=>.bad 64 ⟨fr,cs,h,nx⟩
    |_=>yL l (some (.loop .exhausted pending fn tm res params assign body dfs)) h fun h=>
     .next ⟨{fr with todo:=match pending with|none=>k|some c=>.code c ::k},cs,h,nx⟩
   |_=>.bad 65 ⟨fr,cs,h,nx⟩
  |.beginRound=>match fr.vm with
   |none=>.bad 66 ⟨fr,cs,h,nx⟩
   |some l=>match ag l h with
    |some (.loop .ready pending fn tm res params assign body dfs)=>
     yL l (some (.loop .busy pending fn tm res params assign body dfs)) h fun h=>.next ⟨{fr with todo:=k},cs,h,nx⟩
    |_=>.bad 67 ⟨fr,cs,h,nx⟩
noncomputable def AU(C:bP)(fr:mB)(cs:List mB)(h:T ah)(nx:Key):SR:=
 match fr.dfs with
 |.coll b ::ds=>match ag b h with
  |some (.dfs false)=>yL b (some (.dfs true)) h fun h=>.next ⟨{fr with dfs:=ds},cs,h,nx⟩
  |_=>.bad 70 ⟨fr,cs,h,nx⟩
 |.fn f args ::ds=>GH C f args true (.bad 71 ⟨fr,cs,h,nx⟩) fun fR=>.next ⟨fR,{fr with dfs:=ds} ::cs,h,nx⟩
 | []=>match fr.mode with
  |.run=>.bad 72 ⟨fr,cs,h,nx⟩
  |.ret=>match resultsA h fr.tm fr.res with
   |some l=>alb (C.ma fr.fn) l h fun l h=>L6 (nM l) fr cs h nx
   |none=>.bad 73 ⟨fr,cs,h,nx⟩
  |.pan v false=>match cs with
   | []=>.pan v h nx
   |c ::cs=>match c.mode with
    |.run=>.next ⟨{c with mode:=.pan v false,todo:=[],tm:=(match c.todo with|.staged _ d _ ::_=>Kx d.ds c.tm (fun t=>t)|_=>c.tm)},cs,h,nx⟩
    |_=>.bad 74 ⟨fr,c ::cs,h,nx⟩
  |.pan _ true=>.bad 75 ⟨fr,cs,h,nx⟩
noncomputable def iI(C:bP)(m:AM):SR:=
 match m.fr.mode with
 |.run=>b9 C m.fr m.cs m.h m.nx
 |_=>AU C m.fr m.cs m.h m.nx
noncomputable def vp(C:bP)(n:Nat):AM→SR:=
 Nat.rec (fun m=>.next m) (fun _ ih m=>match iI C m with
  |.next m=>ih m
  |r=>r) n
def I2(nt i:Nat):Option Key:=
 bif Nat.blt i nt&&Nat.beq (Key.fP 12 i).toNat i then some (Key.fP 12 i)else none
def enc:List UInt8→Nat
 | []=>0
 |b ::l=>b.toNat+256*enc l
mutual
def kY:Nat→Value→Option AV
 |0,_=>none
 |n+1,v=>match v with
  |.bool b=>some (.bool b)
  |.int k i=>some (.int k (.lit i))
  |.string s=>some (.str s.data.toList.length (enc s.data.toList))
  |.pointer none=>some .nilp
  |.slice none 0 0=>some .nils
  |.map none=>some .nilm
  |.nilFunc=>some .nilf
  |.nilIface=>some .nili
  |.iface t v=>match kY n v with
   |some a=>some (.iface t a)
   |none=>none
  |.agg cs=>match Kj n cs.toList with
   |some l=>some (.agg l)
   |none=>none
  |.tuple cs=>match Kj n cs.toList with
   |some l=>some (.tuple l)
   |none=>none
  |_=>none
def Kj:Nat→List Value→Option (List AV)
 |_,[]=>some []
 |0,_ ::_=>none
 |n+1,v ::l=>match kY n v,Kj n l with
  |some a,some r=>some (a ::r)
  |_,_=>none
end
def wN:=400
def pX(P:Program)(nt:Nat):Operand→Option PX
 |.tmp t=>match I2 nt t with
  |some k=>some (.t k)
  |none=>none
 |.const v=>match kY wN v with
  |some a=>some (.v a)
  |none=>none
 |.global g=>match I2 P.globals.size g with
  |some k=>some (.v (.ptr k 0))
  |none=>none
 |.func f=>some (.v (.fn f [] []))
def Rh(P:Program)(nt:Nat):List Operand→Option (List PX)
 | []=>some []
 |x ::l=>match pX P nt x,Rh P nt l with
  |some a,some r=>some (a ::r)
  |_,_=>none
def ak0(P:Program)(nt:Nat):Option Operand→Option (Option PX)
 |none=>some none
 |some x=>match pX P nt x with
  |some a=>some (some a)
  |none=>none
structure TI where
 size:Nat
 agg:Bool
 zero:AV
def tyI(P:Program)(t:TypeId):Option TI:=
 match P.info? t,P.underlying t with
 |some i,some d=>match i.zero with
  |some z=>match kY wN z with
   |some a=>some ⟨i.size,(match d with|.struct _=>true|.array _ _=>true|_=>false),a⟩
   |none=>none
  |none=>none
 |_,_=>none
def Kk(P:Program)(nt:Nat)(place:Nat→Option (Nat×Nat)):List (Nat×Operand)→Option (List (Nat×Nat×PX))
 | []=>some []
 |(i,x) ::l=>match place i,pX P nt x,Kk P nt place l with
  |some (off,size),some a,some r=>some ((off,size,a) ::r)
  |_,_,_=>none
def vf(P:Program):List Field→Option (List (Nat×Nat))
 | []=>some []
 |f ::l=>match P.info? f.type,vf P l with
  |some i,some r=>some ((f.offset,i.size) ::r)
  |_,_=>none
def Nw(l:List (Nat×Nx))(sz:Nat):Nat→Nat→List (Nat×Nx)
 |0,_=>[]
 |n+1,off=>l.map (fun x=>(off+x.1,x.2))++Nw l sz n (off+sz)
mutual
def eqP(P:Program):Nat→TypeId→Option Nx
 |0,_=>none
 |n+1,t=>match P.underlying t with
  |some .bool=>some .bool
  |some (.int _)=>some .int
  |some .string=>some .str
  |some (.pointer e)=>match P.info? e with
   |some i=>bif Nat.beq i.size 0 then none else some .ptr
   |none=>none
  |some (.interface _)=>some .iface
  |some (.slice _)=>some .slice
  |some (.func _ _ _)=>some .func
  |some (.map _ _)=>some .map
  |some (.struct fs)=>bif P.stoodInHeld t then none else match eqFields P n fs.toList with
   |some l=>some (.parts l)
   |none=>none
  |some (.array len e)=>match P.underlying e,eqP P n e,P.info? e with
   |some (.struct _),some (.parts l),some i=>bif l.all (fun x=>Nat.blt x.1 i.size)then some (.parts (Nw l i.size len 0))else none
   |_,_,_=>none
  |_=>none
def eqFields(P:Program):Nat→List Field→Option (List (Nat×Nx))
 |_,[]=>some []
 |0,_ ::_=>none
 | n + 1, f :: l => bif f.name == "_" then none else match eqP P n f.type, eqFields P n l with
  |some .bool,some r=>some ((f.offset,.bool) ::r)
  |some .int,some r=>some ((f.offset,.int) ::r)
  |some .str,some r=>some ((f.offset,.str) ::r)
  |_,_=>none
end
def Xi:Nx→Bool
 |.parts _=>true
 |.int=>true
 |.str=>true
 |_=>false
def ko:Operand→Bool
 |.const _=>true
 |_=>false
def jJ(P:Program)(nt:Nat)(o:Oper):Option Lr:=
 match o.op with
 |.move x|.assign x=>(pX P nt x).map .mov
 |.pick c a b=>match pX P nt c,pX P nt a,pX P nt b with
  |some c,some a,some b=>some (.pick c a b)
  |_,_,_=>none
 |.alloc t=>match tyI P t with
  |some i=>some (.new i.zero.cells)
  |none=>none
 |.box _ x=>(pX P nt x).map .box
 |.build t parts=>match tyI P t,P.underlying t with
  |some i,some (.struct fs)=>match vf P fs.toList with
   |some pl=>match Kk P nt (pl[·]?) parts.toList with
    |some ps=>some (.build i.zero.cells ps)
    |none=>none
   |none=>none
  |some i,some (.array _ e)=>match P.info? e with
   |some ie=>match Kk P nt (fun j=>some (j*ie.size,ie.size)) parts.toList with
    |some ps=>some (.build i.zero.cells ps)
    |none=>none
   |none=>none
  |_,_=>none
 |.buildSlice t len parts=>match P.underlying t with
  |some (.slice e)=>match tyI P e with
   |some ie=>bif Nat.ble (len*ie.size) 16777216&&Nat.blt 0 ie.size&&Nat.beq ie.zero.cells.length ie.size then(match Kk P nt (fun j=>some (j*ie.size,ie.size)) parts.toList with
    |some ps=>some (.bslice ie.size len ie.zero.cells ps)
    |none=>none)else none
   |none=>none
  |_=>none
 |.load t a=>match tyI P t,pX P nt a with
  |some i,some a=>some (.load i.agg i.size a)
  |_,_=>none
 |.store t a v=>match P.info? t,pX P nt a,pX P nt v with
  |some i,some a,some v=>some (.store i.size a v)
  |_,_,_=>none
 |.nilCheck x=>(pX P nt x).map .nilc
 |.binOp op t x y _=>match pX P nt x,pX P nt y with
  |some a,some b=>match P.underlying t with
   |some (.int _)=>some (.bin op a b)
   |some .string=>some (.bin op a b)
   |some (.interface _)=>bif ko x||ko y then(match op with
    |.eql=>some (.eq false .iface a b)
    |.neq=>some (.eq true .iface a b)
    |_=>none)else none
   |some (.struct _)=>bif P.eqGuardType P.depth t then none else(match op,eqP P 100 t with
    |.eql,some p=>some (.eq false p a b)
    |.neq,some p=>some (.eq true p a b)
    |_,_=>none)
   |some (.array _ _)=>bif P.eqGuardType P.depth t then none else(match op,eqP P 100 t with
    |.eql,some p=>some (.eq false p a b)
    |.neq,some p=>some (.eq true p a b)
    |_,_=>none)
   |some _=>match op,eqP P 100 t with
    |.eql,some p=>bif Xi p then none else some (.eq false p a b)
    |.neq,some p=>bif Xi p then none else some (.eq true p a b)
    |_,_=>none
   |none=>none
  |_,_=>none
 |.unOp op _ x=>(pX P nt x).map (.un op)
 |.convert src dst x=>match pX P nt x,P.underlying src,P.underlying dst with
  |some a,some (.int _),some (.int k)=>some (.cint k a)
  |some a,some .string,some (.slice e)=>match P.underlying e with
   |some (.int .u8)=>some (.strb a)
   |_=>none
  |_,_,_=>none
 |.makeInterface t x=>match P.underlying t with
  |some (.interface _)=>none
  |none=>none
  |some _=>(pX P nt x).map (.mkif t)
 |.makeFunc (.func f) first cap=>match Rh P nt first.toList,Rh P nt cap.toList with
  |some a,some c=>some (.mkfn f a c)
  |_,_=>none
 |.makeMap _ none=>some .mkmap
 |.makeSlice t l c=>match P.underlying t with
  |some (.slice e)=>match tyI P e,pX P nt l,pX P nt c with
   |some ie,some l,some c=>match P.info? e with
    |some i=>bif Nat.blt 0 ie.size&&Nat.beq ie.zero.cells.length ie.size&&Nat.ble i.bytes 65536 then some (.mkslice ie.size ie.zero.cells l c)else none
    |none=>none
   |_,_,_=>none
  |_=>none
 |.slice t x lo hi none=>match pX P nt x,ak0 P nt lo,ak0 P nt hi with
  |some a,some lo,some hi=>match P.underlying t with
   |some .string=>some (.sliceS a lo hi)
   |some (.slice e)=>match P.info? e with
    |some i=>bif Nat.blt 0 i.size then some (.sliceL i.size a lo hi)else none
    |none=>none
   |_=>none
  |_,_,_=>none
 |.fieldAddr s x f=>match P.underlying s with
  |some (.struct fs)=>match fs[f]? with
   |some fd=>match P.info? fd.type,pX P nt x with
    |some i,some a=>bif Nat.beq i.size 0 then none else some (.fieldA fd.offset a)
    |_,_=>none
   |none=>none
  |_=>none
 |.field t x f=>match P.underlying t with
  |some (.struct fs)=>match fs[f]? with
   |some fd=>match tyI P fd.type,pX P nt x with
    |some i,some a=>some (.field i.agg fd.offset i.size a)
    |_,_=>none
   |none=>none
  |_=>none
 |.indexAddr t x i=>match P.underlying t,pX P nt x,pX P nt i with
  |some (.array len e),some a,some b=>match P.info? e with
   |some ie=>bif Nat.blt 0 ie.size then some (.indexA len ie.size a b)else none
   |none=>none
  |some (.slice e),some a,some b=>match P.info? e with
   |some ie=>bif Nat.blt 0 ie.size then some (.indexL ie.size a b)else none
   |none=>none
  |_,_,_=>none
 |.index t x i=>match P.underlying t,pX P nt x,pX P nt i with
  |some .string,some a,some b=>some (.indexS a b)
  |some (.array len e),some a,some b=>match tyI P e with
   |some ie=>some (.indexV len ie.agg ie.size a b)
   |none=>none
  |_,_,_=>none
 |.lookup t m k ok=>match P.underlying t with
  |some (.map kt e)=>match P.underlying kt,tyI P e,pX P nt m,pX P nt k with
   |some (.int _),some i,some a,some b=>some (.lookup false i.zero ok a b)
   |some .string,some i,some a,some b=>some (.lookup true i.zero ok a b)
   |_,_,_,_=>none
  |_=>none
 |.mapUpdate t m k v|.insert t m k v=>match P.underlying t with
  |some (.map kt _)=>match P.underlying kt,pX P nt m,pX P nt k,pX P nt v with
   |some (.int _),some a,some b,some c=>some (.mapupd false a b c)
   |some .string,some a,some b,some c=>some (.mapupd true a b c)
   |_,_,_,_=>none
  |_=>none
 |.typeAssert x _ t ok=>match P.underlying t,tyI P t,pX P nt x with
  |some (.interface _),_,_=>none
  |some _,some i,some a=>some (.assert t i.zero ok a)
  |_,_,_=>none
 |.extract x i=>match pX P nt x with
  |some a=>some (.extract a i)
  |none=>none
 |.call c=>match c.callee with
  |.value (.func f)=>match Rh P nt c.args.toList,P.funcs[f]? with
   | some l, some fn => bif fn.body.isSome && !(fn.name == "runtime.NumGoroutine") then some (.callF f l) else none
   |_,_=>none
  |.value x=>match pX P nt x,Rh P nt c.args.toList with
   |some a,some l=>some (.callV a l)
   |_,_=>none
  |.invoke _ _=>none
  |.builtin b=>match b,Rh P nt c.args.toList with
   |.len,some [x]=>match c.argTypes.toList with
    | [t]=>match P.underlying t with
     |some .string=>some (.lenS x)
     |some (.slice _)=>some (.lenL x)
     |_=>none
    |_=>none
   |.append,some [s,x]=>match c.argTypes.toList with
    | [t,u]=>match P.underlying t,P.underlying u with
     |some (.slice e),some (.slice _)=>match tyI P e,P.info? e with
      |some ie,some i=>bif Nat.blt 0 ie.size&&Nat.beq ie.zero.cells.length ie.size&&Nat.ble i.bytes 65536 then some (.append ie.size s x)else none
      |_,_=>none
     |some (.slice e),some .string=>match tyI P e,P.info? e with
      |some ie,some i=>bif Nat.blt 0 ie.size&&Nat.beq ie.zero.cells.length ie.size&&Nat.ble i.bytes 65536 then some (.append ie.size s x)else none
      |_,_=>none
     |_,_=>none
    |_=>none
   |.max,some [x,y]=>some (.mx true x y)
   |.min,some [x,y]=>some (.mx false x y)
   |.recover,some []=>some .recover
   |_,_=>none
 |.defer c=>match c.callee with
  |.value x=>match pX P nt x,Rh P nt c.args.toList with
   |some a,some l=>some (.dfr a l)
   |_,_=>none
  |_=>none
 |.panic x=>(pX P nt x).map .panic
 |_=>none
def Ri(nt:Nat)(ops:Array Oper):Option (Nat×Bool)→Option (Option (Key×Bool))
 |none=>some none
 |some (j,want)=>match ops[j]? with
  |some o=>match o.dst with
   |some d=>match I2 nt d with
    |some k=>some (some (k,want))
    |none=>none
   |none=>none
  |none=>none
def OQ(P:Program)(nt:Nat)(ops:Array Oper)(o:Oper):Option aC:=
 match jJ P nt o,Ri nt ops o.guard with
 |some op,some g=>match o.dst with
  |none=>some ⟨none,op,g⟩
  |some d=>match I2 nt d with
   |some k=>some ⟨some k,op,g⟩
   |none=>none
 |_,_=>none
def lY(P:Program)(nt:Nat)(ops:Array Oper):List Nat→Option (List aC)
 | []=>some []
 |i ::l=>match ops[i]? with
  |none=>none
  |some o=>match OQ P nt ops o,lY P nt ops l with
   |some a,some r=>some (a ::r)
   |_,_=>none
def Ls:Lr→Bool
 |.store _ _ _|.mapupd _ _ _ _|.strb _|.append _ _ _|.callF _ _|.callV _ _|.dfr _ _|.panic _|.recover=>true
 |_=>false
def Q0:Lr→Bool
 |.new _|.box _|.bslice _ _ _ _|.mkmap|.mkslice _ _ _ _=>true
 |_=>false
def Ny:Lr→Bool
 |.load _ _ _|.lookup _ _ _ _ _=>true
 |_=>false
def oY(ops:Array Oper):List Nat:=(Region.before ops).toList
def H6:List aC→Nat→List Nat
 | [],_=>[]
 |o ::l,i=>bif Ls o.op then i ::H6 l (i+1)else H6 l (i+1)
def Lt(b:Nat):List Nat→Nat
 | []=>0
 |h ::l=>bif Nat.testBit b h then Lt b l+1 else Lt b l
def Lu(hs:List Nat)(s:Nat):List (aC×Nat)→Nat→List aN
 | [],_=>[]
 |(o,b) ::l,i=>bif Ls o.op || !(Nat.beq (Lt b hs) s)then Lu hs s l (i+1)
   else(bif Q0 o.op then .A i o else .L i o) ::Lu hs s l (i+1)
def Lw(bh:Nat):List (aC×Nat)→Nat→List Nat
 | [],_=>[]
 |(o,_) ::l,i=>bif Q0 o.op&&Nat.testBit bh i then i ::Lw bh l (i+1)else Lw bh l (i+1)
def Kl(hs:List Nat)(s bh:Nat):List (aC×Nat)→Nat→List (Nat×aC)
 | [],_=>[]
 |(o,b) ::l,i=>bif Ny o.op&&Nat.ble (Lt b hs) s && !(Nat.testBit bh i)then(i,o) ::Kl hs s bh l (i+1)else Kl hs s bh l (i+1)
def aE8(l:List (aC×Nat))(i:Nat):Option (aC×Nat):=l[i]?
def Rj(hs:List Nat)(all:List (aC×Nat)):Nat→List Nat→Option (List aN)
 |s,[]=>some (Lu hs s all 0)
 |s,h ::rest=>match aE8 all h,Rj hs all (s+1) rest with
  |some (o,b),some r=>some (Lu hs s all 0 ++ .H h o (Lw b all 0) ::.R (Kl hs s b all 0) ::r)
  |_,_=>none
def dstsOf:List aC→List Key
 | []=>[]
 |o ::l=>match o.dst with
  |some d=>d ::dstsOf l
  |none=>dstsOf l
def H7(ap4:List (aC×Nat)):List (aC×Nat)→Nat→List (Nat×List Nat)
 | [],_=>[]
 |(o,b) ::l,i=>bif Ny o.op then(match Lw b ap4 0 with
   | []=>H7 ap4 l (i+1)
   |ad=>(i,ad) ::H7 ap4 l (i+1))else H7 ap4 l (i+1)
def hasB(m j:Nat):Bool:=Nat.testBit m j
def adC(n a b:Nat):Bool:=(List.range n).all fun j=>!(hasB a j)||hasB b j
def cW(bf:List Nat)(i:Nat):Nat:=(bf[i]?).getD 0
def lZ(ops:Array Oper)(o:Oper):List Nat:=
 o.op.operands.toList.filterMap (fun|.tmp t=>some t|_=>none)++(match o.guard with|some (j,_)=>((ops[j]?).bind (·.dst)).toList|none=>[])
def nz(ops:Array Oper)(i:Nat):Option Nat:=(ops[i]?).bind (·.dst)
def Lx(ops:Array Oper)(bf:List Nat):Bool:=
 (List.range ops.size).all fun i=>match ops[i]? with
  |none=>false
  |some o=>(o.after.toList.all fun e=>!(Region.binds .any e)||(Nat.blt e.on i&&hasB (cW bf i) e.on)) &&
   (List.range ops.size).all fun j=>!(hasB (cW bf i) j)||o.after.toList.any fun e=>Region.binds .any e&&(Nat.beq e.on j||hasB (cW bf e.on) j)
def Xj(ops:Array Oper)(bf:List Nat):Bool:=
 (List.range ops.size).all fun i=>match ops[i]? with
  |none=>false
  |some o=>(List.range ops.size).all fun j=>match nz ops j with
   |none=>true
   |some t=>bif Nat.beq i j then !(lZ ops o).contains t else
     !(o.dst==some t)&&(!(lZ ops o).contains t||hasB (cW bf i) j||hasB (cW bf j) i)
def Gj(ops:Array Oper)(bf:List Nat)(i:Nat):Bool:=match ops[i]? with
 |none=>false
 |some o=>(List.range ops.size).all fun j=>match nz ops j with
  |none=>true
  |some t=>!(lZ ops o).contains t||hasB (cW bf i) j
inductive IIt where
 |L (i:Nat)
 |A (i:Nat)
 |H (i:Nat) (Gk:List Nat)
 |R (os:List Nat)
def iOf:aN→IIt
 |.L i _=>.L i
 |.A i _=>.A i
 |.H i _ l=>.H i l
 |.R os=>.R (os.map (·.1))
def Gl(pl:List aC):IIt→Option aN
 |.L i=>(pl[i]?).map (.L i)
 |.A i=>(pl[i]?).map (.A i)
 |.H i l=>(pl[i]?).map (fun o=>.H i o l)
 |.R os=>(os.mapM fun i=>(pl[i]?).map fun o=>(i,o)).map .R
def tR(pl:List aC)(i:Nat):Nat:=match pl[i]? with
 |none=>9
 |some o=>bif Ls o.op then 2 else bif Q0 o.op then 1 else 0
def gU(pl:List aC)(i:Nat):Bool:=match pl[i]? with
 |none=>false
 |some o=>Ny o.op
def Gm(m i:Nat):Nat:=m ||| 2^i
def BH(ops:Array Oper)(pl:List aC)(bf:List Nat):Nat→List IIt→Bool
 |m,[]=>(List.range ops.size).all (hasB m)
 |m,.L i ::r=>Nat.blt i ops.size&&Nat.beq (tR pl i) 0 && !(hasB m i)&&adC ops.size (cW bf i) m&&BH ops pl bf (Gm m i) r
 |m,.A i ::r=>Nat.blt i ops.size&&Nat.beq (tR pl i) 1 && !(hasB m i)&&adC ops.size (cW bf i) m&&BH ops pl bf (Gm m i) r
 |m,.H i l ::.R os ::r=>Nat.blt i ops.size&&Nat.beq (tR pl i) 2 && !(hasB m i)&&adC ops.size (cW bf i) m &&
   ((List.range ops.size).all fun j=>hasB m j||Nat.beq j i || !(adC ops.size (cW bf j) m)) &&
   (l.all fun j=>hasB (cW bf i) j) &&
   ((List.range ops.size).all fun j=>!(hasB m j) || !(gU pl j)||hasB (cW bf i) j||os.contains j) &&
   (os.all fun j=>Nat.blt j ops.size&&hasB m j&&Nat.beq (tR pl j) 0&&Gj ops bf j) &&
   BH ops pl bf (Gm m i) r
 |_,_=>false
def Cj(bf:List Nat):List (Nat×List Nat)→Bool
 | []=>true
 |(i,l) ::r=>(l.all fun j=>hasB (cW bf i) j)&&Cj bf r
def ava(ops:Array Oper)(pl:List aC)(bf:List Nat)(l:List IIt):Bool:=Xj ops bf&&BH ops pl bf 0 l
def IA(n:Nat)(bf:List Nat)(a b:Nat):List Nat:=
 (List.range n).map fun i=>bif Nat.beq i b||hasB (cW bf i) b then cW bf i ||| Gm (cW bf a) a else cW bf i
def ata(bf:List Nat)(hs:List Nat):List Nat:=(List.range hs.length).filterMap fun s=>hs.find? fun h=>Nat.beq (Lt (cW bf h) hs) s
def atb(bf:List Nat):List Nat→Option (Nat×Nat)
 |a ::b ::l=>bif hasB (cW bf b) a||hasB (cW bf a) b then atb bf (b ::l)else some (a,b)
 |_=>none
def Ly(ops:Array Oper)(l:List aC)(bf:List Nat)(hs:List Nat):Option (List aN×SD):=
 let all:=l.zip bf
 match Rj hs all 0 hs with
 |some st=>match (st.map iOf).mapM (Gl l)with
  |some st=>bif ava ops l bf (st.map iOf)&&Cj bf (H7 all all 0)then some (st,⟨dstsOf l,H7 all all 0⟩)else none
  |none=>none
 |none=>none
def Lz(P:Program)(nt:Nat)(ops:Array Oper)(draw:Bool):Option aK:=
 match lY P nt ops (List.range ops.size)with
 |none=>none
 |some l=>bif draw then
   (bif Lx ops (oY ops)then
    (match Ly ops l (oY ops) (H6 l 0)with
    |some (st,d)=>some (.staged st d)
    |none=>match atb (oY ops) (H6 l 0)with
     |some (a,b)=>bif Nat.blt a ops.size&&Nat.blt b ops.size && !(Nat.beq a b)then
       (match Ly ops l (IA ops.size (oY ops) a b) (ata (IA ops.size (oY ops) a b) (H6 l 0)),Ly ops l (IA ops.size (oY ops) b a) (ata (IA ops.size (oY ops) b a) (H6 l 0))with
       |some (s1,d1),some (s2,d2)=>some (.both s1 d1 s2 d2)
       |_,_=>none)else none
     |none=>none)
   else none)
  else some (.ops l)
def ir(P:Program)(nt:Nat):Code→Option aK
 |.skip=>some .skip
 |.region _ ops draw=>Lz P nt ops draw
 |.seq a b=>match ir P nt a,ir P nt b with
  |some a,some b=>some (.seq a b)
  |_,_=>none
 |.cond c a b=>match pX P nt c,ir P nt a,ir P nt b with
  |some c,some a,some b=>some (.cond c a b)
  |_,_,_=>none
 |.block id c=>match ir P nt c with
  |some c=>some (.block id c)
  |none=>none
 |.loop c=>match ir P nt c with
  |some c=>some (.loop c)
  |none=>none
 |.rangeFunc f params a b=>match pX P nt f,params.toList.mapM (I2 nt),ir P nt a,ir P nt b with
  |some f,some ps,some a,some b=>some (.rangeF f ps a b)
  |_,_,_,_=>none
 |.exit id=>some (.exit id)
 |.ret=>some .ret
 |.scope c=>match ir P nt c with
  |some c=>some (.seq c .skip)
  |none=>none
 |.label _=>some .skip
 |_=>none
def UI(P:Program)(nt:Nat):List ResultVar→Option (List RV)
 | []=>some []
 |.tmp t ::l=>match I2 nt t,UI P nt l with
  |some k,some r=>some (.tmp k ::r)
  |_,_=>none
 |.cell a t ::l=>match I2 nt a,tyI P t,UI P nt l with
  |some k,some i,some r=>some (.cell k i.agg i.size ::r)
  |_,_,_=>none
def I3(P:Program)(f:Nat):Option fq:=
 match P.funcs[f]? with
 |none=>none
 |some fn=>match fn.body with
  |none=>none
  | some c => bif fn.name == "runtime.NumGoroutine" then none else match ir P fn.ntmps c, UI P fn.ntmps fn.results.toList with
   |some b,some r=>some ⟨b,r⟩
   |_,_=>none
theorem Key.toNat_inj:∀{a b:Key},a.toNat=b.toNat→a=b
 |.z,.z,_=>rfl
 |.z,.o b,h=>by simp[Key.toNat]at h
 |.z,.e b,h=>by simp[Key.toNat]at h
 |.o a,.z,h=>by simp[Key.toNat]at h
 |.e a,.z,h=>by simp[Key.toNat]at h
 |.o a,.o b,h=>by rw[Key.toNat_inj (a:=a) (b:=b) (by simp only[Key.toNat]at h;omega)]
 |.e a,.e b,h=>by rw[Key.toNat_inj (a:=a) (b:=b) (by simp only[Key.toNat]at h;omega)]
 |.o a,.e b,h=>by simp only[Key.toNat]at h;omega
 |.e a,.o b,h=>by simp only[Key.toNat]at h;omega
theorem kTSu:∀(k:Key),k.succ.toNat=k.toNat+1
 |.z=>rfl
 |.o k=>by show(Key.e k).toNat=_;simp only[Key.toNat]
 |.e k=>by show(Key.o k.succ).toNat=_;simp only[Key.toNat,kTSu k];omega
theorem Key.eq_of_beq:∀{a b:Key},Key.beq a b=true→a=b
 |.z,.z,_=>rfl
 |.o a,.o b,h=>by rw[Key.eq_of_beq (a:=a) (b:=b) h]
 |.e a,.e b,h=>by rw[Key.eq_of_beq (a:=a) (b:=b) h]
 |.z,.o _,h=>by cases h
 |.z,.e _,h=>by cases h
 |.o _,.z,h=>by cases h
 |.e _,.z,h=>by cases h
 |.o _,.e _,h=>by cases h
 |.e _,.o _,h=>by cases h
noncomputable def aw{α:Type}(k:Key)(x:Option α)(t:T α):T α:=yL k x t fun t=>t
section
variable{α R:Type}
@[simp] theorem T.get_nil(k:Key):ag k (T.nil:T α)=none:=by cases k<;>rfl
@[simp] theorem T.aOu(v:Option α)(l r:T α):ag .z (.node v l r)=v:=rfl
@[simp] theorem T.aoK(k:Key)(v:Option α)(l r:T α):ag (.o k) (.node v l r)=ag k l:=rfl
@[simp] theorem T.aoL(k:Key)(v:Option α)(l r:T α):ag (.e k) (.node v l r)=ag k r:=rfl
theorem sTCe(x:Option α):∀{R:Type} (k:Key) (t:T α) (c:T α→R),yL k x t c=c (aw k x t)
 |_,.z,.nil,c=>rfl
 |_,.z,.node v l r,c=>rfl
 |_,.o k,.nil,c=>by show yL k x .nil (fun l=>c (.node none l .nil))=c (yL k x .nil fun l=>.node none l .nil);rw[sTCe x k .nil,sTCe x k .nil (fun l=>T.node none l .nil)]
 |_,.e k,.nil,c=>by show yL k x .nil (fun r=>c (.node none .nil r))=c (yL k x .nil fun r=>.node none .nil r);rw[sTCe x k .nil,sTCe x k .nil (fun r=>T.node none .nil r)]
 |_,.o k,.node v l r,c=>by show yL k x l (fun l=>c (.node v l r))=c (yL k x l fun l=>.node v l r);rw[sTCe x k l,sTCe x k l (fun l=>T.node v l r)]
 |_,.e k,.node v l r,c=>by show yL k x r (fun r=>c (.node v l r))=c (yL k x r fun r=>.node v l r);rw[sTCe x k r,sTCe x k r (fun r=>T.node v l r)]
theorem T.Oi(k:Key)(x:Option α):aw (.o k) x .nil=.node none (aw k x .nil) .nil:=sTCe x k .nil _
theorem T.Oj(k:Key)(x:Option α):aw (.e k) x .nil=.node none .nil (aw k x .nil):=sTCe x k .nil _
theorem T.am3(k:Key)(x v:Option α)(l r:T α):aw (.o k) x (.node v l r)=.node v (aw k x l) r:=sTCe x k l _
theorem T.am4(k:Key)(x v:Option α)(l r:T α):aw (.e k) x (.node v l r)=.node v l (aw k x r):=sTCe x k r _
theorem gTSm(x:Option α):∀(k:Key) (t:T α),ag k (aw k x t)=x
 |.z,.nil=>rfl
 |.z,.node v l r=>rfl
 |.o k,.nil=>by rw[T.Oi];exact gTSm x k .nil
 |.e k,.nil=>by rw[T.Oj];exact gTSm x k .nil
 |.o k,.node v l r=>by rw[T.am3];exact gTSm x k l
 |.e k,.node v l r=>by rw[T.am4];exact gTSm x k r
theorem aP(x:Option α):∀(k k':Key) (t:T α),k'≠k→ag k' (aw k x t)=ag k' t
 |.z,k',.nil,h=>by
  cases k' with
  |z=>exact absurd rfl h
  |o k'=>show ag k' T.nil=_;simp
  |e k'=>show ag k' T.nil=_;simp
 |.z,k',.node v l r,h=>by
  cases k' with
  |z=>exact absurd rfl h
  |o k'=>rfl
  |e k'=>rfl
 |.o k,k',.nil,h=>by
  rw[T.Oi];cases k' with
  |z=>rfl
  |o k'=>rw[T.aoK,aP x k k' .nil (fun e=>h (by rw[e]))];simp
  |e k'=>simp
 |.e k,k',.nil,h=>by
  rw[T.Oj];cases k' with
  |z=>rfl
  |o k'=>simp
  |e k'=>rw[T.aoL,aP x k k' .nil (fun e=>h (by rw[e]))];simp
 |.o k,k',.node v l r,h=>by
  rw[T.am3];cases k' with
  |z=>rfl
  |o k'=>rw[T.aoK,T.aoK];exact aP x k k' l (fun e=>h (by rw[e]))
  |e k'=>rfl
 |.e k,k',.node v l r,h=>by
  rw[T.am4];cases k' with
  |z=>rfl
  |o k'=>rfl
  |e k'=>rw[T.aoL,T.aoL];exact aP x k k' r (fun e=>h (by rw[e]))
theorem nth_eq:∀(n:Nat) (l:List α),nth n l=l[n]?
 |0,[]=>rfl
 |0,x ::l=>rfl
 |n+1,[]=>rfl
 |n+1,x ::l=>by show nth n l=_;rw[nth_eq n l];simp
theorem dropL_eq:∀(n:Nat) (l:List α),xT n l=l.drop n
 |0,l=>rfl
 |n+1,[]=>by simp;rfl
 |n+1,x ::l=>by show xT n l=_;rw[dropL_eq n l];simp
theorem takeC_eq:∀(n:Nat) (l:List α) (bad:R) (c:List α→R),AT n l bad c=if n≤l.length then c (l.take n)else bad
 |0,l,bad,c=>by simp;rfl
 |n+1,[],bad,c=>by simp;rfl
 |n+1,x ::l,bad,c=>by show AT n l bad (fun r=>c (x ::r))=_;rw[takeC_eq n l];simp
theorem acM:∀(vs l:List α) (bad:R) (c:List α→R),ahc vs l bad c=if vs.length≤l.length then c (vs++l.drop vs.length)else bad
 | [],l,bad,c=>by simp;rfl
 |v ::vs,[],bad,c=>by simp;rfl
 |v ::vs,x ::l,bad,c=>by show ahc vs l bad (fun r=>c (v ::r))=_;rw[acM vs l];simp
theorem putC_eq(vs:List α):∀(off:Nat) (l:List α) (bad:R) (c:List α→R),
  aag vs off l bad c=if off+vs.length≤l.length then c (l.take off++vs++l.drop (off+vs.length))else bad
 |0,l,bad,c=>by show ahc vs l bad c=_;rw[acM];simp
 |off+1,[],bad,c=>by
  have:¬(off+1+vs.length≤([]:List α).length):=by simp
  rw[if_neg this];rfl
 |off+1,x ::l,bad,c=>by
  show aag vs off l bad (fun r=>c (x ::r))=_;rw[putC_eq vs off l];have e:(off+1+vs.length≤(x ::l).length)↔(off+vs.length≤l.length):=by simp;omega
  by_cases h:off+vs.length≤l.length
  ·rw[if_pos h,if_pos (e.2 h)];have:off+1+vs.length=(off+vs.length)+1:=by omega
   rw[this];simp
  ·rw[if_neg h,if_neg (fun h'=>h (e.1 h'))]
theorem appC_eq:∀(a b:List α) (c:List α→R),UU a b c=c (a++b)
 | [],b,c=>rfl
 |x ::a,b,c=>by show UU a b (fun r=>c (x ::r))=_;rw[appC_eq a b];simp
theorem lenL_eq:∀(l:List α),lenL l=l.length
 | []=>rfl
 |x ::l=>by show Nat.succ (lenL l)=_;rw[lenL_eq l];simp
theorem repL_eq(zs:List α):∀(n:Nat) (acc:List α),KI n zs acc=(List.replicate n zs).flatten++acc
 |0,acc=>by simp;rfl
 |n+1,acc=>by show UU zs (KI n zs acc) (fun r=>r)=_;rw[appC_eq,repL_eq zs n acc];simp[List.replicate_succ]
end
theorem beqN_eq(a b:Nat):Nat.beq a b=decide (a=b):=by
 by_cases h:a=b
 ·subst h;simp
 ·have:Nat.beq a b=false:=by
   cases e:Nat.beq a b with
   |false=>rfl
   |true=>exact absurd (o5 e) h
  rw[this];simp[h]
theorem eqI_eq(a b:Int):eqI a b=(a==b):=by
 cases a with
 |ofNat a=>cases b with
  |ofNat b=>show Nat.beq a b=_;rw[beqN_eq,Bool.eq_iff_iff];simp;omega
  |negSucc b=>show false=_;symm;rw[beq_eq_false_iff_ne];intro h;cases h
 |negSucc a=>cases b with
  |ofNat b=>show false=_;symm;rw[beq_eq_false_iff_ne];intro h;cases h
  |negSucc b=>show Nat.beq a b=_;rw[beqN_eq,Bool.eq_iff_iff];simp
theorem bltN_eq(a b:Nat):Nat.blt a b=decide (a<b):=by rw[Bool.eq_iff_iff,decide_eq_true_iff];unfold Nat.blt;rw[Nat.ble_eq];omega
theorem Oz(a b:Int):Wm a b=decide (a<b):=by
 cases a with
 |ofNat a=>cases b with
  |ofNat b=>show Nat.blt a b=_;rw[bltN_eq,decide_eq_decide];show a<b↔(a:Int)<(b:Int);omega
  |negSucc b=>show false=_;symm;rw[decide_eq_false_iff_not];have:=Int.negSucc_lt_zero b;show ¬((a:Int)<_);omega
 |negSucc a=>cases b with
  |ofNat b=>show true=_;symm;rw[decide_eq_true_iff];have:=Int.negSucc_lt_zero a;show _<(b:Int);omega
  |negSucc b=>show Nat.blt b a=_;rw[bltN_eq,decide_eq_decide,Int.negSucc_eq,Int.negSucc_eq];omega
theorem aiu(k:IntKind):full k=(2^k.bits:Int):=by cases k<;>decide
theorem eK(k:IntKind)(n:Int):bD k n=k.wrap n:=by
 have hm:Int.emod n (full k)=n%(2^k.bits:Int):=by rw[aiu];rfl
 have h0:0≤n%(2^k.bits:Int)∧n%(2^k.bits:Int)<(2^k.bits:Int):=
  ⟨Int.emod_nonneg _ (by cases k<;>decide),Int.emod_lt_of_pos _ (by cases k<;>decide)⟩
 unfold bD IntKind.wrap;rw[hm,Oz];generalize n%(2^k.bits:Int)=m at h0;by_cases h:m<half k
 ·rw[decide_eq_true h];have:(k.signed&&decide (m≥(2^(k.bits-1):Int)))=false:=by cases k<;>simp[half,IntKind.signed,IntKind.bits]at h h0 ⊢<;>omega
  simp[this]
 ·rw[decide_eq_false h];have:(k.signed&&decide (m≥(2^(k.bits-1):Int)))=true:=by cases k<;>simp[half,IntKind.signed,IntKind.bits]at h h0 ⊢<;>omega
  simp only[this,cond_false,if_true,aiu];rfl
theorem uz{a b:IntKind}(h:beqKind a b=true):a=b:=by cases a<;>cases b<;>first|rfl|cases h
theorem Xa{a b:BinOp}(h:NR a b=true):a=b:=by cases a<;>cases b<;>first|rfl|cases h
theorem SI.eq_of_beq:∀{a b:SI},SI.beq a b=true→a=b
 |.lit a,.lit b,h=>by simp only[SI.beq,eqI_eq,beq_iff_eq]at h;rw[h]
 |.var i,.var j,h=>by rw[o5 (n:=i) (m:=j) h]
 |.bin o k a b,.bin o' k' a' b',h=>by simp only[SI.beq,jq]at h;rw[Xa h.1.1.1,uz h.1.1.2,SI.eq_of_beq h.1.2,SI.eq_of_beq h.2]
 |.lit _,.var _,h=>by cases h
 |.lit _,.bin ..,h=>by cases h
 |.var _,.lit _,h=>by cases h
 |.var _,.bin ..,h=>by cases h
 |.bin ..,.lit _,h=>by cases h
 |.bin ..,.var _,h=>by cases h
theorem SF.eq_of_beq:∀{a b:SF},SF.beq a b=true→a=b
 |.any,.any,_=>rfl
 |.tok a,.tok b,h=>by simp only[SF.beq]at h;rw[Key.eq_of_beq h]
 |.any,.tok _,h=>by cases h
 |.tok _,.any,h=>by cases h
mutual
theorem AV.eq_of_beq:∀(a b:AV),AV.beq a b=true→a=b:=by
 intro a b h;cases a with
 |bool b1=>
  cases b with
  |bool b2=>simp only[AV.beq,beq_iff_eq]at h;rw[h]
  |_=>exact absurd h (by simp[AV.beq])
 |int k1 n1=>
  cases b with
  |int k2 n2=>simp only[AV.beq,jq]at h;rw[uz h.1,SI.eq_of_beq h.2]
  |_=>exact absurd h (by simp[AV.beq])
 |str n1 c1=>
  cases b with
  |str n2 c2=>simp only[AV.beq,jq]at h;rw[o5 h.1,o5 h.2]
  |_=>exact absurd h (by simp[AV.beq])
 |ptr b1 o1=>
  cases b with
  |ptr b2 o2=>simp only[AV.beq,jq]at h;rw[Key.eq_of_beq h.1,o5 h.2]
  |_=>exact absurd h (by simp[AV.beq])
 |nilp=>
  cases b with
  |nilp=>rfl
  |_=>exact absurd h (by simp[AV.beq])
 |slice b1 o1 l1 s1=>
  cases b with
  |slice b2 o2 l2 s2=>simp only[AV.beq,jq]at h;rw[Key.eq_of_beq h.1.1.1,o5 h.1.1.2,o5 h.1.2,o5 h.2]
  |_=>exact absurd h (by simp[AV.beq])
 |nils=>
  cases b with
  |nils=>rfl
  |_=>exact absurd h (by simp[AV.beq])
 |map b1=>
  cases b with
  |map b2=>simp only[AV.beq]at h;rw[Key.eq_of_beq h]
  |_=>exact absurd h (by simp[AV.beq])
 |nilm=>
  cases b with
  |nilm=>rfl
  |_=>exact absurd h (by simp[AV.beq])
 |fn f1 a1 c1=>
  cases b with
  |fn f2 a2 c2=>simp only[AV.beq,jq]at h;rw[o5 h.1.1,AV.iN _ _ h.1.2,AV.iN _ _ h.2]
  |_=>exact absurd h (by simp[AV.beq])
 |yld l1=>
  cases b with
  |yld l2=>simp only[AV.beq]at h;rw[Key.eq_of_beq h]
  |_=>exact absurd h (by simp[AV.beq])
 |nilf=>
  cases b with
  |nilf=>rfl
  |_=>exact absurd h (by simp[AV.beq])
 |iface t1 v1=>
  cases b with
  |iface t2 v2=>simp only[AV.beq,jq]at h;rw[o5 h.1,AV.eq_of_beq _ _ h.2]
  |_=>exact absurd h (by simp[AV.beq])
 |nili=>
  cases b with
  |nili=>rfl
  |_=>exact absurd h (by simp[AV.beq])
 |agg l1=>
  cases b with
  |agg l2=>simp only[AV.beq]at h;rw[AV.iN _ _ h]
  |_=>exact absurd h (by simp[AV.beq])
 |tuple l1=>
  cases b with
  |tuple l2=>simp only[AV.beq]at h;rw[AV.iN _ _ h]
  |_=>exact absurd h (by simp[AV.beq])
 |sl l1 n1 z1 f1=>
  cases b with
  |sl l2 n2 z2 f2=>simp only[AV.beq,jq]at h;rw[AV.iN _ _ h.1.1.1,o5 h.1.1.2,o5 h.1.2,SF.eq_of_beq h.2]
  |_=>exact absurd h (by simp[AV.beq])
 |cref l1=>
  cases b with
  |cref l2=>simp only[AV.beq]at h;rw[AV.iN _ _ h]
  |_=>exact absurd h (by simp[AV.beq])
theorem AV.iN:∀(a b:List AV),AV.II a b=true→a=b
 | [],[],_=>rfl
 |x ::a,y ::b,h=>by simp only[AV.II,jq]at h;rw[AV.eq_of_beq x y h.1,AV.iN a b h.2]
 | [],_ ::_,h=>by cases h
 |_ ::_,[],h=>by cases h
end
end Go.Sx
namespace Go.Sx
open Go.RowKit
structure Loc where
 c:Nat
 base:Nat
 ext:Nat
structure Mu where
 loc:Key→Option Loc
 fz:Nat→Nat→Option Value
instance:CoeFun Mu (fun _=>Key→Option Loc):=⟨Mu.loc⟩
structure Mu.le(μ μ':Mu):Prop where
 l:∀b l,μ b=some l→μ' b=some l
 f:∀c i v,μ.fz c i=some v→μ'.fz c i=some v
theorem Mu.le_refl(μ:Mu):μ.le μ:=⟨fun _ _ h=>h,fun _ _ _ h=>h⟩
theorem Mu.le_trans{a b c:Mu}(h:a.le b)(k:b.le c):a.le c:=⟨fun x l e=>k.l x l (h.l x l e),fun x i v e=>k.f x i v (h.f x i v e)⟩
def Ta(μ:Mu)(c o len cap sz:Nat):SF→Prop
 |.any=>True
 |.tok b=>μ b=some ⟨c,o+len*sz,(cap-len)*sz⟩
theorem Ta.mono{μ μ':Mu}(hm:μ.le μ'){c o len cap sz:Nat}{fl:SF}(h:Ta μ c o len cap sz fl):Ta μ' c o len cap sz fl:=by
 cases fl with
 |any=>trivial
 |tok b=>exact hm.l _ _ h
def SI.den(ρ:Nat→Int):SI→Int
 |.lit n=>n
 |.var i=>ρ i
 |.bin .add k a b=>k.wrap (a.den ρ+b.den ρ)
 |.bin .sub k a b=>k.wrap (a.den ρ-b.den ρ)
 |.bin .mul k a b=>k.wrap (a.den ρ*b.den ρ)
 |.bin _ _ _ _=>0
mutual
inductive aX(ρ:Nat→Int)(μ:Mu):AV→Value→Prop
 |bool (b:Bool):aX ρ μ (.bool b) (.bool b)
 |int (k:IntKind) (s:SI) (n:Int) (h:s.den ρ=n):aX ρ μ (.int k s) (.int k n)
 |str (n c:Nat) (s:ByteArray) (h:s.data.toList.length=n) (h':enc s.data.toList=c):aX ρ μ (.str n c) (.string s)
 |ptr (b:Key) (off:Nat) (l:Loc) (a:Addr) (h:μ b=some l) (ha:a=⟨l.c,l.base+off,none⟩):aX ρ μ (.ptr b off) (.pointer (some a))
 |nilp:aX ρ μ .nilp (.pointer none)
 |slice (b:Key) (off len sz cap:Nat) (l:Loc) (a:Addr) (h:μ b=some l) (hc:off+cap*sz=l.ext) (hl:len≤cap)
   (ha:cap=0∨a=⟨l.c,l.base+off,none⟩):aX ρ μ (.slice b off len sz) (.slice (some a) len cap)
 |nils:aX ρ μ .nils (.slice none 0 0)
 |map (b:Key) (l:Loc) (r:Nat) (h:μ b=some l) (hr:r=l.c):aX ρ μ (.map b) (.map (some r))
 |nilm:aX ρ μ .nilm (.map none)
 |fn (f:Nat) (first cap:List AV) (vs ws:Array Value) (h:aB ρ μ first vs.toList) (h':aB ρ μ cap ws.toList):aX ρ μ (.fn f first cap) (.func (.func f) vs ws)
 |yld (b:Key) (l:Loc) (r:Nat) (h:μ b=some l) (hr:r=l.c):aX ρ μ (.yld b) (.func (.yield r) #[] #[])
 |nilf:aX ρ μ .nilf .nilFunc
 |iface (t:Nat) (a:AV) (v:Value) (h:aX ρ μ a v):aX ρ μ (.iface t a) (.iface t v)
 |nili:aX ρ μ .nili .nilIface
 |agg (l:List AV) (vs:Array Value) (h:aB ρ μ l vs.toList):aX ρ μ (.agg l) (.agg vs)
 |tuple (l:List AV) (vs:Array Value) (h:aB ρ μ l vs.toList):aX ρ μ (.tuple l) (.tuple vs)
 |sl (l:List AV) (len sz:Nat) (fl:SF) (cap c o:Nat) (a:Addr) (vs:List Value) (h:aB ρ μ l vs) (hn:l.length=len*sz) (hl:len≤cap) (ha:cap=0∨a=⟨c,o,none⟩)
   (hf:∀i v,vs[i]?=some v→μ.fz c (o+i)=some v) (hg:Ta μ c o len cap sz fl):aX ρ μ (.sl l len sz fl) (.slice (some a) len cap)
 |cref (l:List AV) (c o:Nat) (a:Addr) (vs:List Value) (h:aB ρ μ l vs) (ha:a=⟨c,o,none⟩) (hf:∀i v,vs[i]?=some v→μ.fz c (o+i)=some v):aX ρ μ (.cref l) (.pointer (some a))
inductive aB(ρ:Nat→Int)(μ:Mu):List AV→List Value→Prop
 |nil:aB ρ μ [] []
 |cons (a:AV) (l:List AV) (v:Value) (vs:List Value) (h:aX ρ μ a v) (h':aB ρ μ l vs):aB ρ μ (a ::l) (v ::vs)
end
mutual
theorem aX.mono{ρ:Nat→Int}{μ μ':Mu}(hm:μ.le μ'):∀{a:AV} {v:Value},aX ρ μ a v→aX ρ μ' a v
 |_,_,.bool b=>.bool b
 |_,_,.int k s n h=>.int k s n h
 |_,_,.str n c s h h'=>.str n c s h h'
 |_,_,.ptr b off l a h ha=>.ptr b off l a (hm.l _ _ h) ha
 |_,_,.nilp=>.nilp
 |_,_,.slice b off len sz cap l a h hc hl ha=>.slice b off len sz cap l a (hm.l _ _ h) hc hl ha
 |_,_,.nils=>.nils
 |_,_,.map b l r h hr=>.map b l r (hm.l _ _ h) hr
 |_,_,.nilm=>.nilm
 |_,_,.fn f first cap vs ws h h'=>.fn f first cap vs ws (aB.mono hm h) (aB.mono hm h')
 |_,_,.yld b l r h hr=>.yld b l r (hm.l _ _ h) hr
 |_,_,.nilf=>.nilf
 |_,_,.iface t a v h=>.iface t a v (aX.mono hm h)
 |_,_,.nili=>.nili
 |_,_,.agg l vs h=>.agg l vs (aB.mono hm h)
 |_,_,.tuple l vs h=>.tuple l vs (aB.mono hm h)
 |_,_,.sl l len sz fl cap c o a vs h hn hl ha hf hg=>.sl l len sz fl cap c o a vs (aB.mono hm h) hn hl ha (fun i v e=>hm.f _ _ _ (hf i v e)) (hg.mono hm)
 |_,_,.cref l c o a vs h ha hf=>.cref l c o a vs (aB.mono hm h) ha (fun i v e=>hm.f _ _ _ (hf i v e))
theorem aB.mono{ρ:Nat→Int}{μ μ':Mu}(hm:μ.le μ'):∀{l:List AV} {vs:List Value},aB ρ μ l vs→aB ρ μ' l vs
 |_,_,.nil=>.nil
 |_,_,.cons a l v vs h h'=>.cons a l v vs (aX.mono hm h) (aB.mono hm h')
end
section
variable{ρ:Nat→Int}{μ:Mu}
theorem aB.length{l:List AV}{vs:List Value}(h:aB ρ μ l vs):l.length=vs.length:=by
 induction l generalizing vs with
 |nil=>cases h;rfl
 |cons a l ih=>cases h with|cons _ _ v vs h h'=>simp[ih h']
theorem aB.get{l:List AV}{vs:List Value}(h:aB ρ μ l vs):∀(i:Nat) (a:AV),l[i]?=some a→∃v,vs[i]?=some v∧aX ρ μ a v:=by
 induction l generalizing vs with
 |nil=>intro i a h';simp at h'
 |cons x l ih=>
  cases h with
  |cons _ _ v vs h h'=>
   intro i a hi;cases i with
   |zero=>simp at hi;subst hi;exact⟨v,by simp,h⟩
   |succ i=>simpa using ih h' i a (by simpa using hi)
theorem aB.Ry:∀{l:List AV} {vs:List Value},l.length=vs.length→(∀(i:Nat) (a:AV),l[i]?=some a→∃v,vs[i]?=some v∧aX ρ μ a v)→aB ρ μ l vs
 | [],[],_,_=>.nil
 | [],_ ::_,h,_=>by simp at h
 |_ ::_,[],h,_=>by simp at h
 |a ::l,v ::vs,h,hg=>by
  refine .cons a l v vs ?_ (aB.Ry (by simpa using h) fun i b hb=>?_)
  ·obtain⟨v',hv,hr⟩:=hg 0 a (by simp);simp at hv;subst hv;exact hr
  ·obtain⟨v',hv,hr⟩:=hg (i+1) b (by simpa using hb);exact⟨v',by simpa using hv,hr⟩
theorem aB.append{a b:List AV}{va vb:List Value}(h:aB ρ μ a va)(h':aB ρ μ b vb):aB ρ μ (a++b) (va++vb):=by
 induction a generalizing va with
 |nil=>cases h;exact h'
 |cons x a ih=>cases h with|cons _ _ v vs h1 h2=>exact .cons _ _ _ _ h1 (ih h2)
theorem aB.take{l:List AV}{vs:List Value}(h:aB ρ μ l vs)(n:Nat):aB ρ μ (l.take n) (vs.take n):=by
 induction n generalizing l vs with
 |zero=>simp;exact .nil
 |succ n ih=>cases h with
  |nil=>exact .nil
  |cons a l v vs h h'=>exact .cons _ _ _ _ h (ih h')
theorem aB.drop{l:List AV}{vs:List Value}(h:aB ρ μ l vs)(n:Nat):aB ρ μ (l.drop n) (vs.drop n):=by
 induction n generalizing l vs with
 |zero=>exact h
 |succ n ih=>cases h with
  |nil=>exact .nil
  |cons a l v vs h h'=>exact ih h'
theorem aB.one{a:AV}{v:Value}(h:aX ρ μ a v):aB ρ μ [a] [v]:=.cons _ _ _ _ h .nil
theorem aB.replicate{zs:List AV}{vs:List Value}(h:aB ρ μ zs vs):∀(n:Nat),aB ρ μ (List.replicate n zs).flatten (List.replicate n vs).flatten
 |0=>.nil
 |n+1=>by simp only[List.replicate_succ,zqk];exact h.append (aB.replicate h n)
theorem aX.cells{a:AV}{v:Value}(h:aX ρ μ a v):aB ρ μ a.cells v.cells.toList:=by
 cases h with
 |agg l vs h=>exact h
 |_=>first|exact aB.one (.bool _)|exact aB.one (.int _ _ _ ‹_›)|exact aB.one (.str _ _ _ ‹_› ‹_›)|exact aB.one (.ptr _ _ _ _ ‹_› ‹_›)|exact aB.one .nilp|exact aB.one (.slice _ _ _ _ _ _ _ ‹_› ‹_› ‹_› ‹_›)|exact aB.one .nils|exact aB.one (.map _ _ _ ‹_› ‹_›)|exact aB.one .nilm|exact aB.one (.fn _ _ _ _ _ ‹_› ‹_›)|exact aB.one (.yld _ _ _ ‹_› ‹_›)|exact aB.one .nilf|exact aB.one (.iface _ _ _ ‹_›)|exact aB.one .nili|exact aB.one (.tuple _ _ ‹_›)|exact aB.one (.sl _ _ _ _ _ _ _ _ _ ‹_› ‹_› ‹_› ‹_› ‹_› ‹_›)|exact aB.one (.cref _ _ _ _ _ ‹_› ‹_› ‹_›)
theorem aX.aqX{a:AV}{v:Value}(h:aX ρ μ a v)(hc:a.aM=true):(∀vs,v≠.agg vs)∧(∀vs,v≠.tuple vs):=by cases h<;>simp_all [AV.aM]
end
mutual
theorem iE{ρ:Nat→Int}{μ:Mu}:∀(n:Nat) (v:Value) (a:AV),kY n v=some a→aX ρ μ a v:=by
 intro n v a h;cases n with
 |zero=>simp[kY]at h
 |succ n=>
  cases v with
  |bool b=>simp only[kY,dP]at h;subst h;exact .bool b
  |int k i=>simp only[kY,dP]at h;subst h;exact .int k _ _ rfl
  |string s=>simp only[kY,dP]at h;subst h;exact .str _ _ _ rfl rfl
  |pointer p=>cases p with
   |none=>simp only[kY,dP]at h;subst h;exact .nilp
   |some p=>simp[kY]at h
  |slice p len cap=>
   unfold kY at h;split at h<;>first|(cases h)|skip
   all_goals first|(simp at h;done)|skip
   all_goals simp_all
   all_goals first|exact .nils|skip
  |map r=>cases r with
   |none=>simp only[kY,dP]at h;subst h;exact .nilm
   |some p=>simp[kY]at h
  |nilFunc=>simp only[kY,dP]at h;subst h;exact .nilf
  |nilIface=>simp only[kY,dP]at h;subst h;exact .nili
  |iface t v=>
   simp only[kY]at h;split at h
   ·rename_i b hb;cases h;exact .iface _ _ _ (iE n v b hb)
   ·simp at h
  |agg cs=>
   simp only[kY]at h;split at h
   ·rename_i b hb;cases h;exact .agg _ _ (KN n cs.toList b hb)
   ·simp at h
  |tuple cs=>
   simp only[kY]at h;split at h
   ·rename_i b hb;cases h;exact .tuple _ _ (KN n cs.toList b hb)
   ·simp at h
  |float k b=>simp[kY]at h
  |complex k a b=>simp[kY]at h
  |chan r=>simp[kY]at h
  |func f a b=>simp[kY]at h
theorem KN{ρ:Nat→Int}{μ:Mu}:∀(n:Nat) (vs:List Value) (l:List AV),Kj n vs=some l→aB ρ μ l vs:=by
 intro n vs l h;cases vs with
 |nil=>cases n<;>(simp only[Kj,dP]at h;subst h;exact .nil)
 |cons v vs=>
  cases n with
  |zero=>simp[Kj]at h
  |succ n=>
   simp only[Kj]at h;split at h
   ·rename_i a r ha hr;cases h;exact .cons _ _ _ _ (iE n v a ha) (KN n vs r hr)
   ·simp at h
end
def kI(ρ:Nat→Int)(μ:Mu)(nt:Nat)(tm:T AV)(tmps:Array Value):Prop:=
 nt≤tmps.size∧∀k a,ag k tm=some a→∃v,tmps[k.toNat]?=some v∧aX ρ μ a v
def Be(ρ:Nat→Int)(μ:Mu):List (AV×AV)→List MapEntry→Prop
 | [],[]=>True
 |(k,a) ::l,e ::es=>aX ρ μ k e.key∧aX ρ μ a e.val∧Be ρ μ l es
 |_,_=>False
def agY:LS→LoopState→Prop
 |.ready,.ready|.busy,.busy|.done,.done|.exhausted,.exhausted=>True
 |_,_=>False
def alc(P:Program)(nt:Nat)(pc:aK)(c:Code):Prop:=ir P nt c=some pc
def Wf(P:Program)(nt:Nat):Option aK→Option Code→Prop
 |none,none=>True
 |some pc,some c=>alc P nt pc c
 |_,_=>False
def Xq(ks:List Key)(ts:List Nat):Prop:=ks.map Key.toNat=ts
structure ald(P:Program)(f:Nat)(nt:Nat)(res:List RV):Prop where
 ex:∃fn,P.funcs[f]?=some fn∧fn.ntmps=nt∧UI P fn.ntmps fn.results.toList=some res
inductive Mz(P:Program)(ρ:Nat→Int)(μ:Mu):ah→Loc→Obj→Prop
 |cells (L:List AV) (k:CK) (l:Loc) (arr:Array Value) (elem:TypeId) (fz:Nat×Nat)
   (hc:∀i a,L[i]?=some a→∃v,arr[l.base+i]?=some v∧aX ρ μ a v)
   (hs:l.base+l.ext≤arr.size) (hl:L.length≤l.ext) (hf:k≠.ro→fz=(0,0)) (he:k≠.part→k≠.rop→L.length=l.ext) :
   Mz P ρ μ (.cells L k) l (.cells arr elem fz)
 |map (L:List (AV×AV)) (l:Loc) (es:Array MapEntry) (clock:Nat) (h:Be ρ μ L es.toList):Mz P ρ μ (.map L) l (.map es clock)
 |loop (st:LS) (pd:Option aK) (fn nt:Nat) (tm:T AV) (res:List RV) (params:List Key) (as bd:aK) (dfs:Key) (ld:Loc) (l:Loc) (L:Loop)
   (h1:agY st L.state) (h2:∀n,Wf P n pd L.pending) (h3:L.fn=fn) (h4:kI ρ μ nt tm L.tmps) (h5:Xq params L.params.toList)
   (h5':∀k∈params,k.toNat<nt) (h6:alc P nt as L.assign) (h7:alc P nt bd L.body) (h8:μ dfs=some ld) (h9:L.defers=ld.c) (h10:ald P fn nt res) :
   Mz P ρ μ (.loop st pd fn tm res params as bd dfs) l (.loop L)
 |dfs (taken:Bool) (l:Loc):Mz P ρ μ (.dfs taken) l (.deferred (if taken then none else some []))
 |tok (l:Loc) (arr:Array Value) (elem:TypeId) (hs:l.base+l.ext≤arr.size):Mz P ρ μ .tok l (.cells arr elem (0,0))
theorem kI.mono{ρ:Nat→Int}{μ μ':Mu}(hm:μ.le μ'){nt:Nat}{tm:T AV}{tmps:Array Value}(h:kI ρ μ nt tm tmps):kI ρ μ' nt tm tmps:=
 ⟨h.1,fun k a ha=>let ⟨v,hv,hr⟩:=h.2 k a ha;⟨v,hv,hr.mono hm⟩⟩
theorem Be.mono{ρ:Nat→Int}{μ μ':Mu}(hm:μ.le μ'):∀{l:List (AV×AV)} {es:List MapEntry},Be ρ μ l es→Be ρ μ' l es
 | [],[],_=>trivial
 |(_,_) ::_,_ ::_,h=>⟨h.1.mono hm,h.2.1.mono hm,Be.mono hm h.2.2⟩
 | [],_ ::_,h=>h.elim
 |(_,_) ::_,[],h=>h.elim
theorem Be.length{ρ:Nat→Int}{μ:Mu}:∀{l:List (AV×AV)} {es:List MapEntry},Be ρ μ l es→l.length=es.length
 | [],[],_=>rfl
 |(_,_) ::_,_ ::_,h=>by simp[Be.length h.2.2]
 | [],_ ::_,h=>h.elim
 |(_,_) ::_,[],h=>h.elim
theorem Mz.mono{P:Program}{ρ:Nat→Int}{μ μ':Mu}(hm:μ.le μ'){B:ah}{l:Loc}{o:Obj}(h:Mz P ρ μ B l o):Mz P ρ μ' B l o:=by
 cases h with
 |cells L k l arr elem fz hc hs hl hf he=>exact .cells L k l arr elem fz (fun i a ha=>let ⟨v,hv,hr⟩:=hc i a ha;⟨v,hv,hr.mono hm⟩) hs hl hf he
 |map L l es clock h=>exact .map L l es clock (h.mono hm)
 |loop st pd fn nt tm res params as bd dfs ld l L h1 h2 h3 h4 h5 h5' h6 h7 h8 h9 h10=>exact .loop st pd fn nt tm res params as bd dfs ld l L h1 h2 h3 (h4.mono hm) h5 h5' h6 h7 (hm.l _ _ h8) h9 h10
 |dfs taken l=>exact .dfs taken l
 |tok l arr elem hs=>exact .tok l arr elem hs
def ah.ro:ah→Prop
 |.cells _ .ro=>True
 |_=>False
def ah.lo(l:Loc):ah→Option Nat
 |.cells _ .ro=>none
 |.cells _ .rop=>none
 |.tok=>some l.base
 |_=>some 0
structure W0 extends World where
 z:Nat→Nat→Option Value
structure bB(P:Program)(ρ:Nat→Int)(w0:W0)(μ:Mu)(G:Key→Option ah)(nx:Nat)(w:World):Prop where
 BO:∀b B,G b=some B→∃l o,μ b=some l∧w.heap[l.c]?=some o∧Mz P ρ μ B l o
 sep:∀b b' B B' l l',G b=some B→G b'=some B'→μ b=some l→μ b'=some l'→b≠b'→l.c≠l'.c
 AX:∀b l,μ b=some l→l.c<w.heap.size
 own:∀b B l,G b=some B→μ b=some l→B.ro∨w0.heap.size≤l.c
 Qq:∀k:Key,k.toNat<P.globals.size→∃ext,μ k=some ⟨k.toNat,0,ext⟩
 new:∀b l,μ b=some l→b.toNat<nx
 below:Below w0.heap.size w0.toWorld w
 Xw:∀c i v,μ.fz c i=some v→∃arr elem f,w.heap[c]?=some (.cells arr elem f)∧arr[i]?=some v
 fzf:∀b B l n,G b=some B→μ b=some l→B.lo l=some n→∀i,n≤i→μ.fz l.c i=none
 zle:∀c i v,w0.z c i=some v→μ.fz c i=some v
 fzo:∀c i v,μ.fz c i=some v→w0.heap.size≤c∨w0.z c i=some v
 rof:∀b L l,G b=some (.cells L .ro)→μ b=some l→w0.heap.size≤l.c∨∀arr e f i v,w.heap[l.c]?=some (.cells arr e f)→arr[i]?=some v→μ.fz l.c i=some v
 dr:w0.drawn≤w.drawn
def HSub(h:T ah)(G:Key→Option ah):Prop:=∀b B,ag b h=some B→G b=some B
theorem o4:type_of% @Result.andThen_ok:=@Result.andThen_ok
theorem sJ:type_of% @Sem.run_bind:=@Sem.run_bind
theorem xA:type_of% @Sem.run_pure:=@Sem.run_pure
structure Touch(w w':World)(c:Nat):Prop where
 os:w'.os=w.os
 tape:w'.tape=w.tape
 output:w'.output=w.output
 size:w.heap.size≤w'.heap.size
 other:∀k,k≠c→k<w.heap.size→w'.heap[k]?=w.heap[k]?
 dr:w.drawn≤w'.drawn
theorem Touch.refl(w:World)(c:Nat):Touch w w c:=⟨rfl,rfl,rfl,fE _,fun _ _ _=>rfl,fE _⟩
theorem Touch.trans{a b d:World}{c:Nat}(h:Touch a b c)(h':Touch b d c):Touch a d c:=
 ⟨h'.os.trans h.os,h'.tape.trans h.tape,h'.output.trans h.output,Nat.le_trans h.size h'.size,
  fun k hk hs=>(h'.other k hk (O5 hs h.size)).trans (h.other k hk hs),Nat.le_trans h.dr h'.dr⟩
theorem Touch.below{a w w':World}{B c:Nat}(h:Touch w w' c)(hb:Below B a w)(hB:B≤w.heap.size)(hc:B≤c):Below B a w':=
 hb.trans ⟨h.os,h.tape,h.output,h.size,fun k hk=>h.other k (by omega) (by omega)⟩
theorem Touch.alloc(w:World)(o:Obj):Touch w (w.alloc o) w.heap.size:=
 ⟨rfl,rfl,rfl,by simp,fun k _ hs=>Below.heap_alloc w o k hs,fE _⟩
theorem Touch.drawn(w:World)(n c:Nat)(hn:w.drawn≤n):Touch w {w with drawn:=n} c:=⟨rfl,rfl,rfl,fE _,fun _ _ _=>rfl,hn⟩
def kn{α:Type}(f:Key→Option α)(k:Key)(x:Option α):Key→Option α:=fun b=>if b.toNat=k.toNat then x else f b
theorem fA{α:Type}(f:Key→Option α)(k:Key)(x:Option α):kn f k x k=x:=by simp[kn]
theorem bN{α:Type}(f:Key→Option α){k b:Key}(x:Option α)(h:b≠k):kn f k x b=f b:=by have:b.toNat≠k.toNat:=fun e=>h (Key.toNat_inj e);simp[kn,this]
def Mu.put(μ:Mu)(k:Key)(l:Loc):Mu:=⟨kn μ.loc k (some l),μ.fz⟩
theorem Mu.eL(μ:Mu)(k:Key)(l:Loc):(μ.put k l) k=some l:=fA _ _ _
theorem Mu.wZ(μ:Mu){k b:Key}(l:Loc)(h:b≠k):(μ.put k l) b=μ b:=bN _ _ h
theorem Mu.G9{μ:Mu}{k:Key}{l:Loc}(hk:μ k=none∨μ k=some l):μ.le (μ.put k l):=by
 refine⟨fun b l' e=>?_,fun _ _ _ h=>h⟩;by_cases hb:b=k
 ·subst hb;rw[Mu.eL];rcases hk with hk|hk
  ·rw[hk]at e;cases e
  ·rw[hk]at e;exact e
 ·rw[Mu.wZ _ _ hb];exact e
section
variable{P:Program}{ρ:Nat→Int}{w0:W0}{w w':World}{μ:Mu}{G G':Key→Option ah}{nx:Nat}
theorem bB.sub(h:bB P ρ w0 μ G nx w)(hs:∀b B,G' b=some B→G b=some B):bB P ρ w0 μ G' nx w:=
 ⟨fun b B e=>h.BO b B (hs b B e),fun b b' B B' l l' e e'=>h.sep b b' B B' l l' (hs _ _ e) (hs _ _ e'),h.AX,fun b B l e=>h.own b B l (hs _ _ e),h.Qq,h.new,h.below,h.Xw,fun b B l n e=>h.fzf b B l n (hs _ _ e),h.zle,h.fzo,fun b L l e=>h.rof b L l (hs _ _ e),h.dr⟩
theorem bB.aAZ{nx':Nat}(h:bB P ρ w0 μ G nx w)(hn:nx≤nx'):bB P ρ w0 μ G nx' w:=
 ⟨h.BO,h.sep,h.AX,h.own,h.Qq,fun b l e=>O5 (h.new b l e) hn,h.below,h.Xw,h.fzf,h.zle,h.fzo,h.rof,h.dr⟩
theorem bB.drawn(h:bB P ρ w0 μ G nx w)(n:Nat)(hn:w.drawn≤n):bB P ρ w0 μ G nx {w with drawn:=n}:=
 ⟨h.BO,h.sep,h.AX,h.own,h.Qq,h.new,h.below.trans ⟨rfl,rfl,rfl,fE _,fun _ _=>rfl⟩,h.Xw,h.fzf,h.zle,h.fzo,h.rof,Nat.le_trans h.dr hn⟩
theorem bB.al5(h:bB P ρ w0 μ G nx w)(n:Nat):bB P ρ {w0 with drawn:=0} μ G nx {w with drawn:=n}:=
 ⟨h.BO,h.sep,h.AX,h.own,h.Qq,h.new,⟨h.below.os,h.below.tape,h.below.output,h.below.size,h.below.block⟩,h.Xw,h.fzf,h.zle,h.fzo,h.rof,Nat.zero_le _⟩
theorem bB.aee(h:bB P ρ w0 μ G nx w)(i:Nat):μ.fz w.heap.size i=none:=by
 cases e:μ.fz w.heap.size i with
 |none=>rfl
 |some v=>obtain⟨arr,elem,f,h1,_⟩:=h.Xw _ _ _ e;simp at h1
theorem bB.put(h:bB P ρ w0 μ G nx w)(k:Key)(B:ah)(l:Loc)(o:Obj){nx':Nat}
  (hk:μ k=none∨μ k=some l) (hw:Touch w w' l.c) (ho:w'.heap[l.c]?=some o)
  (hB:Mz P ρ (μ.put k l) B l o) (Jl:∀b B' l',G b=some B'→μ b=some l'→b≠k→l'.c≠l.c)
  (tY:w0.heap.size≤l.c) (hn:nx≤nx') (Nv:k.toNat<nx') (hz:∀i,μ.fz l.c i=none) :
  μ.le (μ.put k l)∧bB P ρ w0 (μ.put k l) (kn G k (some B)) nx' w':=by
 have hle:μ.le (μ.put k l):=Mu.G9 hk;have hlc:l.c<w'.heap.size:=by
  rcases KA l.c w'.heap.size with h'|h'
  ·exact h'
  ·rw[ZS h']at ho;cases ho
 have yw:w0.heap.size≤w.heap.size:=h.below.size;refine⟨hle,?_,?_,?_,?_,?_,?_,hw.below h.below yw tY,?_,?_,h.zle,h.fzo,?_,Nat.le_trans h.dr hw.dr⟩
 ·intro b B' e;by_cases hb:b=k
  ·subst hb;rw[fA]at e;cases e;exact⟨l,o,Mu.eL _ _ _,ho,hB⟩
  ·rw[bN _ _ hb]at e;obtain⟨l',o',h1,h2,h3⟩:=h.BO b B' e;refine⟨l',o',by rw[Mu.wZ _ _ hb];exact h1,?_,h3.mono hle⟩;rw[hw.other l'.c (Jl b B' l' e h1 hb) (h.AX b l' h1)];exact h2
 ·intro b b' B1 B2 l1 l2 e1 e2 m1 m2 bW;by_cases hb:b=k
  ·subst hb;rw[Mu.eL]at m1;cases m1;have fF:b'≠b:=fun e=>bW e.symm;rw[bN _ _ fF]at e2;rw[Mu.wZ _ _ fF]at m2;exact fun e=>Jl b' B2 l2 e2 m2 fF e.symm
  ·rw[bN _ _ hb]at e1;rw[Mu.wZ _ _ hb]at m1;by_cases fF:b'=k
   ·subst fF;rw[Mu.eL]at m2;cases m2;exact Jl b B1 l1 e1 m1 hb
   ·rw[bN _ _ fF]at e2;rw[Mu.wZ _ _ fF]at m2;exact h.sep b b' B1 B2 l1 l2 e1 e2 m1 m2 bW
 ·intro b l' e;by_cases hb:b=k
  ·subst hb;rw[Mu.eL]at e;cases e;exact hlc
  ·rw[Mu.wZ _ _ hb]at e;exact O5 (h.AX b l' e) hw.size
 ·intro b B' l' e m;by_cases hb:b=k
  ·subst hb;rw[Mu.eL]at m;cases m;exact .inr tY
  ·rw[bN _ _ hb]at e;rw[Mu.wZ _ _ hb]at m;exact h.own b B' l' e m
 ·intro b hb;obtain⟨ext,he⟩:=h.Qq b hb;exact⟨ext,hle.l _ _ he⟩
 ·intro b l' e;by_cases hb:b=k
  ·subst hb;exact Nv
  ·rw[Mu.wZ _ _ hb]at e;exact O5 (h.new b l' e) hn
 ·intro c i v e;have e:μ.fz c i=some v:=e;obtain⟨arr,elem,f,h1,h2⟩:=h.Xw c i v e;have hc:c≠l.c:=by intro hc;subst hc;rw[hz i]at e;cases e
  have cQ:c<w.heap.size:=by
   rcases KA c w.heap.size with h'|h'
   ·exact h'
   ·rw[ZS h']at h1;cases h1
  exact⟨arr,elem,f,by rw[hw.other c hc cQ];exact h1,h2⟩
 ·intro b B' l' n e m lV i hi;show μ.fz l'.c i=none;by_cases hb:b=k
  ·subst hb;rw[Mu.eL]at m;cases m;exact hz i
  ·rw[bN _ _ hb]at e;rw[Mu.wZ _ _ hb]at m;exact h.fzf b B' l' n e m lV i hi
 ·intro b L l' e m;by_cases hb:b=k
  ·subst hb;rw[Mu.eL]at m;cases m;exact .inl tY
  ·rw[bN _ _ hb]at e;rw[Mu.wZ _ _ hb]at m;rcases h.rof b L l' e m with h1|h1
   ·exact .inl h1
   ·refine .inr fun arr ee f i v ha hv=>h1 arr ee f i v ?_ hv;rw[←hw.other l'.c (Jl b _ l' e m hb) (h.AX b l' m)];exact ha
theorem bB.alloc(h:bB P ρ w0 μ G nx w)(k:Key)(B:ah)(o:Obj)(ext:Nat){nx':Nat}(hk:μ k=none)
  (hB:Mz P ρ (μ.put k ⟨w.heap.size,0,ext⟩) B ⟨w.heap.size,0,ext⟩ o) (hn:nx≤nx') (Nv:k.toNat<nx') :
  μ.le (μ.put k ⟨w.heap.size,0,ext⟩)∧bB P ρ w0 (μ.put k ⟨w.heap.size,0,ext⟩) (kn G k (some B)) nx' (w.alloc o):=
 h.put k B ⟨w.heap.size,0,ext⟩ o (.inl hk) (Touch.alloc w o) (by show(w.heap.push o)[w.heap.size]?=some o;simp) hB
  (fun b B' l' _ m _=>Nat.ne_of_lt (h.AX b l' m)) h.below.size hn Nv h.aee
theorem HSub.set{h:T ah}(hs:HSub h G)(k:Key)(B:Option ah):HSub (aw k B h) (kn G k B):=by
 intro b B' e;by_cases hb:b=k
 ·subst hb;rw[gTSm]at e;rw[fA];exact e
 ·rw[aP _ _ _ _ hb]at e;rw[bN _ _ hb];exact hs b B' e
theorem bB.cells(h:bB P ρ w0 μ G nx w){b:Key}{L:List AV}{k:CK}(hb:G b=some (.cells L k)) :
  ∃l arr elem fz,μ b=some l∧w.heap[l.c]?=some (.cells arr elem fz)∧(∀i a,L[i]?=some a→∃v,arr[l.base+i]?=some v∧aX ρ μ a v)∧
   l.base+l.ext≤arr.size∧L.length≤l.ext∧(k≠.ro→fz=(0,0))∧(k≠.part→k≠.rop→L.length=l.ext):=by
 obtain⟨l,o,h1,h2,h3⟩:=h.BO b _ hb;cases h3 with
 |cells L k l arr elem fz hc hs hl hf he=>exact⟨l,arr,elem,fz,h1,h2,hc,hs,hl,hf,he⟩
theorem bB.lo0(h:bB P ρ w0 μ G nx w){b:Key}{B:ah}(hb:G b=some B){l:Loc}(hl:μ b=some l)(lV:B.lo l=some 0)(i:Nat):μ.fz l.c i=none:=
 h.fzf b B l 0 hb hl lV i (Nat.zero_le _)
end
theorem qQ(c o n:Nat):(⟨c,o,none⟩:Addr).add n=⟨c,o+n,none⟩:=by
 unfold Addr.add;split
 ·rename_i h;subst h;rfl
 ·rfl
theorem Q4{w:World}{c:Nat}{arr:Array Value}{elem:TypeId}{fz:Nat×Nat}(h:w.heap[c]?=some (.cells arr elem fz))(o:Nat) :
  w.cell? ⟨c,o,none⟩=arr[o]?:=by
 simp[World.cell?,h]
theorem Bf(P:Program)(w:World)(c o:Nat)(arr:Array Value)(elem:TypeId)(fz:Nat×Nat)(hc:w.heap[c]?=some (.cells arr elem fz)) :
  ∀(n i:Nat) (acc:Array Value),o+i+n≤arr.size→
   (loadCellsFrom ⟨c,o,none⟩ i n acc).run P w=.ok (acc++((arr.toList.drop (o+i)).take n).toArray) w
 |0,i,acc,_=>by simp[loadCellsFrom]
 |n+1,i,acc,h=>by
  have cQ:o+i<arr.size:=by omega
  have ng:w.cell? ⟨c,o+i,none⟩=some arr[o+i]:=by rw[Q4 hc];simp[cQ]
  simp only[loadCellsFrom,sJ,run_load,qQ,ng,o4];rw[Bf P w c o arr elem fz hc n (i+1) _ (by omega)];have hd:arr.toList.drop (o+i)=arr[o+i] ::arr.toList.drop (o+(i+1)):=by rw[zqt (by simpa using cQ)];simp[Nat.add_assoc]
  rw[hd];apply congrArg (fun x=>Result.ok x w);apply Array.ext';simp
theorem nY(P:Program)(w:World)(c o:Nat)(arr:Array Value)(elem:TypeId)(fz:Nat×Nat)(hc:w.heap[c]?=some (.cells arr elem fz))(n:Nat)(h:o+n≤arr.size) :
  (loadCells ⟨c,o,none⟩ n).run P w=.ok ((arr.toList.drop o).take n).toArray w:=by
 have:=Bf P w c o arr elem fz hc n 0 #[] (by omega);simpa[loadCells]using this
def mg(arr:Array Value)(o:Nat):List Value→Array Value
 | []=>arr
 |v ::vs=>mg (arr.setIfInBounds o v) (o+1) vs
theorem oa:∀(vs:List Value) (arr:Array Value) (o:Nat),(mg arr o vs).size=arr.size
 | [],_,_=>rfl
 |v ::vs,arr,o=>by simp[mg,oa vs]
theorem jZ:∀(vs:List Value) (arr:Array Value) (o j:Nat),o+vs.length≤arr.size→
  (mg arr o vs)[j]?=if o≤j∧j<o+vs.length then vs[j-o]? else arr[j]?
 | [],arr,o,j,_=>by
  have:¬(o≤j∧j<o+([]:List Value).length):=by simp
  rw[if_neg this];rfl
 |v ::vs,arr,o,j,h=>by
  simp only[ZW]at h;rw[mg,jZ vs _ (o+1) j (by simp;omega)];simp only[ZW];by_cases hj:o=j
  ·subst hj;rw[if_neg (by omega),if_pos (by omega)];have:o<arr.size:=by omega
   simp[this]
  ·by_cases h1:o+1≤j∧j<o+1+vs.length
   ·rw[if_pos h1,if_pos (by omega)];have:j-o=(j-(o+1))+1:=by omega
    rw[this];simp
   ·rw[if_neg h1,if_neg (by omega),zqn hj]
theorem qP(P:Program)(c o:Nat)(elem:TypeId):∀(vs:List Value) (i:Nat) (w:World) (arr:Array Value),
  w.heap[c]?=some (.cells arr elem (0,0))→o+i+vs.length≤arr.size→(∀v∈vs,v.oneCell'=true)→
  ∃w',(storeCells ⟨c,o,none⟩ vs i).run P w=.ok () w'∧Touch w w' c∧w'.heap.size=w.heap.size∧w'.heap[c]?=some (.cells (mg arr (o+i) vs) elem (0,0))
 | [],i,w,arr,hc,_,_=>⟨w,rfl,Touch.refl w c,rfl,hc⟩
 |v ::vs,i,w,arr,hc,hs,hv=>by
  simp only[ZW]at hs;have cQ:o+i<arr.size:=by omega
  have ng:w.cell? ⟨c,o+i,none⟩=some arr[o+i]:=by rw[Q4 hc];simp[cQ]
  have Yl:w.frozen? ⟨c,o+i,none⟩=false:=by simp[World.frozen?,hc]
  have Oc:c<w.heap.size:=by
   rcases KA c w.heap.size with h'|h'
   ·exact h'
   ·rw[ZS h']at hc;cases hc
  have LU:(w.setCell ⟨c,o+i,none⟩ v).heap[c]?=some (.cells (arr.setIfInBounds (o+i) v) elem (0,0)):=by simp[World.setCell,Array.getElem?_modify,hc]
  obtain⟨w',h1,h2,h3,h4⟩:=qP P c o elem vs (i+1) (w.setCell ⟨c,o+i,none⟩ v) _ LU (by simp;omega) (fun u hu=>hv u (by simp[hu]));refine⟨w',?_,?_,?_,?_⟩
  ·simp only[storeCells,sJ,qQ,run_store P w _ v _ (hv v (by simp)),ng,Yl,Wh,if_false,o4];exact h1
  ·have ht:Touch w (w.setCell ⟨c,o+i,none⟩ v) c:=⟨rfl,rfl,rfl,by simp,fun k hk _=>Below.heap_setCell w ⟨c,o+i,none⟩ v k hk,fE _⟩;exact ht.trans h2
  ·rw[h3];simp
  ·rw[h4,mg,Nat.add_assoc]
end Go.Sx
