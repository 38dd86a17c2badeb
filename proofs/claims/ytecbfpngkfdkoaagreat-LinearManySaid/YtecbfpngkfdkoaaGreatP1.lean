/- A part of the proof. No condition. -/
import GoSem.Step
import Derived.Below
import Derived.Laws.Sem
import Derived.Laws.World
set_option linter.unusedSimpArgs false
set_option linter.unusedVariables false
set_option linter.unusedSectionVars false
namespace Go.Sx
theorem fa:type_of% @Nat.le_refl:=@Nat.le_refl
theorem xF:type_of% @List.getElem?_eq_getElem:=@List.getElem?_eq_getElem
theorem vJ:type_of% @List.all_eq_true:=@List.all_eq_true
theorem o9:type_of% @Nat.eq_of_beq_eq_true:=@Nat.eq_of_beq_eq_true
theorem kO:type_of% @Bool.and_eq_true:=@Bool.and_eq_true
theorem Ho:type_of% @List.length_append:=@List.length_append
theorem K3:type_of% @List.mem_cons:=@List.mem_cons
theorem OV:type_of% @List.take_of_length_le:=@List.take_of_length_le
theorem zqi:type_of% @List.length_cons:=@List.length_cons
theorem VY:type_of% @Array.getElem?_eq_none:=@Array.getElem?_eq_none
theorem zqk:type_of% @List.flatten_cons:=@List.flatten_cons
theorem Lk:type_of% @Nat.lt_of_lt_of_le:=@Nat.lt_of_lt_of_le
theorem SH:type_of% @Bool.false_eq_true:=@Bool.false_eq_true
theorem zqn:type_of% @Array.getElem?_setIfInBounds_ne:=@Array.getElem?_setIfInBounds_ne
theorem zqo:type_of% @List.getElem?_eq_none:=@List.getElem?_eq_none
theorem Mg:type_of% @List.getElem_mem:=@List.getElem_mem
theorem zqq:type_of% @List.drop_append:=@List.drop_append
theorem SK:type_of% @List.eq_nil_of_length_eq_zero:=@List.eq_nil_of_length_eq_zero
theorem Jy:type_of% @Nat.lt_or_ge:=@Nat.lt_or_ge
theorem zqt:type_of% @List.drop_eq_getElem_cons:=@List.drop_eq_getElem_cons
theorem Zz:type_of% @List.take_succ_eq_append_getElem:=@List.take_succ_eq_append_getElem
theorem Rh:type_of% @List.mem_map:=@List.mem_map
theorem zqw:type_of% @List.take_append:=@List.take_append
theorem Zw:type_of% @List.map_cons:=@List.map_cons
theorem V9:type_of% @List.length_take:=@List.length_take
theorem dI:type_of% @Option.some.injEq:=@Option.some.injEq
inductive Key where
 |z
 |o (k:Key)
 |e (k:Key)
def Key.toNat:Key→Nat
 |.z=>0
 |.o k=>2*k.toNat+1
 |.e k=>2*k.toNat+2
noncomputable def Key.succ(k:Key):Key:=
 Key.rec (.o .z) (fun k _=>.e k) (fun _ ih=>.o ih) k
def Key.fe:Nat→Nat→Key
 |0,_=>.z
 |f+1,n=>bif Nat.beq n 0 then .z else bif Nat.beq (n%2) 1 then .o (Key.fe f (n / 2))else .e (Key.fe f (n / 2-1))
def Key.beq:Key→Key→Bool
 |.z,.z=>true
 |.o a,.o b=>Key.beq a b
 |.e a,.e b=>Key.beq a b
 |_,_=>false
inductive T(α:Type) where
 |nil
 |node (v:Option α) (l r:T α)
noncomputable def ae{α:Type}(k:Key):T α→Option α:=
 Key.rec (fun t=>T.rec none (fun v _ _ _ _=>v) t) (fun _ ih t=>T.rec none (fun _ l _ _ _=>ih l) t)
  (fun _ ih t=>T.rec none (fun _ _ r _ _=>ih r) t) k
noncomputable def vU{α R:Type}(k:Key)(x:Option α):T α→(T α→R)→R:=
 Key.rec (fun t c=>T.rec (c (.node x .nil .nil)) (fun _ l r _ _=>c (.node x l r)) t)
  (fun _ ih t c=>T.rec (ih .nil fun l=>c (.node none l .nil)) (fun v l r _ _=>ih l fun l=>c (.node v l r)) t)
  (fun _ ih t c=>T.rec (ih .nil fun r=>c (.node none .nil r)) (fun v l r _ _=>ih r fun r=>c (.node v l r)) t) k
noncomputable def nth{α:Type}(n:Nat):List α→Option α:=
 Nat.rec (fun l=>List.rec none (fun x _ _=>some x) l) (fun _ ih l=>List.rec none (fun _ t _=>ih t) l) n
noncomputable def wC{α:Type}(n:Nat):List α→List α:=
 Nat.rec (fun l=>l) (fun _ ih l=>List.rec [] (fun _ t _=>ih t) l) n
noncomputable def zZ{α R:Type}(n:Nat):List α→R→(List α→R)→R:=
 Nat.rec (fun _ _ c=>c []) (fun _ ih l bad c=>List.rec bad (fun x t _=>ih t bad fun r=>c (x ::r)) l) n
noncomputable def acH{α R:Type}(vs:List α):List α→R→(List α→R)→R:=
 List.rec (fun l _ c=>c l) (fun v _ ih l bad c=>List.rec bad (fun _ t _=>ih t bad fun r=>c (v ::r)) l) vs
noncomputable def Wa{α R:Type}(vs:List α)(off:Nat):List α→R→(List α→R)→R:=
 Nat.rec (fun l bad c=>acH vs l bad c) (fun _ ih l bad c=>List.rec bad (fun x t _=>ih t bad fun r=>c (x ::r)) l) off
noncomputable def Rn{α R:Type}(a b:List α)(c:List α→R):R:=
 List.rec (motive:=fun _=>(List α→R)→R) (fun c=>c b) (fun x _ ih c=>ih fun r=>c (x ::r)) a c
noncomputable def lenL{α:Type}(l:List α):Nat:=List.rec 0 (fun _ _ ih=>Nat.succ ih) l
noncomputable def Ll{α:Type}(n:Nat)(zs:List α):List α→List α:=
 Nat.rec (fun acc=>acc) (fun _ ih acc=>Rn zs (ih acc) fun r=>r) n
inductive SI where
 |lit (n:Int)
 |var (i:Nat)
 |bin (op:BinOp) (k:IntKind) (a b:SI)
inductive SF where
 |any
 |tok (b:Key)
inductive AV where
 |bool (b:Bool)
 |int (k:IntKind) (n:SI)
 |str (n c:Nat)
 |ptr (b:Key) (off:Nat)
 |nilp
 |slice (b:Key) (off len sz:Nat)
 |nils
 |map (b:Key)
 |nilm
 |fn (f:Nat) (first cap:List AV)
 |yld (l:Key)
 |nilf
 |iface (t:Nat) (v:AV)
 |nili
 |agg (l:List AV)
 |tuple (l:List AV)
 |sl (l:List AV) (len sz:Nat) (fl:SF)
 |cref (l:List AV)
def AV.cells:AV→List AV
 |.agg l=>l
 |v=>[v]
def AV.aP:AV→Bool
 |.agg _=>false
 |.tuple _=>false
 |_=>true
def eqI:Int→Int→Bool
 |.ofNat a,.ofNat b=>Nat.beq a b
 |.negSucc a,.negSucc b=>Nat.beq a b
 |_,_=>false
def SP:Int→Int→Bool
 |.ofNat a,.ofNat b=>Nat.blt a b
 |.negSucc a,.negSucc b=>Nat.blt b a
 |.negSucc _,.ofNat _=>true
 |.ofNat _,.negSucc _=>false
def Lm:BinOp→BinOp→Bool
 |.add,.add|.sub,.sub|.mul,.mul|.quo,.quo|.rem,.rem|.lss,.lss|.leq,.leq|.gtr,.gtr|.geq,.geq|.eql,.eql|.neq,.neq=>true
 |_,_=>false
def beqKind:IntKind→IntKind→Bool
 |.i8,.i8|.i16,.i16|.i32,.i32|.i64,.i64|.u8,.u8|.u16,.u16|.u32,.u32|.u64,.u64=>true
 |_,_=>false
def SI.beq:SI→SI→Bool
 |.lit a,.lit b=>eqI a b
 |.var i,.var j=>Nat.beq i j
 |.bin o k a b,.bin o' k' a' b'=>Lm o o'&&beqKind k k'&&SI.beq a a'&&SI.beq b b'
 |_,_=>false
def SF.beq:SF→SF→Bool
 |.any,.any=>true
 |.tok a,.tok b=>Key.beq a b
 |_,_=>false
mutual
def AV.beq:AV→AV→Bool
 |.bool a,.bool b=>a==b
 |.int k a,.int k' b=>beqKind k k'&&SI.beq a b
 |.str n c,.str n' c'=>Nat.beq n n'&&Nat.beq c c'
 |.ptr b o,.ptr b' o'=>Key.beq b b'&&Nat.beq o o'
 |.nilp,.nilp=>true
 |.slice b o l s,.slice b' o' l' s'=>Key.beq b b'&&Nat.beq o o'&&Nat.beq l l'&&Nat.beq s s'
 |.nils,.nils=>true
 |.map b,.map b'=>Key.beq b b'
 |.nilm,.nilm=>true
 |.fn f a c,.fn f' a' c'=>Nat.beq f f'&&AV.GK a a'&&AV.GK c c'
 |.yld l,.yld l'=>Key.beq l l'
 |.nilf,.nilf=>true
 |.iface t v,.iface t' v'=>Nat.beq t t'&&AV.beq v v'
 |.nili,.nili=>true
 |.agg l,.agg l'=>AV.GK l l'
 |.tuple l,.tuple l'=>AV.GK l l'
 |.sl l n z f,.sl l' n' z' f'=>AV.GK l l'&&Nat.beq n n'&&Nat.beq z z'&&SF.beq f f'
 |.cref l,.cref l'=>AV.GK l l'
 |_,_=>false
def AV.GK:List AV→List AV→Bool
 | [],[]=>true
 |a ::l,b ::m=>AV.beq a b&&AV.GK l m
 |_,_=>false
end
def full:IntKind→Int
 |.i8|.u8=>256
 |.i16|.u16=>65536
 |.i32|.u32=>4294967296
 |.i64|.u64=>18446744073709551616
def half:IntKind→Int
 |.i8=>128
 |.i16=>32768
 |.i32=>2147483648
 |.i64=>9223372036854775808
 |.u8=>256
 |.u16=>65536
 |.u32=>4294967296
 |.u64=>18446744073709551616
def bP(k:IntKind)(n:Int):Int:=
 bif SP (Int.emod n (full k)) (half k)then Int.emod n (full k)else Int.sub (Int.emod n (full k)) (full k)
inductive PX where
 |t (k:Key)
 |v (a:AV)
inductive K6 where
 |bool
 |int
 |str
 |ptr
 |iface
 |slice
 |func
 |map
 |parts (l:List (Nat×K6))
inductive Ji where
 |mov (x:PX)
 |pick (c a b:PX)
 |new (zs:List AV)
 |box (x:PX)
 |build (zs:List AV) (parts:List (Nat×Nat×PX))
 |bslice (sz len:Nat) (zs:List AV) (parts:List (Nat×Nat×PX))
 |load (agg:Bool) (n:Nat) (a:PX)
 |store (n:Nat) (a v:PX)
 |nilc (x:PX)
 |bin (op:BinOp) (x y:PX)
 |eq (neg:Bool) (p:K6) (x y:PX)
 |un (op:UnOp) (x:PX)
 |cint (k:IntKind) (x:PX)
 |mkif (t:Nat) (x:PX)
 |mkfn (f:Nat) (first cap:List PX)
 |mkmap
 |mkslice (sz:Nat) (zs:List AV) (l c:PX)
 |sliceS (x:PX) (lo hi:Option PX)
 |sliceL (sz:Nat) (x:PX) (lo hi:Option PX)
 |fieldA (off:Nat) (x:PX)
 |field (agg:Bool) (off n:Nat) (x:PX)
 |indexA (len sz:Nat) (x i:PX)
 |indexL (sz:Nat) (x i:PX)
 |indexS (x i:PX)
 |indexV (len:Nat) (agg:Bool) (sz:Nat) (x i:PX)
 |lookup (sk:Bool) (zero:AV) (ok:Bool) (m k:PX)
 |mapupd (sk:Bool) (m k v:PX)
 |strb (x:PX)
 |assert (t:Nat) (zero:AV) (ok:Bool) (x:PX)
 |extract (x:PX) (i:Nat)
 |callF (f:Nat) (args:List PX)
 |callV (v:PX) (args:List PX)
 |lenS (x:PX)
 |lenL (x:PX)
 |append (sz:Nat) (s x:PX)
 |mx (isMax:Bool) (a b:PX)
 |dfr (v:PX) (args:List PX)
 |panic (x:PX)
 |recover
structure ay where
 dst:Option Key
 op:Ji
 guard:Option (Key×Bool)
inductive aL where
 |L (i:Nat) (o:ay)
 |A (i:Nat) (o:ay)
 |H (i:Nat) (o:ay) (Eg:List Nat)
 |R (os:List (Nat×ay))
structure SD where
 ds:List Key
 jj:List (Nat×List Nat)
inductive aG where
 |skip
 |ops (l:List ay)
 |staged (l:List aL) (iJ:SD)
 |seq (a b:aG)
 |cond (c:PX) (a b:aG)
 |block (id:Nat) (c:aG)
 |loop (c:aG)
 |rangeF (f:PX) (params:List Key) (assign body:aG)
 |exit (id:Nat)
 |ret
inductive RV where
 |tmp (k:Key)
 |cell (k:Key) (agg:Bool) (n:Nat)
structure ej where
 body:aG
 res:List RV
inductive LS where
 |ready|busy|done|exhausted
inductive CK where
 |fix|ro|part
inductive ah where
 |cells (l:List AV) (k:CK)
 |map (l:List (AV×AV))
 |loop (st:LS) (pending:Option aG) (fn:Nat) (tm:T AV) (res:List RV) (params:List Key) (assign body:aG) (dfs:Key)
 |dfs (taken:Bool)
 |tok
inductive cT where
 |code (c:aG)
 |inBlock (id:Nat)
 |inLoop (c:aG)
 |ops (l:List ay)
 |staged (l:List aL) (iJ:SD) (aq:List (Nat×Key×ah))
 |inRF (l:Key)
 |endRF (l:Key)
 |beginRound
inductive agy where
 |run
 |ret
 |pan (v:AV) (recovered:Bool)
inductive TR where
 |fn (f:Nat) (args:List AV)
 |coll (b:Key)
structure lG where
 fn:Nat
 tm:T AV
 todo:List cT
 dfs:List TR
 mode:agy
 Ew:Bool
 sV:Option Key
 res:List RV
structure AM where
 fr:lG
 cs:List lG
 h:T ah
 nx:Key
inductive OR where
 |val (v:AV) (h:T ah) (nx:Key)
 |call (f:Nat) (args:List AV)
 |yld (l:Key) (args:List AV)
 |pan (v:AV)
 |dfr (f:Nat) (args:List AV)
 |recover
 |bad (why:Nat)
abbrev iG:=List (BinOp×SI×SI×Bool)
def iG.ask(op:BinOp)(a b:SI):iG→Option Bool
 | []=>none
 |(o,x,y,r) ::l=>bif Lm o op&&SI.beq x a&&SI.beq y b then some r else iG.ask op a b l
noncomputable def PX.at(x:PX)(tm:T AV):Option AV:=
 match x with
 |.t k=>ae k tm
 |.v a=>some a
noncomputable def atAll(tm:T AV):List PX→Option (List AV)
 | []=>some []
 |x ::l=>match x.at tm with
  |none=>none
  |some a=>match atAll tm l with
   |none=>none
   |some r=>some (a ::r)
def Oq(k:IntKind)(n:Int):Nat:=Int.toNat (Int.emod n (full k))
def arith(op:BinOp)(k:IntKind)(a b:SI):Option SI:=
 match a,b with
 |.lit x,.lit y=>match op with
  |.add=>some (.lit (bP k (Int.add x y)))
  |.sub=>some (.lit (bP k (Int.sub x y)))
  |.mul=>some (.lit (bP k (Int.mul x y)))
  |.quo=>bif eqI y 0 then none else some (.lit (bP k (Int.tdiv x y)))
  |.rem=>bif eqI y 0 then none else some (.lit (Int.tmod x y))
  |.xor=>match k,x,y with
   |.u64,.ofNat m,.ofNat n=>some (.lit (Int.emod (.ofNat (Nat.xor m n)) 18446744073709551616))
   |k,x,y=>some (.lit (bP k (.ofNat (Nat.xor (Oq k x) (Oq k y)))))
  |.or=>match k,x,y with
   |.u64,.ofNat m,.ofNat n=>some (.lit (Int.emod (.ofNat (Nat.lor m n)) 18446744073709551616))
   |k,x,y=>some (.lit (bP k (.ofNat (Nat.lor (Oq k x) (Oq k y)))))
  |.and=>match k,x,y with
   |.u64,.ofNat m,.ofNat n=>some (.lit (Int.emod (.ofNat (Nat.land m n)) 18446744073709551616))
   |k,x,y=>some (.lit (bP k (.ofNat (Nat.land (Oq k x) (Oq k y)))))
  |_=>none
 |_,_=>match op with
  |.add|.sub|.mul=>some (.bin op k a b)
  |_=>none
def GL(orc:iG)(op:BinOp)(a b:SI):Option Bool:=
 match a,b with
 |.lit x,.lit y=>match op with
  |.eql=>some (eqI x y)
  |.neq=>some (!(eqI x y))
  |.lss=>some (SP x y)
  |.leq=>some (!(SP y x))
  |.gtr=>some (SP y x)
  |.geq=>some (!(SP x y))
  |_=>none
 |_,_=>bif SI.beq a b then(match op with
  |.eql|.leq|.geq=>some true
  |.neq|.lss|.gtr=>some false
  |_=>none)else orc.ask op a b
def isCmp:BinOp→Bool
 |.eql|.neq|.lss|.leq|.gtr|.geq=>true
 |_=>false
def ltS:Nat→Nat→Nat→Nat→Bool
 |0,_,m,_=>bif Nat.beq m 0 then false else true
 |n+1,c,m,d=>
  bif Nat.beq m 0 then false
  else bif Nat.blt (c%256) (d%256)then true
  else bif Nat.beq (c%256) (d%256)then ltS n (c / 256) (m-1) (d / 256)else false
def opS(op:BinOp)(n c m d:Nat):Option AV:=
 match op with
 |.add=>bif Nat.ble (n+m) 4611686018427387904 then some (.str (n+m) (c+Nat.shiftLeft d (8*n)))else none
 |.eql=>some (.bool (Nat.beq n m&&Nat.beq c d))
 |.neq=>some (.bool (!(Nat.beq n m&&Nat.beq c d)))
 |.lss=>some (.bool (ltS n c m d))
 |.leq=>some (.bool (!(ltS m d n c)))
 |.gtr=>some (.bool (ltS m d n c))
 |.geq=>some (.bool (!(ltS n c m d)))
 |_=>none
def azN(c lo hi:Nat):AV:=.str (hi-lo) (Nat.mod (Nat.shiftRight c (8*lo)) (Nat.pow 2 (8*(hi-lo))))
mutual
noncomputable def jq(orc:iG):K6→AV→AV→Option Bool
 |.bool,.bool a,.bool b=>some (a==b)
 |.int,.int k a,.int k' b=>bif beqKind k k' then GL orc .eql a b else none
 |.str,.str n c,.str m d=>some (Nat.beq n m&&Nat.beq c d)
 |.ptr,.nilp,.nilp=>some true
 |.ptr,.nilp,.ptr _ _=>some false
 |.ptr,.ptr _ _,.nilp=>some false
 |.ptr,.ptr b o,.ptr b' o'=>bif Key.beq b b' then some (Nat.beq o o')else none
 |.ptr,.nilp,.cref _=>some false
 |.ptr,.cref _,.nilp=>some false
 |.iface,.nili,.nili=>some true
 |.iface,.nili,.iface _ _=>some false
 |.iface,.iface _ _,.nili=>some false
 |.slice,.nils,.nils=>some true
 |.slice,.nils,.slice _ _ _ _=>some false
 |.slice,.slice _ _ _ _,.nils=>some false
 |.slice,.nils,.sl _ _ _ _=>some false
 |.slice,.sl _ _ _ _,.nils=>some false
 |.func,.nilf,.nilf=>some true
 |.func,.nilf,.fn _ _ _=>some false
 |.func,.fn _ _ _,.nilf=>some false
 |.map,.nilm,.nilm=>some true
 |.map,.nilm,.map _=>some false
 |.map,.map _,.nilm=>some false
 |.parts l,.agg a,.agg b=>cJ orc l a b
 |_,_,_=>none
noncomputable def cJ(orc:iG):List (Nat×K6)→List AV→List AV→Option Bool
 | [],_,_=>some true
 |(off,p) ::l,a,b=>
  match nth off a,nth off b with
  |some x,some y=>match jq orc p x y with
   |some true=>cJ orc l a b
   |some false=>some false
   |none=>none
  |_,_=>none
end
noncomputable def JE(tm:T AV):List (Nat×Nat×PX)→List AV→Option (List AV)
 | [],cs=>some cs
 |(off,size,x) ::r,cs=>
  match x.at tm with
  |none=>none
  |some v=>bif Nat.beq (lenL v.cells) size then Wa v.cells off cs none (fun cs=>JE tm r cs)else none
noncomputable def wj(agg:Bool)(off n:Nat)(l:List AV):Option AV:=
 bif agg then zZ n (wC off l) none (fun r=>some (.agg r))else nth off l
def keyEq(orc:iG)(sk:Bool):AV→AV→Option Bool
 |.int k a,.int k' b=>bif beqKind k k' && !sk then GL orc .eql a b else none
 |.str n c,.str m d=>bif sk then some (Nat.beq n m&&Nat.beq c d)else none
 |_,_=>none
def findK(orc:iG)(sk:Bool)(k:AV):List (AV×AV)→Option (Option AV)
 | []=>some none
 |(a,v) ::l=>match keyEq orc sk k a with
  |some true=>some (some v)
  |some false=>findK orc sk k l
  |none=>none
def setK(orc:iG)(sk:Bool)(k x:AV):List (AV×AV)→Option (List (AV×AV))
 | []=>some [(k,x)]
 |(a,v) ::l=>match keyEq orc sk k a with
  |some true=>some ((k,x) ::l)
  |some false=>match setK orc sk k x l with
   |some r=>some ((a,v) ::r)
   |none=>none
  |none=>none
def dE:AV→Bool
 |.bool _|.int _ _|.str _ _=>true
 |_=>false
noncomputable def newB(v:Key→AV)(b:ah)(h:T ah)(nx:Key):OR:=
 vU nx (some b) h fun h=>.val (v nx) h nx.succ
def pz:AV→Option Nat
 |.int _ (.lit (.ofNat n))=>some n
 |_=>none
noncomputable def lK(tm:T AV)(alF:Nat):Option PX→Option Nat
 |none=>some alF
 |some x=>match x.at tm with
  |none=>none
  |some v=>pz v
def bytesOf:Nat→Nat→List AV
 |0,_=>[]
 |n+1,c=>.int .u8 (.lit (.ofNat (c%256))) ::bytesOf n (c / 256)
noncomputable def allocOp(op:Ji)(tm:T AV):Option ((Key→AV)×ah):=
 match op with
 |.new zs=>some (fun b=>.ptr b 0,.cells zs .fix)
 |.box x=>match x.at tm with
  |some v=>some (fun b=>.ptr b 0,.cells v.cells .fix)
  |none=>none
 |.bslice sz len zs parts=>match JE tm parts (Ll len zs [])with
  |some cs=>some (fun b=>.slice b 0 len sz,.cells cs .fix)
  |none=>none
 |.mkmap=>some (fun b=>.map b,.map [])
 |.mkslice sz zs l c=>match l.at tm,c.at tm with
  |some l,some c=>match pz l,pz c with
   |some l,some c=>bif Nat.ble l c&&Nat.ble c 1048576 then some (fun b=>.slice b 0 l sz,.cells (Ll c zs []) .fix)else none
   |_,_=>none
  |_,_=>none
 |_=>none
noncomputable def loadB(h:T ah)(b:Key)(agg:Bool)(off n:Nat):Option AV:=
 match ae b h with
 |some (.cells l _)=>wj agg off n l
 |_=>none
def Lo(k:IntKind)(n:Nat):Bool:=match k with
 |.i64|.u64=>Nat.ble n 64
 |.i32|.u32=>Nat.ble n 32
 |.i16|.u16=>Nat.ble n 16
 |.i8|.u8=>Nat.ble n 8
noncomputable def lightOp(orc:iG)(op:Ji)(tm:T AV)(h:T ah):Option AV:=
 match op with
 |.mov x=>x.at tm
 |.pick c a b=>match c.at tm with
  |some (.bool true)=>a.at tm
  |some (.bool false)=>b.at tm
  |_=>none
 |.build zs parts=>match JE tm parts zs with
  |some cs=>some (.agg cs)
  |none=>none
 |.load agg n a=>match a.at tm with
  |some (.ptr b off)=>loadB h b agg off n
  |some (.cref l)=>wj agg 0 n l
  |_=>none
 |.nilc x=>match x.at tm with
  |some (.ptr b o)=>some (.ptr b o)
  |some (.cref l)=>some (.cref l)
  |some (.fn f a c)=>some (.fn f a c)
  |some (.yld l)=>some (.yld l)
  |some (.iface t v)=>some (.iface t v)
  |_=>none
 |.bin op x y=>match x.at tm,y.at tm with
  |some (.int k a),some (.int k' b)=>
   match op with
   |.shl=>match a,b with
    |.lit a,.lit (.ofNat n)=>bif Lo k n then some (.int k (.lit (bP k (Int.mul a (.ofNat (Nat.pow 2 n))))))else none
    |_,_=>none
   |.shr=>match a,b with
    |.lit (.ofNat a),.lit (.ofNat n)=>bif Lo k n then some (.int k (.lit (.ofNat (Nat.div a (Nat.pow 2 n)))))else none
    |.lit (.negSucc a),.lit (.ofNat n)=>bif Lo k n then some (.int k (.lit (.negSucc (Nat.div a (Nat.pow 2 n)))))else none
    |_,_=>none
   |op=>bif beqKind k k' then
     (bif isCmp op then(match GL orc op a b with|some r=>some (.bool r)|none=>none)
     else(match arith op k a b with|some r=>some (.int k r)|none=>none))
    else none
  |some (.str n c),some (.str m d)=>opS op n c m d
  |_,_=>none
 |.eq neg p x y=>match x.at tm,y.at tm with
  |some a,some b=>match jq orc p a b with
   |some r=>some (.bool (bif neg then !r else r))
   |none=>none
  |_,_=>none
 |.un op x=>match op,x.at tm with
  |.not,some (.bool b)=>some (.bool (!b))
  |.neg,some (.int k a)=>match arith .sub k (.lit 0) a with
   |some r=>some (.int k r)
   |none=>none
  |_,_=>none
 |.cint k x=>match x.at tm with
  |some (.int _ (.lit n))=>some (.int k (.lit (bP k n)))
  |_=>none
 |.mkif t x=>match x.at tm with
  |some v=>some (.iface t v)
  |none=>none
 |.mkfn f first cap=>match atAll tm first,atAll tm cap with
  |some a,some c=>some (.fn f a c)
  |_,_=>none
 |.sliceS x lo hi=>match x.at tm with
  |some (.str n c)=>match lK tm 0 lo,lK tm n hi with
   |some l,some r=>bif Nat.ble l r&&Nat.ble r n then some (azN c l r)else none
   |_,_=>none
  |_=>none
 |.sliceL sz x lo hi=>match x.at tm with
  |some (.slice b off len Jd)=>match lK tm 0 lo,lK tm len hi with
   |some l,some r=>bif Nat.ble l r&&Nat.ble r len&&Nat.beq sz Jd then some (.slice b (off+l*sz) (r-l) sz)else none
   |_,_=>none
  |some .nils=>match lK tm 0 lo,lK tm 0 hi with
   |some l,some r=>bif Nat.beq l 0&&Nat.beq r 0 then some .nils else none
   |_,_=>none
  |some (.sl cs len Jd fl)=>match lK tm 0 lo,lK tm len hi with
   |some l,some r=>bif Nat.ble l r&&Nat.ble r len&&Nat.beq sz Jd then
     zZ ((r-l)*sz) (wC (l*sz) cs) none (fun cs=>some (.sl cs (r-l) sz (bif Nat.beq r len then fl else .any)))else none
   |_,_=>none
  |_=>none
 |.fieldA off x=>match x.at tm with
  |some (.ptr b o)=>some (.ptr b (o+off))
  |some (.cref l)=>some (.cref (wC off l))
  |_=>none
 |.field agg off n x=>match x.at tm with
  |some (.agg l)=>wj agg off n l
  |_=>none
 |.indexA len sz x i=>match x.at tm,i.at tm with
  |some (.ptr b o),some v=>match pz v with
   |some j=>bif Nat.blt j len then some (.ptr b (o+j*sz))else none
   |none=>none
  |some (.cref l),some v=>match pz v with
   |some j=>bif Nat.blt j len then some (.cref (wC (j*sz) l))else none
   |none=>none
  |_,_=>none
 |.indexL sz x i=>match x.at tm,i.at tm with
  |some (.slice b off len Jd),some v=>match pz v with
   |some j=>bif Nat.blt j len&&Nat.beq sz Jd then some (.ptr b (off+j*sz))else none
   |none=>none
  |some (.sl l len Jd _),some v=>match pz v with
   |some j=>bif Nat.blt j len&&Nat.beq sz Jd then zZ sz (wC (j*sz) l) none (fun r=>some (.cref r))else none
   |none=>none
  |_,_=>none
 |.indexS x i=>match x.at tm,i.at tm with
  |some (.str n c),some v=>match pz v with
   |some j=>bif Nat.blt j n then some (.int .u8 (.lit (.ofNat (Nat.mod (Nat.shiftRight c (8*j)) 256))))else none
   |none=>none
  |_,_=>none
 |.indexV len agg sz x i=>match x.at tm,i.at tm with
  |some (.agg l),some v=>match pz v with
   |some j=>bif Nat.blt j len then wj agg (j*sz) sz l else none
   |none=>none
  |_,_=>none
 |.lookup sk zero ok m k=>match m.at tm,k.at tm with
  |some (.map b),some k=>match ae b h with
   |some (.map l)=>match findK orc sk k l with
    |some (some v)=>some (bif ok then .tuple [v,.bool true]else v)
    |some none=>some (bif ok then .tuple [zero,.bool false]else zero)
    |none=>none
   |_=>none
  |_,_=>none
 |.assert t zero ok x=>match x.at tm with
  |some (.iface t' v)=>bif ok then(bif Nat.beq t t' then some (.tuple [v,.bool true])else some (.tuple [zero,.bool false]))
    else(bif Nat.beq t t' then some v else none)
  |_=>none
 |.extract x i=>match x.at tm with
  |some (.tuple l)=>nth i l
  |_=>none
 |.lenS x=>match x.at tm with
  |some (.str n _)=>some (.int .i64 (.lit (.ofNat n)))
  |_=>none
 |.lenL x=>match x.at tm with
  |some (.slice _ _ n _)=>some (.int .i64 (.lit (.ofNat n)))
  |some (.sl _ n _ _)=>some (.int .i64 (.lit (.ofNat n)))
  |some .nils=>some (.int .i64 (.lit (.ofNat 0)))
  |_=>none
 |.mx isMax a b=>match a.at tm,b.at tm with
  |some (.int k x),some (.int k' y)=>bif beqKind k k' then(match GL orc (bif isMax then .gtr else .lss) y x with
   |some true=>some (.int k y)
   |some false=>some (.int k x)
   |none=>none)else none
  |_,_=>none
 |_=>none
noncomputable def K9{R:Type}(g:AV→T ah→(AV→T ah→R)→R)(l:List AV):T ah→(List AV→T ah→R)→R:=
 List.rec (fun h c=>c [] h) (fun v _ ih h c=>g v h fun v h=>ih h fun r h=>c (v ::r) h) l
noncomputable def y8{R:Type}(ih:AV→T ah→(AV→T ah→R)→R)(v:AV)(h:T ah)(c:AV→T ah→R):R:=
 match v with
 |.slice b off len sz=>match ae b h with
  |some (.cells l .fix)=>zZ (len*sz) (wC off l) (c v h) fun cs=>vU b (some (.cells l .ro)) h fun h=>K9 ih cs h fun cs h=>c (.sl cs len sz .any) h
  |some (.cells l .ro)=>zZ (len*sz) (wC off l) (c v h) fun cs=>K9 ih cs h fun cs h=>c (.sl cs len sz .any) h
  |some (.cells l .part)=>zZ (len*sz) (wC off l) (c v h) fun cs=>vU b none h fun h=>K9 ih cs h fun cs h=>c (.sl cs len sz .any) h
  |_=>c v h
 |.sl l len sz _=>c (.sl l len sz .any) h
 |.agg cs=>K9 ih cs h fun cs h=>c (.agg cs) h
 |v=>c v h
noncomputable def frz{R:Type}(n:Nat):AV→T ah→(AV→T ah→R)→R:=
 Nat.rec (fun v h c=>c v h) (fun _ ih v h c=>y8 ih v h c) n
def Cx(sz:Nat):Bool:=Nat.beq sz 10
noncomputable def appendTo(sz:Nat)(s:AV)(new:List AV)(m:Nat)(h:T ah)(nx:Key):OR:=
 match s with
 |.nils=>bif Nat.beq m 0 then .val .nils h nx else bif Nat.ble m 1048576 then vU nx (some (.cells new .part)) h fun h=>.val (.slice nx 0 m sz) h nx.succ else .bad 25
 |.sl l len Jd fl=>bif Nat.beq m 0 then .val (.sl l len Jd fl) h nx else bif Nat.beq sz Jd&&Nat.ble (len+m) 1048576&&new.all AV.aP then
  (match fl with
  |.any=>.bad 11
  |.tok b=>match ae b h with
   |some .tok=>Rn l new fun r=>vU b none h fun h=>vU nx (some .tok) h fun h=>.val (.sl r (len+m) sz (.tok nx)) h nx.succ
   |_=>.bad 15)else .bad 11
 |.slice b off len Jd=>bif Nat.beq sz Jd&&Nat.ble (len+m) 1048576&&new.all AV.aP then
  (match ae b h with
  |some (.cells l .fix)=>
   bif Nat.ble (off+(len+m)*sz) (lenL l)then
    Wa new (off+len*sz) l (.bad 12) (fun l=>vU b (some (.cells l .fix)) h fun h=>.val (.slice b off (len+m) sz) h nx)
   else zZ (len*sz) (wC off l) (.bad 14) (fun old=>K9 (frz 9999) old h fun old h=>Rn old new (fun r=>vU nx (some (.cells r .part)) h fun h=>.val (.slice nx 0 (len+m) sz) h nx.succ))
  |some (.cells l .ro)=>
   bif Nat.ble (off+(len+m)*sz) (lenL l)then .bad 13
   else zZ (len*sz) (wC off l) (.bad 14) (fun old=>K9 (frz 9999) old h fun old h=>Rn old new (fun r=>vU nx (some (.cells r .part)) h fun h=>.val (.slice nx 0 (len+m) sz) h nx.succ))
  |some (.cells l .part)=>
   bif Nat.beq m 0 then .val (.slice b off len Jd) h nx
   else bif (Nat.beq off 0 || !Cx sz)&&Nat.beq (off+len*sz) (lenL l)then
    (bif Cx sz then Rn l new fun r=>vU b none h fun h=>vU nx (some (.cells r .part)) h fun h=>.val (.slice nx 0 (len+m) sz) h nx.succ
    else Rn (wC off l) new fun r=>vU b none h fun h=>vU nx (some .tok) h fun h=>.val (.sl r (len+m) sz (.tok nx)) h nx.succ)
   else .bad 26
  |_=>.bad 15)else .bad 11
 |_=>.bad 16
def okV(h:T ah)(nx:Key):Option AV→OR
 |some v=>.val v h nx
 |none=>.bad 1
noncomputable def aOp(orc:iG)(op:Ji)(tm:T AV)(h:T ah)(nx:Key):OR:=
 match op with
 |.new _|.box _|.bslice _ _ _ _|.mkmap|.mkslice _ _ _ _=>match allocOp op tm with
  |some (v,b)=>newB v b h nx
  |none=>.bad 2
 |.store n a v=>match a.at tm,v.at tm with
  |some (.ptr b off),some v=>bif Nat.beq (lenL v.cells) n&&v.cells.all AV.aP then
    (match ae b h with
    |some (.cells _ .ro)=>.bad 4
    |some (.cells l g)=>Wa v.cells off l (.bad 4) (fun l=>vU b (some (.cells l g)) h fun h=>.val (.tuple []) h nx)
    |_=>.bad 5)
   else .bad 6
  |_,_=>.bad 3
 |.mapupd sk m k v=>match m.at tm,k.at tm,v.at tm with
  |some (.map b),some k,some v=>match ae b h with
   |some (.map l)=>match setK orc sk k v l with
    |some l=>vU b (some (.map l)) h fun h=>.val (.tuple []) h nx
    |none=>.bad 7
   |_=>.bad 8
  |_,_,_=>.bad 9
 |.strb x=>match x.at tm with
  |some (.str n c)=>.val (.sl (bytesOf n c) n 1 .any) h nx
  |_=>.bad 69
 |.append sz s x=>match s.at tm,x.at tm with
  |some s,some .nils=>appendTo sz s [] 0 h nx
  |some s,some (.slice b off len Jd)=>bif Nat.beq sz Jd then(match ae b h with
   |some (.cells l _)=>zZ (len*sz) (wC off l) (.bad 17) (fun new=>K9 (frz 9999) new h fun new h=>appendTo sz s new len h nx)
   |_=>.bad 18)else .bad 19
  |some s,some (.sl l len Jd _)=>bif Nat.beq sz Jd then appendTo sz s l len h nx else .bad 19
  |some s,some (.str n c)=>bif Nat.beq sz 1 then appendTo sz s (bytesOf n c) n h nx else .bad 20
  |_,_=>.bad 10
 |.callF f args=>match atAll tm args with
  |some l=>.call f l
  |none=>.bad 21
 |.callV v args=>match v.at tm,atAll tm args with
  |some (.fn f first cap),some l=>.call f (first++l++cap)
  |some (.yld k),some l=>.yld k l
  |_,_=>.bad 22
 |.dfr v args=>match v.at tm,atAll tm args with
  |some (.fn f first cap),some l=>.dfr f (first++l++cap)
  |_,_=>.bad 23
 |.panic x=>match x.at tm with
  |some (.iface t v)=>.pan (.iface t v)
  |_=>.bad 24
 |.recover=>.recover
 |op=>okV h nx (lightOp orc op tm h)
noncomputable def cq(g:Option (Key×Bool))(tm:T AV):Option Bool:=
 match g with
 |none=>some true
 |some (k,want)=>match ae k tm with
  |some (.bool b)=>some (b==want)
  |some (.tuple [])=>some false
  |_=>none
noncomputable def wD{R:Type}(d:Option Key)(v:Option AV)(tm:T AV)(c:T AV→R):R:=
 match d with
 |none=>c tm
 |some k=>vU k v tm c
inductive SR where
 |next (m:AM)
 |done (f:Nat) (v:AV) (h:T ah) (nx:Key)
 |pan (v:AV) (h:T ah) (nx:Key)
 |bad (why:Nat) (m:AM)
structure bK where
 orc:iG
 fns:T ej
 sum:Nat→List AV→T ah→Key→Option (AV×T ah×Key)
 raw:Nat→Bool
 kY:Nat→Bool
inductive RR where
 |fin (tm:T AV) (h:T ah) (nx:Key)
 |ev (r:OR) (rest:List ay) (tm:T AV) (h:T ah) (nx:Key)
noncomputable def j6(orc:iG)(l:List ay):T AV→T ah→Key→RR:=
 List.rec (fun tm h nx=>.fin tm h nx)
  (fun o rest ih tm h nx=>match cq o.guard tm with
   |none=>.ev (.bad 30) (o ::rest) tm h nx
   |some false=>wD o.dst (some (.tuple [])) tm fun tm=>ih tm h nx
   |some true=>match aOp orc o.op tm h nx with
    |.val v h nx=>wD o.dst (some v) tm fun tm=>ih tm h nx
    |r=>.ev r (o ::rest) tm h nx) l
def memN(i:Nat):List Nat→Bool
 | []=>false
 |j ::l=>bif Nat.beq i j then true else memN i l
noncomputable def Eg{R:Type}(l:List Nat)(p:List (Nat×Key×ah)):T ah→(List (Nat×Key×ah)→T ah→R)→R:=
 List.rec (fun h c=>c [] h)
  (fun x _ ih h c=>bif memN x.1 l then vU x.2.1 (some x.2.2) h fun h=>ih h c else ih h fun p h=>c (x ::p) h) p
noncomputable def EL{R:Type}(p:List (Nat×Key×ah)):T ah→(T ah→R)→R:=
 List.rec (fun h c=>c h) (fun x _ ih h c=>vU x.2.1 (some x.2.2) h fun h=>ih h c) p
def DV(i:Nat):List (Nat×List Nat)→List Nat
 | []=>[]
 |(j,l) ::r=>bif Nat.beq i j then l else DV i r
noncomputable def wE(l:List Nat)(aq:List (Nat×Key×ah))(h:T ah):T ah:=match l with
 | []=>h
 |l=>Eg l aq h fun _ h=>h
noncomputable def recheck(orc:iG)(jj:List (Nat×List Nat))(aq:List (Nat×Key×ah))(tm:T AV)(h:T ah):List (Nat×ay)→Bool
 | []=>true
 |(i,o) ::l=>match cq o.guard tm with
  |some false=>match o.dst with
   |none=>false
   |some d=>match ae d tm with
    |some (.tuple [])=>recheck orc jj aq tm h l
    |_=>false
  |some true=>match o.dst with
   |none=>false
   |some d=>match ae d tm,lightOp orc o.op tm (wE (DV i jj) aq h)with
    |some v,some u=>bif AV.beq v u then recheck orc jj aq tm h l else false
    |_,_=>false
  |none=>false
inductive RS where
 |fin (tm:T AV) (h:T ah) (nx:Key)
 |ev (r:OR) (rest:List aL) (aq:List (Nat×Key×ah)) (tm:T AV) (h:T ah) (nx:Key)
noncomputable def gS(orc:iG)(jj:List (Nat×List Nat))(l:List aL):List (Nat×Key×ah)→T AV→T ah→Key→RS:=
 List.rec (fun aq tm h nx=>EL aq h fun h=>.fin tm h nx)
  (fun x rest ih aq tm h nx=>match x with
  |.L i o=>match cq o.guard tm with
   |none=>.ev (.bad 31) (x ::rest) aq tm h nx
   |some false=>wD o.dst (some (.tuple [])) tm fun tm=>ih aq tm h nx
   |some true=>match lightOp orc o.op tm (wE (DV i jj) aq h)with
    |some v=>wD o.dst (some v) tm fun tm=>ih aq tm h nx
    |none=>.ev (.bad 32) (x ::rest) aq tm h nx
  |.A i o=>match cq o.guard tm with
   |none=>.ev (.bad 33) (x ::rest) aq tm h nx
   |some false=>wD o.dst (some (.tuple [])) tm fun tm=>ih aq tm h nx
   |some true=>match allocOp o.op tm with
    |some (v,b)=>wD o.dst (some (v nx)) tm fun tm=>ih ((i,nx,b) ::aq) tm h nx.succ
    |none=>.ev (.bad 34) (x ::rest) aq tm h nx
  |.H _ o l=>Eg l aq h fun aq h=>match cq o.guard tm with
   |none=>.ev (.bad 35) (x ::rest) aq tm h nx
   |some false=>wD o.dst (some (.tuple [])) tm fun tm=>ih aq tm h nx
   |some true=>match aOp orc o.op tm h nx with
    |.val v h nx=>wD o.dst (some v) tm fun tm=>ih aq tm h nx
    |r=>.ev r (x ::rest) aq tm h nx
  |.R os=>bif recheck orc jj aq tm h os then ih aq tm h nx else .ev (.bad 36) (x ::rest) aq tm h nx) l
noncomputable def IA{R:Type}(l:List Key):T AV→(T AV→R)→R:=
 List.rec (fun tm c=>c tm) (fun k _ ih tm c=>vU k none tm fun tm=>ih tm c) l
noncomputable def Ug{R:Type}(l:List AV):Key→T AV→(T AV→R)→R:=
 List.rec (fun _ tm c=>c tm) (fun v _ ih k tm c=>vU k (some v) tm fun tm=>ih k.succ tm c) l
noncomputable def Uh{R:Type}:List Key→List AV→T AV→R→(T AV→R)→R
 | [],[],tm,_,c=>c tm
 |k ::l,v ::m,tm,bad,c=>vU k (some v) tm fun tm=>Uh l m tm bad c
 |_,_,_,bad,_=>bad
def lL(id:Nat):List cT→Option (List cT)
 | []=>none
 |.inBlock id' ::k=>bif Nat.beq id' id then some k else lL id k
 |_ ::k=>lL id k
noncomputable def cz(v:AV)(fr:lG):Option lG:=
 match fr.todo with
 |.ops (o ::rest) ::k=>wD o.dst (some v) fr.tm fun tm=>some {fr with tm,todo:=.ops rest ::k}
 |.staged (.H _ o _ ::rest) iJ aq ::k=>wD o.dst (some v) fr.tm fun tm=>some {fr with tm,todo:=.staged rest iJ aq ::k}
 |.inRF l ::k=>some {fr with todo:=.endRF l ::k}
 |_=>none
noncomputable def resultsA(h:T ah)(tm:T AV):List RV→Option (List AV)
 | []=>some []
 |.tmp k ::l=>match ae k tm,resultsA h tm l with
  |some v,some r=>some (v ::r)
  |_,_=>none
 |.cell k agg n ::l=>match ae k tm,resultsA h tm l with
  |some (.ptr b off),some r=>match loadB h b agg off n with
   |some v=>some (v ::r)
   |none=>none
  |_,_=>none
def mz:List AV→AV
 | [v]=>v
 |l=>.tuple l
noncomputable def Ey(C:bK)(f:Nat)(args:List AV)(Ew:Bool)(bad:SR)(c:lG→SR):SR:=
 match (bif Nat.beq (Key.fe 12 f).toNat f then ae (Key.fe 12 f) C.fns else none)with
 |some p=>Ug args .z .nil fun tm=>c {fn:=f,tm,todo:=[.code p.body],dfs:=[],mode:=.run,Ew,sV:=none,res:=p.res}
 |none=>bad
noncomputable def agq{R:Type}(raw:Bool)(l:List AV)(h:T ah)(c:List AV→T ah→R):R:=bif raw then c l h else K9 (frz 9999) l h c
noncomputable def iK(C:bK)(r:OR)(fr:lG)(panicked:lG)(cs:List lG)(h:T ah)(nx:Key):SR:=
 match r with
 |.call f args=>agq (C.raw f) args h fun args h=>match C.sum f args h nx with
  |some (v,h,nx)=>match cz v fr with
   |some fr=>.next ⟨fr,cs,h,nx⟩
   |none=>.bad 39 ⟨fr,cs,h,nx⟩
  |none=>Ey C f args false (.bad 40 ⟨fr,cs,h,nx⟩) fun gD=>.next ⟨gD,fr ::cs,h,nx⟩
 |.yld l args=>match ae l h with
  |some (.loop _ _ fn tm res params assign body _)=>
   Uh params args tm (.bad 41 ⟨fr,cs,h,nx⟩) fun tm=>.next ⟨{fn,tm,todo:=[.code assign,.beginRound,.code body],dfs:=[],mode:=.run,Ew:=false,sV:=some l,res},fr ::cs,h,nx⟩
  |_=>.bad 42 ⟨fr,cs,h,nx⟩
 |.pan v=>.next ⟨{panicked with mode:=.pan v false},cs,h,nx⟩
 |.dfr f args=>match fr.sV with
  |none=>match cz (.tuple []) fr with
   |some fr=>.next ⟨{fr with dfs:=.fn f args ::fr.dfs},cs,h,nx⟩
   |none=>.bad 43 ⟨fr,cs,h,nx⟩
  |some _=>.bad 44 ⟨fr,cs,h,nx⟩
 |.recover=>match fr.sV,fr.Ew,cs with
  |none,true,c ::Gj=>match c.mode with
   |.pan v false=>match cz v fr with
    |some fr=>.next ⟨fr,{c with mode:=.pan v true} ::Gj,h,nx⟩
    |none=>.bad 45 ⟨fr,cs,h,nx⟩
   |.ret=>match cz .nili fr with
    |some fr=>.next ⟨fr,cs,h,nx⟩
    |none=>.bad 46 ⟨fr,cs,h,nx⟩
   |_=>.bad 47 ⟨fr,cs,h,nx⟩
  |_,_,_=>.bad 48 ⟨fr,cs,h,nx⟩
 |.val _ _ _=>.bad 49 ⟨fr,cs,h,nx⟩
 |.bad w=>.bad w ⟨fr,cs,h,nx⟩
noncomputable def JF(v:AV)(fr:lG)(cs:List lG)(h:T ah)(nx:Key):SR:=
 match cs with
 | []=>bif fr.Ew then .bad 55 ⟨fr,[],h,nx⟩else .done fr.fn v h nx
 |c ::cs=>bif fr.Ew then
   (match c.mode with
   |.pan _ true=>.next ⟨{c with mode:=.ret},cs,h,nx⟩
   |.run=>.bad 50 ⟨c,cs,h,nx⟩
   |_=>.next ⟨c,cs,h,nx⟩)
  else match cz v c with
   |some c=>.next ⟨c,cs,h,nx⟩
   |none=>.bad 51 ⟨c,cs,h,nx⟩
noncomputable def IH(jump:Option aG)(fr:lG)(cs:List lG)(h:T ah)(nx:Key):SR:=
 match fr.sV with
 |none=>match jump with
  |none=>.next ⟨{fr with mode:=.ret},cs,h,nx⟩
  |some .ret=>.next ⟨{fr with mode:=.ret},cs,h,nx⟩
  |_=>.bad 52 ⟨fr,cs,h,nx⟩
 |some l=>match cs with
  | []=>.bad 54 ⟨fr,cs,h,nx⟩
  |c ::cs=>match ae l h with
   |some (.loop _ _ fn tm res params assign body dfs)=>
    vU l (some (.loop (match jump with|none=>.ready|some _=>.done) jump fn tm res params assign body dfs)) h fun h=>
     match cz (.bool (match jump with|none=>true|some _=>false)) c with
     |some c=>.next ⟨c,cs,h,nx⟩
     |none=>.bad 51 ⟨c,cs,h,nx⟩
   |_=>.bad 53 ⟨fr,c ::cs,h,nx⟩
noncomputable def bT(C:bK)(fr:lG)(cs:List lG)(h:T ah)(nx:Key):SR:=
 match fr.todo with
 | []=>IH none fr cs h nx
 |x ::k=>match x with
  |.code c=>match c with
   |.skip=>.next ⟨{fr with todo:=k},cs,h,nx⟩
   |.ops l=>.next ⟨{fr with todo:=.ops l ::k},cs,h,nx⟩
   |.staged l d=>.next ⟨{fr with todo:=.staged l d [] ::k},cs,h,nx⟩
   |.seq a b=>.next ⟨{fr with todo:=.code a ::.code b ::k},cs,h,nx⟩
   |.cond x a b=>match x.at fr.tm with
    |some (.bool true)=>.next ⟨{fr with todo:=.code a ::k},cs,h,nx⟩
    |some (.bool false)=>.next ⟨{fr with todo:=.code b ::k},cs,h,nx⟩
    |_=>.bad 60 ⟨fr,cs,h,nx⟩
   |.block id c=>.next ⟨{fr with todo:=.code c ::.inBlock id ::k},cs,h,nx⟩
   |.loop c=>.next ⟨{fr with todo:=.code c ::.inLoop c ::k},cs,h,nx⟩
   |.exit id=>match lL id k with
    |some k=>.next ⟨{fr with todo:=k},cs,h,nx⟩
    |none=>IH (some (.exit id)) fr cs h nx
   |.ret=>IH (some .ret) fr cs h nx
   |.rangeF f params assign body=>match fr.sV,f.at fr.tm with
    |none,some (.fn g first cap)=>
     vU nx (some (.dfs false)) h fun h=>
     vU nx.succ (some (.loop .ready none fr.fn fr.tm fr.res params assign body nx)) h fun h=>
     Ey C g (first ++ .yld nx.succ ::cap) false (.bad 61 ⟨fr,cs,h,nx⟩) fun gD=>
      .next ⟨gD,{fr with todo:=.inRF nx.succ ::k,dfs:=.coll nx ::fr.dfs} ::cs,h,nx.succ.succ⟩
    |_,_=>.bad 62 ⟨fr,cs,h,nx⟩
  |.inBlock _=>.next ⟨{fr with todo:=k},cs,h,nx⟩
  |.inLoop c=>.next ⟨{fr with todo:=.code c ::.inLoop c ::k},cs,h,nx⟩
  |.ops l=>match j6 C.orc l fr.tm h nx with
   |.fin tm h nx=>.next ⟨{fr with tm,todo:=k},cs,h,nx⟩
   |.ev r rest tm h nx=>iK C r {fr with tm,todo:=.ops rest ::k} {fr with tm,todo:=[]} cs h nx
  |.staged l d aq=>match gS C.orc d.jj l aq fr.tm h nx with
   |.fin tm h nx=>.next ⟨{fr with tm,todo:=k},cs,h,nx⟩
   |.ev r rest aq tm h nx=>IA d.ds tm fun aw=>iK C r {fr with tm,todo:=.staged rest d aq ::k} {fr with tm:=aw,todo:=[]} cs h nx
  |.inRF _=>.bad 63 ⟨fr,cs,h,nx⟩
  |.endRF l=>match ae l h with
   |some (.loop st pending fn tm res params assign body dfs)=>match st with
    |.busy=>.bad 64 ⟨fr,cs,h,nx⟩
    |_=>vU l (some (.loop .exhausted pending fn tm res params assign body dfs)) h fun h=>
     .next ⟨{fr with todo:=match pending with|none=>k|some c=>.code c ::k},cs,h,nx⟩
   |_=>.bad 65 ⟨fr,cs,h,nx⟩
  |.beginRound=>match fr.sV with
   |none=>.bad 66 ⟨fr,cs,h,nx⟩
   |some l=>match ae l h with
    |some (.loop .ready pending fn tm res params assign body dfs)=>
     vU l (some (.loop .busy pending fn tm res params assign body dfs)) h fun h=>.next ⟨{fr with todo:=k},cs,h,nx⟩
    |_=>.bad 67 ⟨fr,cs,h,nx⟩
noncomputable def yb(C:bK)(fr:lG)(cs:List lG)(h:T ah)(nx:Key):SR:=
 match fr.dfs with
 |.coll b ::ds=>match ae b h with
  |some (.dfs false)=>vU b (some (.dfs true)) h fun h=>.next ⟨{fr with dfs:=ds},cs,h,nx⟩
  |_=>.bad 70 ⟨fr,cs,h,nx⟩
 |.fn f args ::ds=>Ey C f args true (.bad 71 ⟨fr,cs,h,nx⟩) fun gD=>.next ⟨gD,{fr with dfs:=ds} ::cs,h,nx⟩
 | []=>match fr.mode with
  |.run=>.bad 72 ⟨fr,cs,h,nx⟩
  |.ret=>match resultsA h fr.tm fr.res with
   |some l=>agq (C.kY fr.fn) l h fun l h=>JF (mz l) fr cs h nx
   |none=>.bad 73 ⟨fr,cs,h,nx⟩
  |.pan v false=>match cs with
   | []=>.pan v h nx
   |c ::cs=>match c.mode with
    |.run=>.next ⟨{c with mode:=.pan v false,todo:=[],tm:=(match c.todo with|.staged _ d _ ::_=>IA d.ds c.tm (fun t=>t)|_=>c.tm)},cs,h,nx⟩
    |_=>.bad 74 ⟨fr,c ::cs,h,nx⟩
  |.pan _ true=>.bad 75 ⟨fr,cs,h,nx⟩
noncomputable def iD(C:bK)(m:AM):SR:=
 match m.fr.mode with
 |.run=>bT C m.fr m.cs m.h m.nx
 |_=>yb C m.fr m.cs m.h m.nx
noncomputable def tK(C:bK)(n:Nat):AM→SR:=
 Nat.rec (fun m=>.next m) (fun _ ih m=>match iD C m with
  |.next m=>ih m
  |r=>r) n
def Ha(nt i:Nat):Option Key:=
 bif Nat.blt i nt&&Nat.beq (Key.fe 12 i).toNat i then some (Key.fe 12 i)else none
def enc:List UInt8→Nat
 | []=>0
 |b ::l=>b.toNat+256*enc l
mutual
def kg:Nat→Value→Option AV
 |0,_=>none
 |n+1,v=>match v with
  |.bool b=>some (.bool b)
  |.int k i=>some (.int k (.lit i))
  |.string s=>some (.str s.data.toList.length (enc s.data.toList))
  |.pointer none=>some .nilp
  |.slice none 0 0=>some .nils
  |.map none=>some .nilm
  |.nilFunc=>some .nilf
  |.nilIface=>some .nili
  |.iface t v=>match kg n v with
   |some a=>some (.iface t a)
   |none=>none
  |.agg cs=>match Iu n cs.toList with
   |some l=>some (.agg l)
   |none=>none
  |.tuple cs=>match Iu n cs.toList with
   |some l=>some (.tuple l)
   |none=>none
  |_=>none
def Iu:Nat→List Value→Option (List AV)
 |_,[]=>some []
 |0,_ ::_=>none
 |n+1,v ::l=>match kg n v,Iu n l with
  |some a,some r=>some (a ::r)
  |_,_=>none
end
def tJ:=400
def pX(P:Program)(nt:Nat):Operand→Option PX
 |.tmp t=>match Ha nt t with
  |some k=>some (.t k)
  |none=>none
 |.const v=>match kg tJ v with
  |some a=>some (.v a)
  |none=>none
 |.global g=>match Ha P.globals.size g with
  |some k=>some (.v (.ptr k 0))
  |none=>none
 |.func f=>some (.v (.fn f [] []))
def OA(P:Program)(nt:Nat):List Operand→Option (List PX)
 | []=>some []
 |x ::l=>match pX P nt x,OA P nt l with
  |some a,some r=>some (a ::r)
  |_,_=>none
def ago(P:Program)(nt:Nat):Option Operand→Option (Option PX)
 |none=>some none
 |some x=>match pX P nt x with
  |some a=>some (some a)
  |none=>none
structure TI where
 size:Nat
 agg:Bool
 zero:AV
def YX(P:Program)(t:TypeId):Option TI:=
 match P.info? t,P.underlying t with
 |some i,some d=>match i.zero with
  |some z=>match kg tJ z with
   |some a=>some ⟨i.size,(match d with|.struct _=>true|.array _ _=>true|_=>false),a⟩
   |none=>none
  |none=>none
 |_,_=>none
def Iv(P:Program)(nt:Nat)(place:Nat→Option (Nat×Nat)):List (Nat×Operand)→Option (List (Nat×Nat×PX))
 | []=>some []
 |(i,x) ::l=>match place i,pX P nt x,Iv P nt place l with
  |some (off,size),some a,some r=>some ((off,size,a) ::r)
  |_,_,_=>none
def sU(P:Program):List Field→Option (List (Nat×Nat))
 | []=>some []
 |f ::l=>match P.info? f.type,sU P l with
  |some i,some r=>some ((f.offset,i.size) ::r)
  |_,_=>none
def K5(l:List (Nat×K6))(sz:Nat):Nat→Nat→List (Nat×K6)
 |0,_=>[]
 |n+1,off=>l.map (fun x=>(off+x.1,x.2))++K5 l sz n (off+sz)
mutual
def eqP(P:Program):Nat→TypeId→Option K6
 |0,_=>none
 |n+1,t=>match P.underlying t with
  |some .bool=>some .bool
  |some (.int _)=>some .int
  |some .string=>some .str
  |some (.pointer e)=>match P.info? e with
   |some i=>bif Nat.beq i.size 0 then none else some .ptr
   |none=>none
  |some (.interface _)=>some .iface
  |some (.slice _)=>some .slice
  |some (.func _ _ _)=>some .func
  |some (.map _ _)=>some .map
  |some (.struct fs)=>bif P.stoodInHeld t then none else match eqFields P n fs.toList with
   |some l=>some (.parts l)
   |none=>none
  |some (.array len e)=>match P.underlying e,eqP P n e,P.info? e with
   |some (.struct _),some (.parts l),some i=>bif l.all (fun x=>Nat.blt x.1 i.size)then some (.parts (K5 l i.size len 0))else none
   |_,_,_=>none
  |_=>none
def eqFields(P:Program):Nat→List Field→Option (List (Nat×K6))
 |_,[]=>some []
 |0,_ ::_=>none
 | n + 1, f :: l => bif f.name == "_" then none else match eqP P n f.type, eqFields P n l with
  |some .bool,some r=>some ((f.offset,.bool) ::r)
  |some .int,some r=>some ((f.offset,.int) ::r)
  |some .str,some r=>some ((f.offset,.str) ::r)
  |_,_=>none
end
def TJ:K6→Bool
 |.parts _=>true
 |.int=>true
 |.str=>true
 |_=>false
def jH:Operand→Bool
 |.const _=>true
 |_=>false
def jh(P:Program)(nt:Nat)(o:Oper):Option Ji:=
 match o.op with
 |.move x|.assign x=>(pX P nt x).map .mov
 |.pick c a b=>match pX P nt c,pX P nt a,pX P nt b with
  |some c,some a,some b=>some (.pick c a b)
  |_,_,_=>none
 |.alloc t=>match YX P t with
  |some i=>some (.new i.zero.cells)
  |none=>none
 |.box _ x=>(pX P nt x).map .box
 |.build t parts=>match YX P t,P.underlying t with
  |some i,some (.struct fs)=>match sU P fs.toList with
   |some pl=>match Iv P nt (pl[·]?) parts.toList with
    |some ps=>some (.build i.zero.cells ps)
    |none=>none
   |none=>none
  |some i,some (.array _ e)=>match P.info? e with
   |some ie=>match Iv P nt (fun j=>some (j*ie.size,ie.size)) parts.toList with
    |some ps=>some (.build i.zero.cells ps)
    |none=>none
   |none=>none
  |_,_=>none
 |.buildSlice t len parts=>match P.underlying t with
  |some (.slice e)=>match YX P e with
   |some ie=>bif Nat.ble (len*ie.size) 16777216&&Nat.blt 0 ie.size&&Nat.beq ie.zero.cells.length ie.size then(match Iv P nt (fun j=>some (j*ie.size,ie.size)) parts.toList with
    |some ps=>some (.bslice ie.size len ie.zero.cells ps)
    |none=>none)else none
   |none=>none
  |_=>none
 |.load t a=>match YX P t,pX P nt a with
  |some i,some a=>some (.load i.agg i.size a)
  |_,_=>none
 |.store t a v=>match P.info? t,pX P nt a,pX P nt v with
  |some i,some a,some v=>some (.store i.size a v)
  |_,_,_=>none
 |.nilCheck x=>(pX P nt x).map .nilc
 |.binOp op t x y _=>match pX P nt x,pX P nt y with
  |some a,some b=>match P.underlying t with
   |some (.int _)=>some (.bin op a b)
   |some .string=>some (.bin op a b)
   |some (.interface _)=>bif jH x||jH y then(match op with
    |.eql=>some (.eq false .iface a b)
    |.neq=>some (.eq true .iface a b)
    |_=>none)else none
   |some (.struct _)=>bif P.eqGuardType P.depth t then none else(match op,eqP P 100 t with
    |.eql,some p=>some (.eq false p a b)
    |.neq,some p=>some (.eq true p a b)
    |_,_=>none)
   |some (.array _ _)=>bif P.eqGuardType P.depth t then none else(match op,eqP P 100 t with
    |.eql,some p=>some (.eq false p a b)
    |.neq,some p=>some (.eq true p a b)
    |_,_=>none)
   |some _=>match op,eqP P 100 t with
    |.eql,some p=>bif TJ p then none else some (.eq false p a b)
    |.neq,some p=>bif TJ p then none else some (.eq true p a b)
    |_,_=>none
   |none=>none
  |_,_=>none
 |.unOp op _ x=>(pX P nt x).map (.un op)
 |.convert src dst x=>match pX P nt x,P.underlying src,P.underlying dst with
  |some a,some (.int _),some (.int k)=>some (.cint k a)
  |some a,some .string,some (.slice e)=>match P.underlying e with
   |some (.int .u8)=>some (.strb a)
   |_=>none
  |_,_,_=>none
 |.makeInterface t x=>match P.underlying t with
  |some (.interface _)=>none
  |none=>none
  |some _=>(pX P nt x).map (.mkif t)
 |.makeFunc (.func f) first cap=>match OA P nt first.toList,OA P nt cap.toList with
  |some a,some c=>some (.mkfn f a c)
  |_,_=>none
 |.makeMap _ none=>some .mkmap
 |.makeSlice t l c=>match P.underlying t with
  |some (.slice e)=>match YX P e,pX P nt l,pX P nt c with
   |some ie,some l,some c=>match P.info? e with
    |some i=>bif Nat.blt 0 ie.size&&Nat.beq ie.zero.cells.length ie.size&&Nat.ble i.bytes 65536 then some (.mkslice ie.size ie.zero.cells l c)else none
    |none=>none
   |_,_,_=>none
  |_=>none
 |.slice t x lo hi none=>match pX P nt x,ago P nt lo,ago P nt hi with
  |some a,some lo,some hi=>match P.underlying t with
   |some .string=>some (.sliceS a lo hi)
   |some (.slice e)=>match P.info? e with
    |some i=>bif Nat.blt 0 i.size then some (.sliceL i.size a lo hi)else none
    |none=>none
   |_=>none
  |_,_,_=>none
 |.fieldAddr s x f=>match P.underlying s with
  |some (.struct fs)=>match fs[f]? with
   |some fd=>match P.info? fd.type,pX P nt x with
    |some i,some a=>bif Nat.beq i.size 0 then none else some (.fieldA fd.offset a)
    |_,_=>none
   |none=>none
  |_=>none
 |.field t x f=>match P.underlying t with
  |some (.struct fs)=>match fs[f]? with
   |some fd=>match YX P fd.type,pX P nt x with
    |some i,some a=>some (.field i.agg fd.offset i.size a)
    |_,_=>none
   |none=>none
  |_=>none
 |.indexAddr t x i=>match P.underlying t,pX P nt x,pX P nt i with
  |some (.array len e),some a,some b=>match P.info? e with
   |some ie=>bif Nat.blt 0 ie.size then some (.indexA len ie.size a b)else none
   |none=>none
  |some (.slice e),some a,some b=>match P.info? e with
   |some ie=>bif Nat.blt 0 ie.size then some (.indexL ie.size a b)else none
   |none=>none
  |_,_,_=>none
 |.index t x i=>match P.underlying t,pX P nt x,pX P nt i with
  |some .string,some a,some b=>some (.indexS a b)
  |some (.array len e),some a,some b=>match YX P e with
   |some ie=>some (.indexV len ie.agg ie.size a b)
   |none=>none
  |_,_,_=>none
 |.lookup t m k ok=>match P.underlying t with
  |some (.map kt e)=>match P.underlying kt,YX P e,pX P nt m,pX P nt k with
   |some (.int _),some i,some a,some b=>some (.lookup false i.zero ok a b)
   |some .string,some i,some a,some b=>some (.lookup true i.zero ok a b)
   |_,_,_,_=>none
  |_=>none
 |.mapUpdate t m k v|.insert t m k v=>match P.underlying t with
  |some (.map kt _)=>match P.underlying kt,pX P nt m,pX P nt k,pX P nt v with
   |some (.int _),some a,some b,some c=>some (.mapupd false a b c)
   |some .string,some a,some b,some c=>some (.mapupd true a b c)
   |_,_,_,_=>none
  |_=>none
 |.typeAssert x _ t ok=>match P.underlying t,YX P t,pX P nt x with
  |some (.interface _),_,_=>none
  |some _,some i,some a=>some (.assert t i.zero ok a)
  |_,_,_=>none
 |.extract x i=>match pX P nt x with
  |some a=>some (.extract a i)
  |none=>none
 |.call c=>match c.callee with
  |.value (.func f)=>match OA P nt c.args.toList,P.funcs[f]? with
   | some l, some fn => bif fn.body.isSome && !(fn.name == "runtime.NumGoroutine") then some (.callF f l) else none
   |_,_=>none
  |.value x=>match pX P nt x,OA P nt c.args.toList with
   |some a,some l=>some (.callV a l)
   |_,_=>none
  |.invoke _ _=>none
  |.builtin b=>match b,OA P nt c.args.toList with
   |.len,some [x]=>match c.argTypes.toList with
    | [t]=>match P.underlying t with
     |some .string=>some (.lenS x)
     |some (.slice _)=>some (.lenL x)
     |_=>none
    |_=>none
   |.append,some [s,x]=>match c.argTypes.toList with
    | [t,u]=>match P.underlying t,P.underlying u with
     |some (.slice e),some (.slice _)=>match YX P e,P.info? e with
      |some ie,some i=>bif Nat.blt 0 ie.size&&Nat.beq ie.zero.cells.length ie.size&&Nat.ble i.bytes 65536 then some (.append ie.size s x)else none
      |_,_=>none
     |some (.slice e),some .string=>match YX P e,P.info? e with
      |some ie,some i=>bif Nat.blt 0 ie.size&&Nat.beq ie.zero.cells.length ie.size&&Nat.ble i.bytes 65536 then some (.append ie.size s x)else none
      |_,_=>none
     |_,_=>none
    |_=>none
   |.max,some [x,y]=>some (.mx true x y)
   |.min,some [x,y]=>some (.mx false x y)
   |.recover,some []=>some .recover
   |_,_=>none
 |.defer c=>match c.callee with
  |.value x=>match pX P nt x,OA P nt c.args.toList with
   |some a,some l=>some (.dfr a l)
   |_,_=>none
  |_=>none
 |.panic x=>(pX P nt x).map .panic
 |_=>none
def OB(nt:Nat)(ops:Array Oper):Option (Nat×Bool)→Option (Option (Key×Bool))
 |none=>some none
 |some (j,want)=>match ops[j]? with
  |some o=>match o.dst with
   |some d=>match Ha nt d with
    |some k=>some (some (k,want))
    |none=>none
   |none=>none
  |none=>none
def Me(P:Program)(nt:Nat)(ops:Array Oper)(o:Oper):Option ay:=
 match jh P nt o,OB nt ops o.guard with
 |some op,some g=>match o.dst with
  |none=>some ⟨none,op,g⟩
  |some d=>match Ha nt d with
   |some k=>some ⟨some k,op,g⟩
   |none=>none
 |_,_=>none
def mu(P:Program)(nt:Nat)(ops:Array Oper):List Nat→Option (List ay)
 | []=>some []
 |i ::l=>match ops[i]? with
  |none=>none
  |some o=>match Me P nt ops o,mu P nt ops l with
   |some a,some r=>some (a ::r)
   |_,_=>none
def Jj:Ji→Bool
 |.store _ _ _|.mapupd _ _ _ _|.strb _|.append _ _ _|.callF _ _|.callV _ _|.dfr _ _|.panic _|.recover=>true
 |_=>false
def Oc:Ji→Bool
 |.new _|.box _|.bslice _ _ _ _|.mkmap|.mkslice _ _ _ _=>true
 |_=>false
def K7:Ji→Bool
 |.load _ _ _|.lookup _ _ _ _ _=>true
 |_=>false
def pj(ops:Array Oper):List Nat:=(Region.before ops).toList
def TK:List ay→Nat→List Nat
 | [],_=>[]
 |o ::l,i=>bif Jj o.op then i ::TK l (i+1)else TK l (i+1)
def Od(b:Nat):List Nat→Nat
 | []=>0
 |h ::l=>bif Nat.testBit b h then Od b l+1 else Od b l
def Jk(hs:List Nat)(s:Nat):List (ay×Nat)→Nat→List aL
 | [],_=>[]
 |(o,b) ::l,i=>bif Jj o.op || !(Nat.beq (Od b hs) s)then Jk hs s l (i+1)
   else(bif Oc o.op then .A i o else .L i o) ::Jk hs s l (i+1)
def Jl(bh:Nat):List (ay×Nat)→Nat→List Nat
 | [],_=>[]
 |(o,_) ::l,i=>bif Oc o.op&&Nat.testBit bh i then i ::Jl bh l (i+1)else Jl bh l (i+1)
def Iw(hs:List Nat)(s bh:Nat):List (ay×Nat)→Nat→List (Nat×ay)
 | [],_=>[]
 |(o,b) ::l,i=>bif K7 o.op&&Nat.ble (Od b hs) s && !(Nat.testBit bh i)then(i,o) ::Iw hs s bh l (i+1)else Iw hs s bh l (i+1)
def azy(l:List (ay×Nat))(i:Nat):Option (ay×Nat):=l[i]?
def OC(hs:List Nat)(all:List (ay×Nat)):Nat→List Nat→Option (List aL)
 |s,[]=>some (Jk hs s all 0)
 |s,h ::rest=>match azy all h,OC hs all (s+1) rest with
  |some (o,b),some r=>some (Jk hs s all 0 ++ .H h o (Jl b all 0) ::.R (Iw hs s b all 0) ::r)
  |_,_=>none
def dstsOf:List ay→List Key
 | []=>[]
 |o ::l=>match o.dst with
  |some d=>d ::dstsOf l
  |none=>dstsOf l
def Gi(alb:List (ay×Nat)):List (ay×Nat)→Nat→List (Nat×List Nat)
 | [],_=>[]
 |(o,b) ::l,i=>bif K7 o.op then(match Jl b alb 0 with
   | []=>Gi alb l (i+1)
   |ad=>(i,ad) ::Gi alb l (i+1))else Gi alb l (i+1)
def hasB(m j:Nat):Bool:=Nat.testBit m j
def Zb(n a b:Nat):Bool:=(List.range n).all fun j=>!(hasB a j)||hasB b j
def fA(bf:List Nat)(i:Nat):Nat:=(bf[i]?).getD 0
def kT(ops:Array Oper)(o:Oper):List Nat:=
 o.op.operands.toList.filterMap (fun|.tmp t=>some t|_=>none)++(match o.guard with|some (j,_)=>((ops[j]?).bind (·.dst)).toList|none=>[])
def mv(ops:Array Oper)(i:Nat):Option Nat:=(ops[i]?).bind (·.dst)
def Oe(ops:Array Oper)(bf:List Nat):Bool:=
 (List.range ops.size).all fun i=>match ops[i]? with
  |none=>false
  |some o=>(o.after.toList.all fun e=>!(Region.binds .any e)||(Nat.blt e.on i&&hasB (fA bf i) e.on)) &&
   (List.range ops.size).all fun j=>!(hasB (fA bf i) j)||o.after.toList.any fun e=>Region.binds .any e&&(Nat.beq e.on j||hasB (fA bf e.on) j)
def TL(ops:Array Oper)(bf:List Nat):Bool:=
 (List.range ops.size).all fun i=>match ops[i]? with
  |none=>false
  |some o=>(List.range ops.size).all fun j=>match mv ops j with
   |none=>true
   |some t=>bif Nat.beq i j then !(kT ops o).contains t else
     !(o.dst==some t)&&(!(kT ops o).contains t||hasB (fA bf i) j||hasB (fA bf j) i)
def Ef(ops:Array Oper)(bf:List Nat)(i:Nat):Bool:=match ops[i]? with
 |none=>false
 |some o=>(List.range ops.size).all fun j=>match mv ops j with
  |none=>true
  |some t=>!(kT ops o).contains t||hasB (fA bf i) j
inductive IIt where
 |L (i:Nat)
 |A (i:Nat)
 |H (i:Nat) (Eg:List Nat)
 |R (os:List Nat)
def iOf:aL→IIt
 |.L i _=>.L i
 |.A i _=>.A i
 |.H i _ l=>.H i l
 |.R os=>.R (os.map (·.1))
def Eh(pl:List ay):IIt→Option aL
 |.L i=>(pl[i]?).map (.L i)
 |.A i=>(pl[i]?).map (.A i)
 |.H i l=>(pl[i]?).map (fun o=>.H i o l)
 |.R os=>(os.mapM fun i=>(pl[i]?).map fun o=>(i,o)).map .R
def qW(pl:List ay)(i:Nat):Nat:=match pl[i]? with
 |none=>9
 |some o=>bif Jj o.op then 2 else bif Oc o.op then 1 else 0
def fY(pl:List ay)(i:Nat):Bool:=match pl[i]? with
 |none=>false
 |some o=>K7 o.op
def Jm(m i:Nat):Nat:=m ||| 2^i
def yY(ops:Array Oper)(pl:List ay)(bf:List Nat):Nat→List IIt→Bool
 |m,[]=>(List.range ops.size).all (hasB m)
 |m,.L i ::r=>Nat.blt i ops.size&&Nat.beq (qW pl i) 0 && !(hasB m i)&&Zb ops.size (fA bf i) m&&yY ops pl bf (Jm m i) r
 |m,.A i ::r=>Nat.blt i ops.size&&Nat.beq (qW pl i) 1 && !(hasB m i)&&Zb ops.size (fA bf i) m&&yY ops pl bf (Jm m i) r
 |m,.H i l ::.R os ::r=>Nat.blt i ops.size&&Nat.beq (qW pl i) 2 && !(hasB m i)&&Zb ops.size (fA bf i) m &&
   ((List.range ops.size).all fun j=>hasB m j||Nat.beq j i || !(Zb ops.size (fA bf j) m)) &&
   (l.all fun j=>hasB (fA bf i) j) &&
   ((List.range ops.size).all fun j=>!(hasB m j) || !(fY pl j)||hasB (fA bf i) j||os.contains j) &&
   (os.all fun j=>Nat.blt j ops.size&&hasB m j&&Nat.beq (qW pl j) 0&&Ef ops bf j) &&
   yY ops pl bf (Jm m i) r
 |_,_=>false
def zH(bf:List Nat):List (Nat×List Nat)→Bool
 | []=>true
 |(i,l) ::r=>(l.all fun j=>hasB (fA bf i) j)&&zH bf r
def apD(ops:Array Oper)(pl:List ay)(bf:List Nat)(l:List IIt):Bool:=Oe ops bf&&TL ops bf&&yY ops pl bf 0 l
def Jn(P:Program)(nt:Nat)(ops:Array Oper)(draw:Bool):Option aG:=
 match mu P nt ops (List.range ops.size)with
 |none=>none
 |some l=>bif draw then
   (let all:=l.zip (pj ops)
   let hs:=TK l 0
   match OC hs all 0 hs with
   |some st=>match (st.map iOf).mapM (Eh l)with
    |some st=>bif apD ops l (pj ops) (st.map iOf)&&zH (pj ops) (Gi all all 0)then some (.staged st ⟨dstsOf l,Gi all all 0⟩)else none
    |none=>none
   |none=>none)
  else some (.ops l)
def gC(P:Program)(nt:Nat):Code→Option aG
 |.skip=>some .skip
 |.region _ ops draw=>Jn P nt ops draw
 |.seq a b=>match gC P nt a,gC P nt b with
  |some a,some b=>some (.seq a b)
  |_,_=>none
 |.cond c a b=>match pX P nt c,gC P nt a,gC P nt b with
  |some c,some a,some b=>some (.cond c a b)
  |_,_,_=>none
 |.block id c=>match gC P nt c with
  |some c=>some (.block id c)
  |none=>none
 |.loop c=>match gC P nt c with
  |some c=>some (.loop c)
  |none=>none
 |.rangeFunc f params a b=>match pX P nt f,params.toList.mapM (Ha nt),gC P nt a,gC P nt b with
  |some f,some ps,some a,some b=>some (.rangeF f ps a b)
  |_,_,_,_=>none
 |.exit id=>some (.exit id)
 |.ret=>some .ret
 |.scope c=>match gC P nt c with
  |some c=>some (.seq c .skip)
  |none=>none
 |.label _=>some .skip
 |_=>none
def Rf(P:Program)(nt:Nat):List ResultVar→Option (List RV)
 | []=>some []
 |.tmp t ::l=>match Ha nt t,Rf P nt l with
  |some k,some r=>some (.tmp k ::r)
  |_,_=>none
 |.cell a t ::l=>match Ha nt a,YX P t,Rf P nt l with
  |some k,some i,some r=>some (.cell k i.agg i.size ::r)
  |_,_,_=>none
def Hb(P:Program)(f:Nat):Option ej:=
 match P.funcs[f]? with
 |none=>none
 |some fn=>match fn.body with
  |none=>none
  | some c => bif fn.name == "runtime.NumGoroutine" then none else match gC P fn.ntmps c, Rf P fn.ntmps fn.results.toList with
   |some b,some r=>some ⟨b,r⟩
   |_,_=>none
theorem Key.toNat_inj:∀{a b:Key},a.toNat=b.toNat→a=b
 |.z,.z,_=>rfl
 |.z,.o b,h=>by simp[Key.toNat]at h
 |.z,.e b,h=>by simp[Key.toNat]at h
 |.o a,.z,h=>by simp[Key.toNat]at h
 |.e a,.z,h=>by simp[Key.toNat]at h
 |.o a,.o b,h=>by rw[Key.toNat_inj (a:=a) (b:=b) (by simp only[Key.toNat]at h;omega)]
 |.e a,.e b,h=>by rw[Key.toNat_inj (a:=a) (b:=b) (by simp only[Key.toNat]at h;omega)]
 |.o a,.e b,h=>by simp only[Key.toNat]at h;omega
 |.e a,.o b,h=>by simp only[Key.toNat]at h;omega
theorem kTSu:∀(k:Key),k.succ.toNat=k.toNat+1
 |.z=>rfl
 |.o k=>by show(Key.e k).toNat=_;simp only[Key.toNat]
 |.e k=>by show(Key.o k.succ).toNat=_;simp only[Key.toNat,kTSu k];omega
theorem Key.eq_of_beq:∀{a b:Key},Key.beq a b=true→a=b
 |.z,.z,_=>rfl
 |.o a,.o b,h=>by rw[Key.eq_of_beq (a:=a) (b:=b) h]
 |.e a,.e b,h=>by rw[Key.eq_of_beq (a:=a) (b:=b) h]
 |.z,.o _,h=>by cases h
 |.z,.e _,h=>by cases h
 |.o _,.z,h=>by cases h
 |.e _,.z,h=>by cases h
 |.o _,.e _,h=>by cases h
 |.e _,.o _,h=>by cases h
noncomputable def av{α:Type}(k:Key)(x:Option α)(t:T α):T α:=vU k x t fun t=>t
section
variable{α R:Type}
@[simp] theorem T.get_nil(k:Key):ae k (T.nil:T α)=none:=by cases k<;>rfl
@[simp] theorem T.aH6(v:Option α)(l r:T α):ae .z (.node v l r)=v:=rfl
@[simp] theorem T.ajV(k:Key)(v:Option α)(l r:T α):ae (.o k) (.node v l r)=ae k l:=rfl
@[simp] theorem T.ajW(k:Key)(v:Option α)(l r:T α):ae (.e k) (.node v l r)=ae k r:=rfl
theorem sTCe(x:Option α):∀{R:Type} (k:Key) (t:T α) (c:T α→R),vU k x t c=c (av k x t)
 |_,.z,.nil,c=>rfl
 |_,.z,.node v l r,c=>rfl
 |_,.o k,.nil,c=>by show vU k x .nil (fun l=>c (.node none l .nil))=c (vU k x .nil fun l=>.node none l .nil);rw[sTCe x k .nil,sTCe x k .nil (fun l=>T.node none l .nil)]
 |_,.e k,.nil,c=>by show vU k x .nil (fun r=>c (.node none .nil r))=c (vU k x .nil fun r=>.node none .nil r);rw[sTCe x k .nil,sTCe x k .nil (fun r=>T.node none .nil r)]
 |_,.o k,.node v l r,c=>by show vU k x l (fun l=>c (.node v l r))=c (vU k x l fun l=>.node v l r);rw[sTCe x k l,sTCe x k l (fun l=>T.node v l r)]
 |_,.e k,.node v l r,c=>by show vU k x r (fun r=>c (.node v l r))=c (vU k x r fun r=>.node v l r);rw[sTCe x k r,sTCe x k r (fun r=>T.node v l r)]
theorem T.LK(k:Key)(x:Option α):av (.o k) x .nil=.node none (av k x .nil) .nil:=sTCe x k .nil _
theorem T.LM(k:Key)(x:Option α):av (.e k) x .nil=.node none .nil (av k x .nil):=sTCe x k .nil _
theorem T.aiE(k:Key)(x v:Option α)(l r:T α):av (.o k) x (.node v l r)=.node v (av k x l) r:=sTCe x k l _
theorem T.aiF(k:Key)(x v:Option α)(l r:T α):av (.e k) x (.node v l r)=.node v l (av k x r):=sTCe x k r _
theorem gTSm(x:Option α):∀(k:Key) (t:T α),ae k (av k x t)=x
 |.z,.nil=>rfl
 |.z,.node v l r=>rfl
 |.o k,.nil=>by rw[T.LK];exact gTSm x k .nil
 |.e k,.nil=>by rw[T.LM];exact gTSm x k .nil
 |.o k,.node v l r=>by rw[T.aiE];exact gTSm x k l
 |.e k,.node v l r=>by rw[T.aiF];exact gTSm x k r
theorem aR(x:Option α):∀(k k':Key) (t:T α),k'≠k→ae k' (av k x t)=ae k' t
 |.z,k',.nil,h=>by
  cases k' with
  |z=>exact absurd rfl h
  |o k'=>show ae k' T.nil=_;simp
  |e k'=>show ae k' T.nil=_;simp
 |.z,k',.node v l r,h=>by
  cases k' with
  |z=>exact absurd rfl h
  |o k'=>rfl
  |e k'=>rfl
 |.o k,k',.nil,h=>by
  rw[T.LK];cases k' with
  |z=>rfl
  |o k'=>rw[T.ajV,aR x k k' .nil (fun e=>h (by rw[e]))];simp
  |e k'=>simp
 |.e k,k',.nil,h=>by
  rw[T.LM];cases k' with
  |z=>rfl
  |o k'=>simp
  |e k'=>rw[T.ajW,aR x k k' .nil (fun e=>h (by rw[e]))];simp
 |.o k,k',.node v l r,h=>by
  rw[T.aiE];cases k' with
  |z=>rfl
  |o k'=>rw[T.ajV,T.ajV];exact aR x k k' l (fun e=>h (by rw[e]))
  |e k'=>rfl
 |.e k,k',.node v l r,h=>by
  rw[T.aiF];cases k' with
  |z=>rfl
  |o k'=>rfl
  |e k'=>rw[T.ajW,T.ajW];exact aR x k k' r (fun e=>h (by rw[e]))
theorem nth_eq:∀(n:Nat) (l:List α),nth n l=l[n]?
 |0,[]=>rfl
 |0,x ::l=>rfl
 |n+1,[]=>rfl
 |n+1,x ::l=>by show nth n l=_;rw[nth_eq n l];simp
theorem dropL_eq:∀(n:Nat) (l:List α),wC n l=l.drop n
 |0,l=>rfl
 |n+1,[]=>by simp;rfl
 |n+1,x ::l=>by show wC n l=_;rw[dropL_eq n l];simp
theorem takeC_eq:∀(n:Nat) (l:List α) (bad:R) (c:List α→R),zZ n l bad c=if n≤l.length then c (l.take n)else bad
 |0,l,bad,c=>by simp;rfl
 |n+1,[],bad,c=>by simp;rfl
 |n+1,x ::l,bad,c=>by show zZ n l bad (fun r=>c (x ::r))=_;rw[takeC_eq n l];simp
theorem YC:∀(vs l:List α) (bad:R) (c:List α→R),acH vs l bad c=if vs.length≤l.length then c (vs++l.drop vs.length)else bad
 | [],l,bad,c=>by simp;rfl
 |v ::vs,[],bad,c=>by simp;rfl
 |v ::vs,x ::l,bad,c=>by show acH vs l bad (fun r=>c (v ::r))=_;rw[YC vs l];simp
theorem putC_eq(vs:List α):∀(off:Nat) (l:List α) (bad:R) (c:List α→R),
  Wa vs off l bad c=if off+vs.length≤l.length then c (l.take off++vs++l.drop (off+vs.length))else bad
 |0,l,bad,c=>by show acH vs l bad c=_;rw[YC];simp
 |off+1,[],bad,c=>by
  have:¬(off+1+vs.length≤([]:List α).length):=by simp
  rw[if_neg this];rfl
 |off+1,x ::l,bad,c=>by
  show Wa vs off l bad (fun r=>c (x ::r))=_;rw[putC_eq vs off l];have e:(off+1+vs.length≤(x ::l).length)↔(off+vs.length≤l.length):=by simp;omega
  by_cases h:off+vs.length≤l.length
  ·rw[if_pos h,if_pos (e.2 h)];have:off+1+vs.length=(off+vs.length)+1:=by omega
   rw[this];simp
  ·rw[if_neg h,if_neg (fun h'=>h (e.1 h'))]
theorem appC_eq:∀(a b:List α) (c:List α→R),Rn a b c=c (a++b)
 | [],b,c=>rfl
 |x ::a,b,c=>by show Rn a b (fun r=>c (x ::r))=_;rw[appC_eq a b];simp
theorem lenL_eq:∀(l:List α),lenL l=l.length
 | []=>rfl
 |x ::l=>by show Nat.succ (lenL l)=_;rw[lenL_eq l];simp
theorem repL_eq(zs:List α):∀(n:Nat) (acc:List α),Ll n zs acc=(List.replicate n zs).flatten++acc
 |0,acc=>by simp;rfl
 |n+1,acc=>by show Rn zs (Ll n zs acc) (fun r=>r)=_;rw[appC_eq,repL_eq zs n acc];simp[List.replicate_succ]
end
theorem beqN_eq(a b:Nat):Nat.beq a b=decide (a=b):=by
 by_cases h:a=b
 ·subst h;simp
 ·have:Nat.beq a b=false:=by
   cases e:Nat.beq a b with
   |false=>rfl
   |true=>exact absurd (o9 e) h
  rw[this];simp[h]
theorem eqI_eq(a b:Int):eqI a b=(a==b):=by
 cases a with
 |ofNat a=>cases b with
  |ofNat b=>show Nat.beq a b=_;rw[beqN_eq,Bool.eq_iff_iff];simp;omega
  |negSucc b=>show false=_;symm;rw[beq_eq_false_iff_ne];intro h;cases h
 |negSucc a=>cases b with
  |ofNat b=>show false=_;symm;rw[beq_eq_false_iff_ne];intro h;cases h
  |negSucc b=>show Nat.beq a b=_;rw[beqN_eq,Bool.eq_iff_iff];simp
theorem bltN_eq(a b:Nat):Nat.blt a b=decide (a<b):=by rw[Bool.eq_iff_iff,decide_eq_true_iff];unfold Nat.blt;rw[Nat.ble_eq];omega
theorem L4(a b:Int):SP a b=decide (a<b):=by
 cases a with
 |ofNat a=>cases b with
  |ofNat b=>show Nat.blt a b=_;rw[bltN_eq,decide_eq_decide];show a<b↔(a:Int)<(b:Int);omega
  |negSucc b=>show false=_;symm;rw[decide_eq_false_iff_not];have:=Int.negSucc_lt_zero b;show ¬((a:Int)<_);omega
 |negSucc a=>cases b with
  |ofNat b=>show true=_;symm;rw[decide_eq_true_iff];have:=Int.negSucc_lt_zero a;show _<(b:Int);omega
  |negSucc b=>show Nat.blt b a=_;rw[bltN_eq,decide_eq_decide,Int.negSucc_eq,Int.negSucc_eq];omega
theorem ad5(k:IntKind):full k=(2^k.bits:Int):=by cases k<;>decide
theorem gW(k:IntKind)(n:Int):bP k n=k.wrap n:=by
 have hm:Int.emod n (full k)=n%(2^k.bits:Int):=by rw[ad5];rfl
 have h0:0≤n%(2^k.bits:Int)∧n%(2^k.bits:Int)<(2^k.bits:Int):=
  ⟨Int.emod_nonneg _ (by cases k<;>decide),Int.emod_lt_of_pos _ (by cases k<;>decide)⟩
 unfold bP IntKind.wrap;rw[hm,L4];generalize n%(2^k.bits:Int)=m at h0;by_cases h:m<half k
 ·rw[decide_eq_true h];have:(k.signed&&decide (m≥(2^(k.bits-1):Int)))=false:=by cases k<;>simp[half,IntKind.signed,IntKind.bits]at h h0 ⊢<;>omega
  simp[this]
 ·rw[decide_eq_false h];have:(k.signed&&decide (m≥(2^(k.bits-1):Int)))=true:=by cases k<;>simp[half,IntKind.signed,IntKind.bits]at h h0 ⊢<;>omega
  simp only[this,cond_false,if_true,ad5];rfl
theorem sg{a b:IntKind}(h:beqKind a b=true):a=b:=by cases a<;>cases b<;>first|rfl|cases h
theorem TA{a b:BinOp}(h:Lm a b=true):a=b:=by cases a<;>cases b<;>first|rfl|cases h
theorem SI.eq_of_beq:∀{a b:SI},SI.beq a b=true→a=b
 |.lit a,.lit b,h=>by simp only[SI.beq,eqI_eq,beq_iff_eq]at h;rw[h]
 |.var i,.var j,h=>by rw[o9 (n:=i) (m:=j) h]
 |.bin o k a b,.bin o' k' a' b',h=>by simp only[SI.beq,kO]at h;rw[TA h.1.1.1,sg h.1.1.2,SI.eq_of_beq h.1.2,SI.eq_of_beq h.2]
 |.lit _,.var _,h=>by cases h
 |.lit _,.bin ..,h=>by cases h
 |.var _,.lit _,h=>by cases h
 |.var _,.bin ..,h=>by cases h
 |.bin ..,.lit _,h=>by cases h
 |.bin ..,.var _,h=>by cases h
theorem SF.eq_of_beq:∀{a b:SF},SF.beq a b=true→a=b
 |.any,.any,_=>rfl
 |.tok a,.tok b,h=>by simp only[SF.beq]at h;rw[Key.eq_of_beq h]
 |.any,.tok _,h=>by cases h
 |.tok _,.any,h=>by cases h
mutual
theorem AV.eq_of_beq:∀(a b:AV),AV.beq a b=true→a=b:=by
 intro a b h;cases a with
 |bool b1=>
  cases b with
  |bool b2=>simp only[AV.beq,beq_iff_eq]at h;rw[h]
  |_=>exact absurd h (by simp[AV.beq])
 |int k1 n1=>
  cases b with
  |int k2 n2=>simp only[AV.beq,kO]at h;rw[sg h.1,SI.eq_of_beq h.2]
  |_=>exact absurd h (by simp[AV.beq])
 |str n1 c1=>
  cases b with
  |str n2 c2=>simp only[AV.beq,kO]at h;rw[o9 h.1,o9 h.2]
  |_=>exact absurd h (by simp[AV.beq])
 |ptr b1 o1=>
  cases b with
  |ptr b2 o2=>simp only[AV.beq,kO]at h;rw[Key.eq_of_beq h.1,o9 h.2]
  |_=>exact absurd h (by simp[AV.beq])
 |nilp=>
  cases b with
  |nilp=>rfl
  |_=>exact absurd h (by simp[AV.beq])
 |slice b1 o1 l1 s1=>
  cases b with
  |slice b2 o2 l2 s2=>simp only[AV.beq,kO]at h;rw[Key.eq_of_beq h.1.1.1,o9 h.1.1.2,o9 h.1.2,o9 h.2]
  |_=>exact absurd h (by simp[AV.beq])
 |nils=>
  cases b with
  |nils=>rfl
  |_=>exact absurd h (by simp[AV.beq])
 |map b1=>
  cases b with
  |map b2=>simp only[AV.beq]at h;rw[Key.eq_of_beq h]
  |_=>exact absurd h (by simp[AV.beq])
 |nilm=>
  cases b with
  |nilm=>rfl
  |_=>exact absurd h (by simp[AV.beq])
 |fn f1 a1 c1=>
  cases b with
  |fn f2 a2 c2=>simp only[AV.beq,kO]at h;rw[o9 h.1.1,AV.hJ _ _ h.1.2,AV.hJ _ _ h.2]
  |_=>exact absurd h (by simp[AV.beq])
 |yld l1=>
  cases b with
  |yld l2=>simp only[AV.beq]at h;rw[Key.eq_of_beq h]
  |_=>exact absurd h (by simp[AV.beq])
 |nilf=>
  cases b with
  |nilf=>rfl
  |_=>exact absurd h (by simp[AV.beq])
 |iface t1 v1=>
  cases b with
  |iface t2 v2=>simp only[AV.beq,kO]at h;rw[o9 h.1,AV.eq_of_beq _ _ h.2]
  |_=>exact absurd h (by simp[AV.beq])
 |nili=>
  cases b with
  |nili=>rfl
  |_=>exact absurd h (by simp[AV.beq])
 |agg l1=>
  cases b with
  |agg l2=>simp only[AV.beq]at h;rw[AV.hJ _ _ h]
  |_=>exact absurd h (by simp[AV.beq])
 |tuple l1=>
  cases b with
  |tuple l2=>simp only[AV.beq]at h;rw[AV.hJ _ _ h]
  |_=>exact absurd h (by simp[AV.beq])
 |sl l1 n1 z1 f1=>
  cases b with
  |sl l2 n2 z2 f2=>simp only[AV.beq,kO]at h;rw[AV.hJ _ _ h.1.1.1,o9 h.1.1.2,o9 h.1.2,SF.eq_of_beq h.2]
  |_=>exact absurd h (by simp[AV.beq])
 |cref l1=>
  cases b with
  |cref l2=>simp only[AV.beq]at h;rw[AV.hJ _ _ h]
  |_=>exact absurd h (by simp[AV.beq])
theorem AV.hJ:∀(a b:List AV),AV.GK a b=true→a=b
 | [],[],_=>rfl
 |x ::a,y ::b,h=>by simp only[AV.GK,kO]at h;rw[AV.eq_of_beq x y h.1,AV.hJ a b h.2]
 | [],_ ::_,h=>by cases h
 |_ ::_,[],h=>by cases h
end
end Go.Sx
namespace Go.Sx
open Go.RowKit
structure Loc where
 c:Nat
 base:Nat
 ext:Nat
structure Mu where
 loc:Key→Option Loc
 fz:Nat→Nat→Option Value
instance:CoeFun Mu (fun _=>Key→Option Loc):=⟨Mu.loc⟩
structure Mu.le(μ μ':Mu):Prop where
 l:∀b l,μ b=some l→μ' b=some l
 f:∀c i v,μ.fz c i=some v→μ'.fz c i=some v
theorem Mu.le_refl(μ:Mu):μ.le μ:=⟨fun _ _ h=>h,fun _ _ _ h=>h⟩
theorem Mu.le_trans{a b c:Mu}(h:a.le b)(k:b.le c):a.le c:=⟨fun x l e=>k.l x l (h.l x l e),fun x i v e=>k.f x i v (h.f x i v e)⟩
def Py(μ:Mu)(c o len cap sz:Nat):SF→Prop
 |.any=>True
 |.tok b=>μ b=some ⟨c,o+len*sz,(cap-len)*sz⟩
theorem Py.mono{μ μ':Mu}(hm:μ.le μ'){c o len cap sz:Nat}{fl:SF}(h:Py μ c o len cap sz fl):Py μ' c o len cap sz fl:=by
 cases fl with
 |any=>trivial
 |tok b=>exact hm.l _ _ h
def SI.den(ρ:Nat→Int):SI→Int
 |.lit n=>n
 |.var i=>ρ i
 |.bin .add k a b=>k.wrap (a.den ρ+b.den ρ)
 |.bin .sub k a b=>k.wrap (a.den ρ-b.den ρ)
 |.bin .mul k a b=>k.wrap (a.den ρ*b.den ρ)
 |.bin _ _ _ _=>0
mutual
inductive aS(ρ:Nat→Int)(μ:Mu):AV→Value→Prop
 |bool (b:Bool):aS ρ μ (.bool b) (.bool b)
 |int (k:IntKind) (s:SI) (n:Int) (h:s.den ρ=n):aS ρ μ (.int k s) (.int k n)
 |str (n c:Nat) (s:ByteArray) (h:s.data.toList.length=n) (h':enc s.data.toList=c):aS ρ μ (.str n c) (.string s)
 |ptr (b:Key) (off:Nat) (l:Loc) (a:Addr) (h:μ b=some l) (ha:a=⟨l.c,l.base+off,none⟩):aS ρ μ (.ptr b off) (.pointer (some a))
 |nilp:aS ρ μ .nilp (.pointer none)
 |slice (b:Key) (off len sz cap:Nat) (l:Loc) (a:Addr) (h:μ b=some l) (hc:off+cap*sz=l.ext) (hl:len≤cap)
   (ha:cap=0∨a=⟨l.c,l.base+off,none⟩):aS ρ μ (.slice b off len sz) (.slice (some a) len cap)
 |nils:aS ρ μ .nils (.slice none 0 0)
 |map (b:Key) (l:Loc) (r:Nat) (h:μ b=some l) (hr:r=l.c):aS ρ μ (.map b) (.map (some r))
 |nilm:aS ρ μ .nilm (.map none)
 |fn (f:Nat) (first cap:List AV) (vs ws:Array Value) (h:ax ρ μ first vs.toList) (h':ax ρ μ cap ws.toList):aS ρ μ (.fn f first cap) (.func (.func f) vs ws)
 |yld (b:Key) (l:Loc) (r:Nat) (h:μ b=some l) (hr:r=l.c):aS ρ μ (.yld b) (.func (.yield r) #[] #[])
 |nilf:aS ρ μ .nilf .nilFunc
 |iface (t:Nat) (a:AV) (v:Value) (h:aS ρ μ a v):aS ρ μ (.iface t a) (.iface t v)
 |nili:aS ρ μ .nili .nilIface
 |agg (l:List AV) (vs:Array Value) (h:ax ρ μ l vs.toList):aS ρ μ (.agg l) (.agg vs)
 |tuple (l:List AV) (vs:Array Value) (h:ax ρ μ l vs.toList):aS ρ μ (.tuple l) (.tuple vs)
 |sl (l:List AV) (len sz:Nat) (fl:SF) (cap c o:Nat) (a:Addr) (vs:List Value) (h:ax ρ μ l vs) (hn:l.length=len*sz) (hl:len≤cap) (ha:cap=0∨a=⟨c,o,none⟩)
   (hf:∀i v,vs[i]?=some v→μ.fz c (o+i)=some v) (hg:Py μ c o len cap sz fl):aS ρ μ (.sl l len sz fl) (.slice (some a) len cap)
 |cref (l:List AV) (c o:Nat) (a:Addr) (vs:List Value) (h:ax ρ μ l vs) (ha:a=⟨c,o,none⟩) (hf:∀i v,vs[i]?=some v→μ.fz c (o+i)=some v):aS ρ μ (.cref l) (.pointer (some a))
inductive ax(ρ:Nat→Int)(μ:Mu):List AV→List Value→Prop
 |nil:ax ρ μ [] []
 |cons (a:AV) (l:List AV) (v:Value) (vs:List Value) (h:aS ρ μ a v) (h':ax ρ μ l vs):ax ρ μ (a ::l) (v ::vs)
end
mutual
theorem aS.mono{ρ:Nat→Int}{μ μ':Mu}(hm:μ.le μ'):∀{a:AV} {v:Value},aS ρ μ a v→aS ρ μ' a v
 |_,_,.bool b=>.bool b
 |_,_,.int k s n h=>.int k s n h
 |_,_,.str n c s h h'=>.str n c s h h'
 |_,_,.ptr b off l a h ha=>.ptr b off l a (hm.l _ _ h) ha
 |_,_,.nilp=>.nilp
 |_,_,.slice b off len sz cap l a h hc hl ha=>.slice b off len sz cap l a (hm.l _ _ h) hc hl ha
 |_,_,.nils=>.nils
 |_,_,.map b l r h hr=>.map b l r (hm.l _ _ h) hr
 |_,_,.nilm=>.nilm
 |_,_,.fn f first cap vs ws h h'=>.fn f first cap vs ws (ax.mono hm h) (ax.mono hm h')
 |_,_,.yld b l r h hr=>.yld b l r (hm.l _ _ h) hr
 |_,_,.nilf=>.nilf
 |_,_,.iface t a v h=>.iface t a v (aS.mono hm h)
 |_,_,.nili=>.nili
 |_,_,.agg l vs h=>.agg l vs (ax.mono hm h)
 |_,_,.tuple l vs h=>.tuple l vs (ax.mono hm h)
 |_,_,.sl l len sz fl cap c o a vs h hn hl ha hf hg=>.sl l len sz fl cap c o a vs (ax.mono hm h) hn hl ha (fun i v e=>hm.f _ _ _ (hf i v e)) (hg.mono hm)
 |_,_,.cref l c o a vs h ha hf=>.cref l c o a vs (ax.mono hm h) ha (fun i v e=>hm.f _ _ _ (hf i v e))
theorem ax.mono{ρ:Nat→Int}{μ μ':Mu}(hm:μ.le μ'):∀{l:List AV} {vs:List Value},ax ρ μ l vs→ax ρ μ' l vs
 |_,_,.nil=>.nil
 |_,_,.cons a l v vs h h'=>.cons a l v vs (aS.mono hm h) (ax.mono hm h')
end
section
variable{ρ:Nat→Int}{μ:Mu}
theorem ax.length{l:List AV}{vs:List Value}(h:ax ρ μ l vs):l.length=vs.length:=by
 induction l generalizing vs with
 |nil=>cases h;rfl
 |cons a l ih=>cases h with|cons _ _ v vs h h'=>simp[ih h']
theorem ax.get{l:List AV}{vs:List Value}(h:ax ρ μ l vs):∀(i:Nat) (a:AV),l[i]?=some a→∃v,vs[i]?=some v∧aS ρ μ a v:=by
 induction l generalizing vs with
 |nil=>intro i a h';simp at h'
 |cons x l ih=>
  cases h with
  |cons _ _ v vs h h'=>
   intro i a hi;cases i with
   |zero=>simp at hi;subst hi;exact⟨v,by simp,h⟩
   |succ i=>simpa using ih h' i a (by simpa using hi)
theorem ax.T1:∀{l:List AV} {vs:List Value},l.length=vs.length→(∀(i:Nat) (a:AV),l[i]?=some a→∃v,vs[i]?=some v∧aS ρ μ a v)→ax ρ μ l vs
 | [],[],_,_=>.nil
 | [],_ ::_,h,_=>by simp at h
 |_ ::_,[],h,_=>by simp at h
 |a ::l,v ::vs,h,hg=>by
  refine .cons a l v vs ?_ (ax.T1 (by simpa using h) fun i b hb=>?_)
  ·obtain⟨v',hv,hr⟩:=hg 0 a (by simp);simp at hv;subst hv;exact hr
  ·obtain⟨v',hv,hr⟩:=hg (i+1) b (by simpa using hb);exact⟨v',by simpa using hv,hr⟩
theorem ax.append{a b:List AV}{va vb:List Value}(h:ax ρ μ a va)(h':ax ρ μ b vb):ax ρ μ (a++b) (va++vb):=by
 induction a generalizing va with
 |nil=>cases h;exact h'
 |cons x a ih=>cases h with|cons _ _ v vs h1 h2=>exact .cons _ _ _ _ h1 (ih h2)
theorem ax.take{l:List AV}{vs:List Value}(h:ax ρ μ l vs)(n:Nat):ax ρ μ (l.take n) (vs.take n):=by
 induction n generalizing l vs with
 |zero=>simp;exact .nil
 |succ n ih=>cases h with
  |nil=>exact .nil
  |cons a l v vs h h'=>exact .cons _ _ _ _ h (ih h')
theorem ax.drop{l:List AV}{vs:List Value}(h:ax ρ μ l vs)(n:Nat):ax ρ μ (l.drop n) (vs.drop n):=by
 induction n generalizing l vs with
 |zero=>exact h
 |succ n ih=>cases h with
  |nil=>exact .nil
  |cons a l v vs h h'=>exact ih h'
theorem ax.one{a:AV}{v:Value}(h:aS ρ μ a v):ax ρ μ [a] [v]:=.cons _ _ _ _ h .nil
theorem ax.replicate{zs:List AV}{vs:List Value}(h:ax ρ μ zs vs):∀(n:Nat),ax ρ μ (List.replicate n zs).flatten (List.replicate n vs).flatten
 |0=>.nil
 |n+1=>by simp only[List.replicate_succ,zqk];exact h.append (ax.replicate h n)
theorem aS.cells{a:AV}{v:Value}(h:aS ρ μ a v):ax ρ μ a.cells v.cells.toList:=by
 cases h with
 |agg l vs h=>exact h
 |_=>first|exact ax.one (.bool _)|exact ax.one (.int _ _ _ ‹_›)|exact ax.one (.str _ _ _ ‹_› ‹_›)|exact ax.one (.ptr _ _ _ _ ‹_› ‹_›)|exact ax.one .nilp|exact ax.one (.slice _ _ _ _ _ _ _ ‹_› ‹_› ‹_› ‹_›)|exact ax.one .nils|exact ax.one (.map _ _ _ ‹_› ‹_›)|exact ax.one .nilm|exact ax.one (.fn _ _ _ _ _ ‹_› ‹_›)|exact ax.one (.yld _ _ _ ‹_› ‹_›)|exact ax.one .nilf|exact ax.one (.iface _ _ _ ‹_›)|exact ax.one .nili|exact ax.one (.tuple _ _ ‹_›)|exact ax.one (.sl _ _ _ _ _ _ _ _ _ ‹_› ‹_› ‹_› ‹_› ‹_› ‹_›)|exact ax.one (.cref _ _ _ _ _ ‹_› ‹_› ‹_›)
theorem aS.al2{a:AV}{v:Value}(h:aS ρ μ a v)(hc:a.aP=true):(∀vs,v≠.agg vs)∧(∀vs,v≠.tuple vs):=by cases h<;>simp_all [AV.aP]
end
mutual
theorem gO{ρ:Nat→Int}{μ:Mu}:∀(n:Nat) (v:Value) (a:AV),kg n v=some a→aS ρ μ a v:=by
 intro n v a h;cases n with
 |zero=>simp[kg]at h
 |succ n=>
  cases v with
  |bool b=>simp only[kg,dI]at h;subst h;exact .bool b
  |int k i=>simp only[kg,dI]at h;subst h;exact .int k _ _ rfl
  |string s=>simp only[kg,dI]at h;subst h;exact .str _ _ _ rfl rfl
  |pointer p=>cases p with
   |none=>simp only[kg,dI]at h;subst h;exact .nilp
   |some p=>simp[kg]at h
  |slice p len cap=>
   unfold kg at h;split at h<;>first|(cases h)|skip
   all_goals first|(simp at h;done)|skip
   all_goals simp_all
   all_goals first|exact .nils|skip
  |map r=>cases r with
   |none=>simp only[kg,dI]at h;subst h;exact .nilm
   |some p=>simp[kg]at h
  |nilFunc=>simp only[kg,dI]at h;subst h;exact .nilf
  |nilIface=>simp only[kg,dI]at h;subst h;exact .nili
  |iface t v=>
   simp only[kg]at h;split at h
   ·rename_i b hb;cases h;exact .iface _ _ _ (gO n v b hb)
   ·simp at h
  |agg cs=>
   simp only[kg]at h;split at h
   ·rename_i b hb;cases h;exact .agg _ _ (IM n cs.toList b hb)
   ·simp at h
  |tuple cs=>
   simp only[kg]at h;split at h
   ·rename_i b hb;cases h;exact .tuple _ _ (IM n cs.toList b hb)
   ·simp at h
  |float k b=>simp[kg]at h
  |complex k a b=>simp[kg]at h
  |chan r=>simp[kg]at h
  |func f a b=>simp[kg]at h
theorem IM{ρ:Nat→Int}{μ:Mu}:∀(n:Nat) (vs:List Value) (l:List AV),Iu n vs=some l→ax ρ μ l vs:=by
 intro n vs l h;cases vs with
 |nil=>cases n<;>(simp only[Iu,dI]at h;subst h;exact .nil)
 |cons v vs=>
  cases n with
  |zero=>simp[Iu]at h
  |succ n=>
   simp only[Iu]at h;split at h
   ·rename_i a r ha hr;cases h;exact .cons _ _ _ _ (gO n v a ha) (IM n vs r hr)
   ·simp at h
end
def j5(ρ:Nat→Int)(μ:Mu)(nt:Nat)(tm:T AV)(tmps:Array Value):Prop:=
 nt≤tmps.size∧∀k a,ae k tm=some a→∃v,tmps[k.toNat]?=some v∧aS ρ μ a v
def yz(ρ:Nat→Int)(μ:Mu):List (AV×AV)→List MapEntry→Prop
 | [],[]=>True
 |(k,a) ::l,e ::es=>aS ρ μ k e.key∧aS ρ μ a e.val∧yz ρ μ l es
 |_,_=>False
def acm:LS→LoopState→Prop
 |.ready,.ready|.busy,.busy|.done,.done|.exhausted,.exhausted=>True
 |_,_=>False
def agr(P:Program)(nt:Nat)(pc:aG)(c:Code):Prop:=gC P nt c=some pc
def SC(P:Program)(nt:Nat):Option aG→Option Code→Prop
 |none,none=>True
 |some pc,some c=>agr P nt pc c
 |_,_=>False
def TO(ks:List Key)(ts:List Nat):Prop:=ks.map Key.toNat=ts
structure ags(P:Program)(f:Nat)(nt:Nat)(res:List RV):Prop where
 ex:∃fn,P.funcs[f]?=some fn∧fn.ntmps=nt∧Rf P fn.ntmps fn.results.toList=some res
inductive J2(P:Program)(ρ:Nat→Int)(μ:Mu):ah→Loc→Obj→Prop
 |cells (L:List AV) (k:CK) (l:Loc) (arr:Array Value) (elem:TypeId) (fz:Nat×Nat)
   (hc:∀i a,L[i]?=some a→∃v,arr[l.base+i]?=some v∧aS ρ μ a v)
   (hs:l.base+l.ext≤arr.size) (hl:L.length≤l.ext) (hf:k≠.ro→fz=(0,0)) (he:k≠.part→L.length=l.ext) :
   J2 P ρ μ (.cells L k) l (.cells arr elem fz)
 |map (L:List (AV×AV)) (l:Loc) (es:Array MapEntry) (clock:Nat) (h:yz ρ μ L es.toList):J2 P ρ μ (.map L) l (.map es clock)
 |loop (st:LS) (pd:Option aG) (fn nt:Nat) (tm:T AV) (res:List RV) (params:List Key) (as bd:aG) (dfs:Key) (ld:Loc) (l:Loc) (L:Loop)
   (h1:acm st L.state) (h2:∀n,SC P n pd L.pending) (h3:L.fn=fn) (h4:j5 ρ μ nt tm L.tmps) (h5:TO params L.params.toList)
   (h5':∀k∈params,k.toNat<nt) (h6:agr P nt as L.assign) (h7:agr P nt bd L.body) (h8:μ dfs=some ld) (h9:L.defers=ld.c) (h10:ags P fn nt res) :
   J2 P ρ μ (.loop st pd fn tm res params as bd dfs) l (.loop L)
 |dfs (taken:Bool) (l:Loc):J2 P ρ μ (.dfs taken) l (.deferred (if taken then none else some []))
 |tok (l:Loc) (arr:Array Value) (elem:TypeId) (hs:l.base+l.ext≤arr.size):J2 P ρ μ .tok l (.cells arr elem (0,0))
theorem j5.mono{ρ:Nat→Int}{μ μ':Mu}(hm:μ.le μ'){nt:Nat}{tm:T AV}{tmps:Array Value}(h:j5 ρ μ nt tm tmps):j5 ρ μ' nt tm tmps:=
 ⟨h.1,fun k a ha=>let ⟨v,hv,hr⟩:=h.2 k a ha;⟨v,hv,hr.mono hm⟩⟩
theorem yz.mono{ρ:Nat→Int}{μ μ':Mu}(hm:μ.le μ'):∀{l:List (AV×AV)} {es:List MapEntry},yz ρ μ l es→yz ρ μ' l es
 | [],[],_=>trivial
 |(_,_) ::_,_ ::_,h=>⟨h.1.mono hm,h.2.1.mono hm,yz.mono hm h.2.2⟩
 | [],_ ::_,h=>h.elim
 |(_,_) ::_,[],h=>h.elim
theorem yz.length{ρ:Nat→Int}{μ:Mu}:∀{l:List (AV×AV)} {es:List MapEntry},yz ρ μ l es→l.length=es.length
 | [],[],_=>rfl
 |(_,_) ::_,_ ::_,h=>by simp[yz.length h.2.2]
 | [],_ ::_,h=>h.elim
 |(_,_) ::_,[],h=>h.elim
theorem J2.mono{P:Program}{ρ:Nat→Int}{μ μ':Mu}(hm:μ.le μ'){B:ah}{l:Loc}{o:Obj}(h:J2 P ρ μ B l o):J2 P ρ μ' B l o:=by
 cases h with
 |cells L k l arr elem fz hc hs hl hf he=>exact .cells L k l arr elem fz (fun i a ha=>let ⟨v,hv,hr⟩:=hc i a ha;⟨v,hv,hr.mono hm⟩) hs hl hf he
 |map L l es clock h=>exact .map L l es clock (h.mono hm)
 |loop st pd fn nt tm res params as bd dfs ld l L h1 h2 h3 h4 h5 h5' h6 h7 h8 h9 h10=>exact .loop st pd fn nt tm res params as bd dfs ld l L h1 h2 h3 (h4.mono hm) h5 h5' h6 h7 (hm.l _ _ h8) h9 h10
 |dfs taken l=>exact .dfs taken l
 |tok l arr elem hs=>exact .tok l arr elem hs
def ah.ro:ah→Prop
 |.cells _ .ro=>True
 |_=>False
def ah.lo(l:Loc):ah→Option Nat
 |.cells _ .ro=>none
 |.tok=>some l.base
 |_=>some 0
structure W0 extends World where
 z:Nat→Nat→Option Value
structure aZ(P:Program)(ρ:Nat→Int)(w0:W0)(μ:Mu)(G:Key→Option ah)(nx:Nat)(w:World):Prop where
 xG:∀b B,G b=some B→∃l o,μ b=some l∧w.heap[l.c]?=some o∧J2 P ρ μ B l o
 sep:∀b b' B B' l l',G b=some B→G b'=some B'→μ b=some l→μ b'=some l'→b≠b'→l.c≠l'.c
 zA:∀b l,μ b=some l→l.c<w.heap.size
 own:∀b B l,G b=some B→μ b=some l→B.ro∨w0.heap.size≤l.c
 NG:∀k:Key,k.toNat<P.globals.size→∃ext,μ k=some ⟨k.toNat,0,ext⟩
 new:∀b l,μ b=some l→b.toNat<nx
 below:Below w0.heap.size w0.toWorld w
 T3:∀c i v,μ.fz c i=some v→∃arr elem f,w.heap[c]?=some (.cells arr elem f)∧arr[i]?=some v
 fzf:∀b B l n,G b=some B→μ b=some l→B.lo l=some n→∀i,n≤i→μ.fz l.c i=none
 zle:∀c i v,w0.z c i=some v→μ.fz c i=some v
 fzo:∀c i v,μ.fz c i=some v→w0.heap.size≤c∨w0.z c i=some v
 rof:∀b L l,G b=some (.cells L .ro)→μ b=some l→w0.heap.size≤l.c∨∀arr e f i v,w.heap[l.c]?=some (.cells arr e f)→arr[i]?=some v→μ.fz l.c i=some v
 dr:w0.drawn≤w.drawn
def HSub(h:T ah)(G:Key→Option ah):Prop:=∀b B,ae b h=some B→G b=some B
theorem nz:type_of% @Result.andThen_ok:=@Result.andThen_ok
theorem qC:type_of% @Sem.run_bind:=@Sem.run_bind
theorem uE:type_of% @Sem.run_pure:=@Sem.run_pure
structure Touch(w w':World)(c:Nat):Prop where
 os:w'.os=w.os
 tape:w'.tape=w.tape
 output:w'.output=w.output
 size:w.heap.size≤w'.heap.size
 other:∀k,k≠c→k<w.heap.size→w'.heap[k]?=w.heap[k]?
 dr:w.drawn≤w'.drawn
theorem Touch.refl(w:World)(c:Nat):Touch w w c:=⟨rfl,rfl,rfl,fa _,fun _ _ _=>rfl,fa _⟩
theorem Touch.trans{a b d:World}{c:Nat}(h:Touch a b c)(h':Touch b d c):Touch a d c:=
 ⟨h'.os.trans h.os,h'.tape.trans h.tape,h'.output.trans h.output,Nat.le_trans h.size h'.size,
  fun k hk hs=>(h'.other k hk (Lk hs h.size)).trans (h.other k hk hs),Nat.le_trans h.dr h'.dr⟩
theorem Touch.below{a w w':World}{B c:Nat}(h:Touch w w' c)(hb:Below B a w)(hB:B≤w.heap.size)(hc:B≤c):Below B a w':=
 hb.trans ⟨h.os,h.tape,h.output,h.size,fun k hk=>h.other k (by omega) (by omega)⟩
theorem Touch.alloc(w:World)(o:Obj):Touch w (w.alloc o) w.heap.size:=
 ⟨rfl,rfl,rfl,by simp,fun k _ hs=>Below.heap_alloc w o k hs,fa _⟩
theorem Touch.drawn(w:World)(n c:Nat)(hn:w.drawn≤n):Touch w {w with drawn:=n} c:=⟨rfl,rfl,rfl,fa _,fun _ _ _=>rfl,hn⟩
def lF{α:Type}(f:Key→Option α)(k:Key)(x:Option α):Key→Option α:=fun b=>if b.toNat=k.toNat then x else f b
theorem eG{α:Type}(f:Key→Option α)(k:Key)(x:Option α):lF f k x k=x:=by simp[lF]
theorem bE{α:Type}(f:Key→Option α){k b:Key}(x:Option α)(h:b≠k):lF f k x b=f b:=by have:b.toNat≠k.toNat:=fun e=>h (Key.toNat_inj e);simp[lF,this]
def Mu.put(μ:Mu)(k:Key)(l:Loc):Mu:=⟨lF μ.loc k (some l),μ.fz⟩
theorem Mu.dZ(μ:Mu)(k:Key)(l:Loc):(μ.put k l) k=some l:=eG _ _ _
theorem Mu.tR(μ:Mu){k b:Key}(l:Loc)(h:b≠k):(μ.put k l) b=μ b:=bE _ _ h
theorem Mu.EU{μ:Mu}{k:Key}{l:Loc}(hk:μ k=none∨μ k=some l):μ.le (μ.put k l):=by
 refine⟨fun b l' e=>?_,fun _ _ _ h=>h⟩;by_cases hb:b=k
 ·subst hb;rw[Mu.dZ];rcases hk with hk|hk
  ·rw[hk]at e;cases e
  ·rw[hk]at e;exact e
 ·rw[Mu.tR _ _ hb];exact e
section
variable{P:Program}{ρ:Nat→Int}{w0:W0}{w w':World}{μ:Mu}{G G':Key→Option ah}{nx:Nat}
theorem aZ.sub(h:aZ P ρ w0 μ G nx w)(hs:∀b B,G' b=some B→G b=some B):aZ P ρ w0 μ G' nx w:=
 ⟨fun b B e=>h.xG b B (hs b B e),fun b b' B B' l l' e e'=>h.sep b b' B B' l l' (hs _ _ e) (hs _ _ e'),h.zA,fun b B l e=>h.own b B l (hs _ _ e),h.NG,h.new,h.below,h.T3,fun b B l n e=>h.fzf b B l n (hs _ _ e),h.zle,h.fzo,fun b L l e=>h.rof b L l (hs _ _ e),h.dr⟩
theorem aZ.avR{nx':Nat}(h:aZ P ρ w0 μ G nx w)(hn:nx≤nx'):aZ P ρ w0 μ G nx' w:=
 ⟨h.xG,h.sep,h.zA,h.own,h.NG,fun b l e=>Lk (h.new b l e) hn,h.below,h.T3,h.fzf,h.zle,h.fzo,h.rof,h.dr⟩
theorem aZ.drawn(h:aZ P ρ w0 μ G nx w)(n:Nat)(hn:w.drawn≤n):aZ P ρ w0 μ G nx {w with drawn:=n}:=
 ⟨h.xG,h.sep,h.zA,h.own,h.NG,h.new,h.below.trans ⟨rfl,rfl,rfl,fa _,fun _ _=>rfl⟩,h.T3,h.fzf,h.zle,h.fzo,h.rof,Nat.le_trans h.dr hn⟩
theorem aZ.ahF(h:aZ P ρ w0 μ G nx w)(n:Nat):aZ P ρ {w0 with drawn:=0} μ G nx {w with drawn:=n}:=
 ⟨h.xG,h.sep,h.zA,h.own,h.NG,h.new,⟨h.below.os,h.below.tape,h.below.output,h.below.size,h.below.block⟩,h.T3,h.fzf,h.zle,h.fzo,h.rof,Nat.zero_le _⟩
theorem aZ.ZE(h:aZ P ρ w0 μ G nx w)(i:Nat):μ.fz w.heap.size i=none:=by
 cases e:μ.fz w.heap.size i with
 |none=>rfl
 |some v=>obtain⟨arr,elem,f,h1,_⟩:=h.T3 _ _ _ e;simp at h1
theorem aZ.put(h:aZ P ρ w0 μ G nx w)(k:Key)(B:ah)(l:Loc)(o:Obj){nx':Nat}
  (hk:μ k=none∨μ k=some l) (hw:Touch w w' l.c) (ho:w'.heap[l.c]?=some o)
  (hB:J2 P ρ (μ.put k l) B l o) (Hw:∀b B' l',G b=some B'→μ b=some l'→b≠k→l'.c≠l.c)
  (rm:w0.heap.size≤l.c) (hn:nx≤nx') (K4:k.toNat<nx') (hz:∀i,μ.fz l.c i=none) :
  μ.le (μ.put k l)∧aZ P ρ w0 (μ.put k l) (lF G k (some B)) nx' w':=by
 have hle:μ.le (μ.put k l):=Mu.EU hk;have hlc:l.c<w'.heap.size:=by
  rcases Jy l.c w'.heap.size with h'|h'
  ·exact h'
  ·rw[VY h']at ho;cases ho
 have vt:w0.heap.size≤w.heap.size:=h.below.size;refine⟨hle,?_,?_,?_,?_,?_,?_,hw.below h.below vt rm,?_,?_,h.zle,h.fzo,?_,Nat.le_trans h.dr hw.dr⟩
 ·intro b B' e;by_cases hb:b=k
  ·subst hb;rw[eG]at e;cases e;exact⟨l,o,Mu.dZ _ _ _,ho,hB⟩
  ·rw[bE _ _ hb]at e;obtain⟨l',o',h1,h2,h3⟩:=h.xG b B' e;refine⟨l',o',by rw[Mu.tR _ _ hb];exact h1,?_,h3.mono hle⟩;rw[hw.other l'.c (Hw b B' l' e h1 hb) (h.zA b l' h1)];exact h2
 ·intro b b' B1 B2 l1 l2 e1 e2 m1 m2 bU;by_cases hb:b=k
  ·subst hb;rw[Mu.dZ]at m1;cases m1;have gx:b'≠b:=fun e=>bU e.symm;rw[bE _ _ gx]at e2;rw[Mu.tR _ _ gx]at m2;exact fun e=>Hw b' B2 l2 e2 m2 gx e.symm
  ·rw[bE _ _ hb]at e1;rw[Mu.tR _ _ hb]at m1;by_cases gx:b'=k
   ·subst gx;rw[Mu.dZ]at m2;cases m2;exact Hw b B1 l1 e1 m1 hb
   ·rw[bE _ _ gx]at e2;rw[Mu.tR _ _ gx]at m2;exact h.sep b b' B1 B2 l1 l2 e1 e2 m1 m2 bU
 ·intro b l' e;by_cases hb:b=k
  ·subst hb;rw[Mu.dZ]at e;cases e;exact hlc
  ·rw[Mu.tR _ _ hb]at e;exact Lk (h.zA b l' e) hw.size
 ·intro b B' l' e m;by_cases hb:b=k
  ·subst hb;rw[Mu.dZ]at m;cases m;exact .inr rm
  ·rw[bE _ _ hb]at e;rw[Mu.tR _ _ hb]at m;exact h.own b B' l' e m
 ·intro b hb;obtain⟨ext,he⟩:=h.NG b hb;exact⟨ext,hle.l _ _ he⟩
 ·intro b l' e;by_cases hb:b=k
  ·subst hb;exact K4
  ·rw[Mu.tR _ _ hb]at e;exact Lk (h.new b l' e) hn
 ·intro c i v e;have e:μ.fz c i=some v:=e;obtain⟨arr,elem,f,h1,h2⟩:=h.T3 c i v e;have hc:c≠l.c:=by intro hc;subst hc;rw[hz i]at e;cases e
  have bY:c<w.heap.size:=by
   rcases Jy c w.heap.size with h'|h'
   ·exact h'
   ·rw[VY h']at h1;cases h1
  exact⟨arr,elem,f,by rw[hw.other c hc bY];exact h1,h2⟩
 ·intro b B' l' n e m xH i hi;show μ.fz l'.c i=none;by_cases hb:b=k
  ·subst hb;rw[Mu.dZ]at m;cases m;exact hz i
  ·rw[bE _ _ hb]at e;rw[Mu.tR _ _ hb]at m;exact h.fzf b B' l' n e m xH i hi
 ·intro b L l' e m;by_cases hb:b=k
  ·subst hb;rw[Mu.dZ]at m;cases m;exact .inl rm
  ·rw[bE _ _ hb]at e;rw[Mu.tR _ _ hb]at m;rcases h.rof b L l' e m with h1|h1
   ·exact .inl h1
   ·refine .inr fun arr ee f i v ha hv=>h1 arr ee f i v ?_ hv;rw[←hw.other l'.c (Hw b _ l' e m hb) (h.zA b l' m)];exact ha
theorem aZ.alloc(h:aZ P ρ w0 μ G nx w)(k:Key)(B:ah)(o:Obj)(ext:Nat){nx':Nat}(hk:μ k=none)
  (hB:J2 P ρ (μ.put k ⟨w.heap.size,0,ext⟩) B ⟨w.heap.size,0,ext⟩ o) (hn:nx≤nx') (K4:k.toNat<nx') :
  μ.le (μ.put k ⟨w.heap.size,0,ext⟩)∧aZ P ρ w0 (μ.put k ⟨w.heap.size,0,ext⟩) (lF G k (some B)) nx' (w.alloc o):=
 h.put k B ⟨w.heap.size,0,ext⟩ o (.inl hk) (Touch.alloc w o) (by show(w.heap.push o)[w.heap.size]?=some o;simp) hB
  (fun b B' l' _ m _=>Nat.ne_of_lt (h.zA b l' m)) h.below.size hn K4 h.ZE
theorem HSub.set{h:T ah}(hs:HSub h G)(k:Key)(B:Option ah):HSub (av k B h) (lF G k B):=by
 intro b B' e;by_cases hb:b=k
 ·subst hb;rw[gTSm]at e;rw[eG];exact e
 ·rw[aR _ _ _ _ hb]at e;rw[bE _ _ hb];exact hs b B' e
theorem aZ.cells(h:aZ P ρ w0 μ G nx w){b:Key}{L:List AV}{k:CK}(hb:G b=some (.cells L k)) :
  ∃l arr elem fz,μ b=some l∧w.heap[l.c]?=some (.cells arr elem fz)∧(∀i a,L[i]?=some a→∃v,arr[l.base+i]?=some v∧aS ρ μ a v)∧
   l.base+l.ext≤arr.size∧L.length≤l.ext∧(k≠.ro→fz=(0,0))∧(k≠.part→L.length=l.ext):=by
 obtain⟨l,o,h1,h2,h3⟩:=h.xG b _ hb;cases h3 with
 |cells L k l arr elem fz hc hs hl hf he=>exact⟨l,arr,elem,fz,h1,h2,hc,hs,hl,hf,he⟩
theorem aZ.lo0(h:aZ P ρ w0 μ G nx w){b:Key}{B:ah}(hb:G b=some B){l:Loc}(hl:μ b=some l)(xH:B.lo l=some 0)(i:Nat):μ.fz l.c i=none:=
 h.fzf b B l 0 hb hl xH i (Nat.zero_le _)
end
theorem pC(c o n:Nat):(⟨c,o,none⟩:Addr).add n=⟨c,o+n,none⟩:=by
 unfold Addr.add;split
 ·rename_i h;subst h;rfl
 ·rfl
theorem Oj{w:World}{c:Nat}{arr:Array Value}{elem:TypeId}{fz:Nat×Nat}(h:w.heap[c]?=some (.cells arr elem fz))(o:Nat) :
  w.cell? ⟨c,o,none⟩=arr[o]?:=by
 simp[World.cell?,h]
theorem yA(P:Program)(w:World)(c o:Nat)(arr:Array Value)(elem:TypeId)(fz:Nat×Nat)(hc:w.heap[c]?=some (.cells arr elem fz)) :
  ∀(n i:Nat) (acc:Array Value),o+i+n≤arr.size→
   (loadCellsFrom ⟨c,o,none⟩ i n acc).run P w=.ok (acc++((arr.toList.drop (o+i)).take n).toArray) w
 |0,i,acc,_=>by simp[loadCellsFrom]
 |n+1,i,acc,h=>by
  have bY:o+i<arr.size:=by omega
  have MH:w.cell? ⟨c,o+i,none⟩=some arr[o+i]:=by rw[Oj hc];simp[bY]
  simp only[loadCellsFrom,qC,run_load,pC,MH,nz];rw[yA P w c o arr elem fz hc n (i+1) _ (by omega)];have hd:arr.toList.drop (o+i)=arr[o+i] ::arr.toList.drop (o+(i+1)):=by rw[zqt (by simpa using bY)];simp[Nat.add_assoc]
  rw[hd];apply congrArg (fun x=>Result.ok x w);apply Array.ext';simp
theorem mP(P:Program)(w:World)(c o:Nat)(arr:Array Value)(elem:TypeId)(fz:Nat×Nat)(hc:w.heap[c]?=some (.cells arr elem fz))(n:Nat)(h:o+n≤arr.size) :
  (loadCells ⟨c,o,none⟩ n).run P w=.ok ((arr.toList.drop o).take n).toArray w:=by
 have:=yA P w c o arr elem fz hc n 0 #[] (by omega);simpa[loadCells]using this
def lg(arr:Array Value)(o:Nat):List Value→Array Value
 | []=>arr
 |v ::vs=>lg (arr.setIfInBounds o v) (o+1) vs
theorem mS:∀(vs:List Value) (arr:Array Value) (o:Nat),(lg arr o vs).size=arr.size
 | [],_,_=>rfl
 |v ::vs,arr,o=>by simp[lg,mS vs]
theorem jt:∀(vs:List Value) (arr:Array Value) (o j:Nat),o+vs.length≤arr.size→
  (lg arr o vs)[j]?=if o≤j∧j<o+vs.length then vs[j-o]? else arr[j]?
 | [],arr,o,j,_=>by
  have:¬(o≤j∧j<o+([]:List Value).length):=by simp
  rw[if_neg this];rfl
 |v ::vs,arr,o,j,h=>by
  simp only[zqi]at h;rw[lg,jt vs _ (o+1) j (by simp;omega)];simp only[zqi];by_cases hj:o=j
  ·subst hj;rw[if_neg (by omega),if_pos (by omega)];have:o<arr.size:=by omega
   simp[this]
  ·by_cases h1:o+1≤j∧j<o+1+vs.length
   ·rw[if_pos h1,if_pos (by omega)];have:j-o=(j-(o+1))+1:=by omega
    rw[this];simp
   ·rw[if_neg h1,if_neg (by omega),zqn hj]
theorem pB(P:Program)(c o:Nat)(elem:TypeId):∀(vs:List Value) (i:Nat) (w:World) (arr:Array Value),
  w.heap[c]?=some (.cells arr elem (0,0))→o+i+vs.length≤arr.size→(∀v∈vs,v.oneCell'=true)→
  ∃w',(storeCells ⟨c,o,none⟩ vs i).run P w=.ok () w'∧Touch w w' c∧w'.heap.size=w.heap.size∧w'.heap[c]?=some (.cells (lg arr (o+i) vs) elem (0,0))
 | [],i,w,arr,hc,_,_=>⟨w,rfl,Touch.refl w c,rfl,hc⟩
 |v ::vs,i,w,arr,hc,hs,hv=>by
  simp only[zqi]at hs;have bY:o+i<arr.size:=by omega
  have MH:w.cell? ⟨c,o+i,none⟩=some arr[o+i]:=by rw[Oj hc];simp[bY]
  have UB:w.frozen? ⟨c,o+i,none⟩=false:=by simp[World.frozen?,hc]
  have WD:c<w.heap.size:=by
   rcases Jy c w.heap.size with h'|h'
   ·exact h'
   ·rw[VY h']at hc;cases hc
  have hc':(w.setCell ⟨c,o+i,none⟩ v).heap[c]?=some (.cells (arr.setIfInBounds (o+i) v) elem (0,0)):=by simp[World.setCell,Array.getElem?_modify,hc]
  obtain⟨w',h1,h2,h3,h4⟩:=pB P c o elem vs (i+1) (w.setCell ⟨c,o+i,none⟩ v) _ hc' (by simp;omega) (fun u hu=>hv u (by simp[hu]));refine⟨w',?_,?_,?_,?_⟩
  ·simp only[storeCells,qC,pC,run_store P w _ v _ (hv v (by simp)),MH,UB,SH,if_false,nz];exact h1
  ·have ht:Touch w (w.setCell ⟨c,o+i,none⟩ v) c:=⟨rfl,rfl,rfl,by simp,fun k hk _=>Below.heap_setCell w ⟨c,o+i,none⟩ v k hk,fa _⟩;exact ht.trans h2
  ·rw[h3];simp
  ·rw[h4,lg,Nat.add_assoc]
end Go.Sx
