/- A part of the proof. No condition. -/
import GoSem.Step
import Derived.Below
import Derived.Laws.Sem
import Derived.Laws.World
import GoSem.Dispatch
import Derived.Laws.StructEq
import Derived.Lib.Strings
import Derived.ChangeKeysEq
set_option linter.unusedSimpArgs false
set_option linter.unusedVariables false
set_option linter.unusedSectionVars false
namespace Go.Sx
theorem bS:type_of% @Nat.le_refl:=@Nat.le_refl
theorem Af:type_of% @List.getElem?_eq_getElem:=@List.getElem?_eq_getElem
theorem mi:type_of% @List.all_eq_true:=@List.all_eq_true
theorem yB:type_of% @Nat.eq_of_beq_eq_true:=@Nat.eq_of_beq_eq_true
theorem Ad:type_of% @Bool.and_eq_true:=@Bool.and_eq_true
theorem Lc:type_of% @List.length_append:=@List.length_append
theorem xH:type_of% @List.mem_cons:=@List.mem_cons
theorem XO:type_of% @List.take_of_length_le:=@List.take_of_length_le
theorem Tj:type_of% @List.length_cons:=@List.length_cons
theorem zqj:type_of% @Array.getElem?_eq_none:=@Array.getElem?_eq_none
theorem Xh:type_of% @List.flatten_cons:=@List.flatten_cons
theorem YK:type_of% @Nat.lt_of_lt_of_le:=@Nat.lt_of_lt_of_le
theorem Yz:type_of% @Bool.false_eq_true:=@Bool.false_eq_true
theorem zqn:type_of% @Array.getElem?_setIfInBounds_ne:=@Array.getElem?_setIfInBounds_ne
theorem zqo:type_of% @List.getElem?_eq_none:=@List.getElem?_eq_none
theorem XV:type_of% @List.getElem_mem:=@List.getElem_mem
theorem zqq:type_of% @List.drop_append:=@List.drop_append
theorem zqr:type_of% @List.eq_nil_of_length_eq_zero:=@List.eq_nil_of_length_eq_zero
theorem Ts:type_of% @Nat.lt_or_ge:=@Nat.lt_or_ge
theorem zqt:type_of% @List.drop_eq_getElem_cons:=@List.drop_eq_getElem_cons
theorem zqu:type_of% @List.take_succ_eq_append_getElem:=@List.take_succ_eq_append_getElem
theorem Vn:type_of% @List.mem_map:=@List.mem_map
theorem zqw:type_of% @List.take_append:=@List.take_append
theorem XW:type_of% @List.map_cons:=@List.map_cons
theorem zqy:type_of% @List.length_take:=@List.length_take
theorem dO:type_of% @Option.some.injEq:=@Option.some.injEq
inductive Key where
 |z
 |o (k:Key)
 |e (k:Key)
def Key.toNat:Key→Nat
 |.z=>0
 |.o k=>2*k.toNat+1
 |.e k=>2*k.toNat+2
noncomputable def Key.succ(k:Key):Key:=
 Key.rec (.o .z) (fun k _=>.e k) (fun _ ih=>.o ih) k
def Key.lZ:Nat→Nat→Key
 |0,_=>.z
 |f+1,n=>bif Nat.beq n 0 then .z else bif Nat.beq (n%2) 1 then .o (Key.lZ f (n / 2)) else .e (Key.lZ f (n / 2-1))
def Key.beq:Key→Key→Bool
 |.z,.z=>true
 |.o a,.o b=>Key.beq a b
 |.e a,.e b=>Key.beq a b
 |_,_=>false
inductive T(α:Type) where
 |nil
 |node (v:Option α) (l r:T α)
noncomputable def aa{α:Type}(k:Key):T α→Option α:=
 Key.rec (fun t=>T.rec none (fun v _ _ _ _=>v) t) (fun _ ih t=>T.rec none (fun _ l _ _ _=>ih l) t)
  (fun _ ih t=>T.rec none (fun _ _ r _ _=>ih r) t) k
noncomputable def Gs{α R:Type}(k:Key)(x:Option α):T α→(T α→R)→R:=
 Key.rec (fun t c=>T.rec (c (.node x .nil .nil)) (fun _ l r _ _=>c (.node x l r)) t)
  (fun _ ih t c=>T.rec (ih .nil fun l=>c (.node none l .nil)) (fun v l r _ _=>ih l fun l=>c (.node v l r)) t)
  (fun _ ih t c=>T.rec (ih .nil fun r=>c (.node none .nil r)) (fun v l r _ _=>ih r fun r=>c (.node v l r)) t) k
noncomputable def nth{α:Type}(n:Nat):List α→Option α:=
 Nat.rec (fun l=>List.rec none (fun x _ _=>some x) l) (fun _ ih l=>List.rec none (fun _ t _=>ih t) l) n
noncomputable def Eu{α:Type}(n:Nat):List α→List α:=
 Nat.rec (fun l=>l) (fun _ ih l=>List.rec [] (fun _ t _=>ih t) l) n
noncomputable def GQ{α R:Type}(n:Nat):List α→R→(List α→R)→R:=
 Nat.rec (fun _ _ c=>c []) (fun _ ih l bad c=>List.rec bad (fun x t _=>ih t bad fun r=>c (x ::r)) l) n
noncomputable def agT{α R:Type}(vs:List α):List α→R→(List α→R)→R:=
 List.rec (fun l _ c=>c l) (fun v _ ih l bad c=>List.rec bad (fun _ t _=>ih t bad fun r=>c (v ::r)) l) vs
noncomputable def adE{α R:Type}(vs:List α)(off:Nat):List α→R→(List α→R)→R:=
 Nat.rec (fun l bad c=>agT vs l bad c) (fun _ ih l bad c=>List.rec bad (fun x t _=>ih t bad fun r=>c (x ::r)) l) off
noncomputable def ab5{α R:Type}(a b:List α)(c:List α→R):R:=
 List.rec (motive:=fun _=>(List α→R)→R) (fun c=>c b) (fun x _ ih c=>ih fun r=>c (x ::r)) a c
noncomputable def lenL{α:Type}(l:List α):Nat:=List.rec 0 (fun _ _ ih=>Nat.succ ih) l
noncomputable def afd{α:Type}(n:Nat)(zs:List α):List α→List α:=
 Nat.rec (fun acc=>acc) (fun _ ih acc=>ab5 zs (ih acc) fun r=>r) n
inductive SI where
 |lit (n:Int)
 |var (i:Nat)
 |bin (op:BinOp) (k:IntKind) (a b:SI)
inductive SF where
 |any
 |tok (b:Key)
inductive AV where
 |bool (b:Bool)
 |int (k:IntKind) (n:SI)
 |str (n c:Nat)
 |ptr (b:Key) (off:Nat)
 |nilp
 |slice (b:Key) (off len sz:Nat)
 |nils
 |map (b:Key)
 |nilm
 |fn (f:Nat) (first cap:List AV)
 |yld (l:Key)
 |nilf
 |iface (t:Nat) (v:AV)
 |nili
 |agg (l:List AV)
 |tuple (l:List AV)
 |sl (l:List AV) (len sz:Nat) (fl:SF)
 |cref (l:List AV)
def AV.cells:AV→List AV
 |.agg l=>l
 |v=>[v]
def AV.aD:AV→Bool
 |.agg _=>false
 |.tuple _=>false
 |_=>true
def eqI:Int→Int→Bool
 |.ofNat a,.ofNat b=>Nat.beq a b
 |.negSucc a,.negSucc b=>Nat.beq a b
 |_,_=>false
def ltI:Int→Int→Bool
 |.ofNat a,.ofNat b=>Nat.blt a b
 |.negSucc a,.negSucc b=>Nat.blt b a
 |.negSucc _,.ofNat _=>true
 |.ofNat _,.negSucc _=>false
def ab6:BinOp→BinOp→Bool
 |.add,.add|.sub,.sub|.mul,.mul|.quo,.quo|.rem,.rem|.lss,.lss|.leq,.leq|.gtr,.gtr|.geq,.geq|.eql,.eql|.neq,.neq=>true
 |_,_=>false
def beqKind:IntKind→IntKind→Bool
 |.i8,.i8|.i16,.i16|.i32,.i32|.i64,.i64|.u8,.u8|.u16,.u16|.u32,.u32|.u64,.u64=>true
 |_,_=>false
def SI.beq:SI→SI→Bool
 |.lit a,.lit b=>eqI a b
 |.var i,.var j=>Nat.beq i j
 |.bin o k a b,.bin o' k' a' b'=>ab6 o o'&&beqKind k k'&&SI.beq a a'&&SI.beq b b'
 |_,_=>false
def SF.beq:SF→SF→Bool
 |.any,.any=>true
 |.tok a,.tok b=>Key.beq a b
 |_,_=>false
mutual
def AV.beq:AV→AV→Bool
 |.bool a,.bool b=>a==b
 |.int k a,.int k' b=>beqKind k k'&&SI.beq a b
 |.str n c,.str n' c'=>Nat.beq n n'&&Nat.beq c c'
 |.ptr b o,.ptr b' o'=>Key.beq b b'&&Nat.beq o o'
 |.nilp,.nilp=>true
 |.slice b o l s,.slice b' o' l' s'=>Key.beq b b'&&Nat.beq o o'&&Nat.beq l l'&&Nat.beq s s'
 |.nils,.nils=>true
 |.map b,.map b'=>Key.beq b b'
 |.nilm,.nilm=>true
 |.fn f a c,.fn f' a' c'=>Nat.beq f f'&&AV.Us a a'&&AV.Us c c'
 |.yld l,.yld l'=>Key.beq l l'
 |.nilf,.nilf=>true
 |.iface t v,.iface t' v'=>Nat.beq t t'&&AV.beq v v'
 |.nili,.nili=>true
 |.agg l,.agg l'=>AV.Us l l'
 |.tuple l,.tuple l'=>AV.Us l l'
 |.sl l n z f,.sl l' n' z' f'=>AV.Us l l'&&Nat.beq n n'&&Nat.beq z z'&&SF.beq f f'
 |.cref l,.cref l'=>AV.Us l l'
 |_,_=>false
def AV.Us:List AV→List AV→Bool
 | [],[]=>true
 |a ::l,b ::m=>AV.beq a b&&AV.Us l m
 |_,_=>false
end
def full:IntKind→Int
 |.i8|.u8=>256
 |.i16|.u16=>65536
 |.i32|.u32=>4294967296
 |.i64|.u64=>18446744073709551616
def half:IntKind→Int
 |.i8=>128
 |.i16=>32768
 |.i32=>2147483648
 |.i64=>9223372036854775808
 |.u8=>256
 |.u16=>65536
 |.u32=>4294967296
 |.u64=>18446744073709551616
def aW(k:IntKind)(n:Int):Int:=
 bif ltI (Int.emod n (full k)) (half k) then Int.emod n (full k) else Int.sub (Int.emod n (full k)) (full k)
inductive PX where
 |t (k:Key)
 |v (a:AV)
inductive Bu where
 |bool
 |int
 |str
 |ptr
 |iface
 |slice
 |func
 |map
 |parts (l:List (Nat×Bu))
inductive T7 where
 |mov (x:PX)
 |pick (c a b:PX)
 |new (zs:List AV)
 |box (x:PX)
 |build (zs:List AV) (parts:List (Nat×Nat×PX))
 |bslice (sz len:Nat) (zs:List AV) (parts:List (Nat×Nat×PX))
 |load (agg:Bool) (n:Nat) (a:PX)
 |store (n:Nat) (a v:PX)
 |nilc (x:PX)
 |bin (op:BinOp) (x y:PX)
 |eq (neg:Bool) (p:Bu) (x y:PX)
 |un (op:UnOp) (x:PX)
 |cint (k:IntKind) (x:PX)
 |cstr (x:PX)
 |cbytes (x:PX)
 |mkif (t:Nat) (x:PX)
 |mkfn (f:Nat) (first cap:List PX)
 |mkmap
 |mkslice (sz:Nat) (zs:List AV) (l c:PX)
 |sliceS (x:PX) (lo hi:Option PX)
 |sliceL (sz:Nat) (x:PX) (lo hi:Option PX)
 |sliceA (len sz:Nat) (x:PX) (lo hi:Option PX)
 |fieldA (off:Nat) (x:PX)
 |field (agg:Bool) (off n:Nat) (x:PX)
 |indexA (len sz:Nat) (x i:PX)
 |indexL (sz:Nat) (x i:PX)
 |indexS (x i:PX)
 |indexV (len:Nat) (agg:Bool) (sz:Nat) (x i:PX)
 |lookup (sk:Bool) (zero:AV) (ok:Bool) (m k:PX)
 |mapupd (sk:Bool) (m k v:PX)
 |mapupdP (p:Bu) (m k v:PX)
 |delP (p:Bu) (m k:PX)
 |rangeM (x:PX)
 |nextM (x:PX)
 |entryM (x:PX)
 |strb (x:PX)
 |assert (t:Nat) (zero:AV) (ok:Bool) (x:PX)
 |extract (x:PX) (i:Nat)
 |callF (f:Nat) (args:List PX)
 |callV (v:PX) (args:List PX)
 |lenS (x:PX)
 |lenL (x:PX)
 |lenM (x:PX)
 |append (sz:Nat) (s x:PX)
 |mx (isMax:Bool) (a b:PX)
 |dfr (v:PX) (args:List PX)
 |panic (x:PX)
 |recover
structure J where
 dst:Option Key
 op:T7
 guard:Option (Key×Bool)
inductive bx where
 |L (i:Nat) (o:J)
 |A (i:Nat) (o:J)
 |H (i:Nat) (o:J) (Ou:List Nat)
 |R (os:List (Nat×J))
structure SD where
 ds:List Key
 mN:List (Nat×List Nat)
inductive U where
 |skip
 |ops (l:List J)
 |staged (l:List bx) (nG:SD)
 |seq (a b:U)
 |cond (c:PX) (a b:U)
 |block (id:Nat) (c:U)
 |loop (c:U)
 |rangeF (f:PX) (params:List Key) (assign body:U)
 |exit (id:Nat)
 |ret
inductive RV where
 |tmp (k:Key)
 |cell (k:Key) (agg:Bool) (n:Nat)
structure eG where
 body:U
 res:List RV
inductive LS where
 |ready|busy|done|exhausted
inductive CK where
 |fix|ro|part
inductive ab where
 |cells (l:List AV) (k:CK)
 |map (l:List (AV×AV))
 |mapD (l:List (Nat×AV×AV)) (clock:Nat)
 |iter (m:Key) (n:Nat) (seen:List Nat)
 |loop (st:LS) (pending:Option U) (fn:Nat) (tm:T AV) (res:List RV) (params:List Key) (assign body:U) (dfs:Key)
 |dfs (taken:Bool)
 |tok
inductive fE where
 |code (c:U)
 |inBlock (id:Nat)
 |inLoop (c:U)
 |ops (l:List J)
 |staged (l:List bx) (nG:SD) (an:List (Nat×Key×ab))
 |inRF (l:Key)
 |endRF (l:Key)
 |beginRound
inductive ajn where
 |run
 |ret
 |pan (v:AV) (recovered:Bool)
inductive ae6 where
 |fn (f:Nat) (args:List AV)
 |coll (b:Key)
structure xC where
 fn:Nat
 tm:T AV
 todo:List fE
 dfs:List ae6
 mode:ajn
 dfd:Bool
 Ol:Option Key
 res:List RV
structure AM where
 fr:xC
 cs:List xC
 h:T ab
 nx:Key
inductive OR where
 |val (v:AV) (h:T ab) (nx:Key)
 |call (f:Nat) (args:List AV)
 |yld (l:Key) (args:List AV)
 |pan (v:AV)
 |dfr (f:Nat) (args:List AV)
 |recover
 |alt (l:List (AV×T ab))
 |bad (why:Nat)
abbrev pF:=List (BinOp×SI×SI×Bool)
def pF.ask(op:BinOp)(a b:SI):pF→Option Bool
 | []=>none
 |(o,x,y,r) ::l=>bif ab6 o op&&SI.beq x a&&SI.beq y b then some r else pF.ask op a b l
noncomputable def PX.at(x:PX)(tm:T AV):Option AV:=
 match x with
 |.t k=>aa k tm
 |.v a=>some a
noncomputable def atAll(tm:T AV):List PX→Option (List AV)
 | []=>some []
 |x ::l=>match x.at tm with
  |none=>none
  |some a=>match atAll tm l with
   |none=>none
   |some r=>some (a ::r)
def loB(k:IntKind)(n:Int):Nat:=Int.toNat (Int.emod n (full k))
def arith(op:BinOp)(k:IntKind)(a b:SI):Option SI:=
 match a,b with
 |.lit x,.lit y=>match op with
  |.add=>some (.lit (aW k (Int.add x y)))
  |.sub=>some (.lit (aW k (Int.sub x y)))
  |.mul=>some (.lit (aW k (Int.mul x y)))
  |.quo=>bif eqI y 0 then none else some (.lit (aW k (Int.tdiv x y)))
  |.rem=>bif eqI y 0 then none else some (.lit (Int.tmod x y))
  |.xor=>match k,x,y with
   |.u64,.ofNat m,.ofNat n=>some (.lit (Int.emod (.ofNat (Nat.xor m n)) 18446744073709551616))
   |k,x,y=>some (.lit (aW k (.ofNat (Nat.xor (loB k x) (loB k y)))))
  |.or=>match k,x,y with
   |.u64,.ofNat m,.ofNat n=>some (.lit (Int.emod (.ofNat (Nat.lor m n)) 18446744073709551616))
   |k,x,y=>some (.lit (aW k (.ofNat (Nat.lor (loB k x) (loB k y)))))
  |.and=>match k,x,y with
   |.u64,.ofNat m,.ofNat n=>some (.lit (Int.emod (.ofNat (Nat.land m n)) 18446744073709551616))
   |k,x,y=>some (.lit (aW k (.ofNat (Nat.land (loB k x) (loB k y)))))
  |_=>none
 |_,_=>match op with
  |.add|.sub|.mul=>some (.bin op k a b)
  |_=>none
def VK(orc:pF)(op:BinOp)(a b:SI):Option Bool:=
 match a,b with
 |.lit x,.lit y=>match op with
  |.eql=>some (eqI x y)
  |.neq=>some (!(eqI x y))
  |.lss=>some (ltI x y)
  |.leq=>some (!(ltI y x))
  |.gtr=>some (ltI y x)
  |.geq=>some (!(ltI x y))
  |_=>none
 |_,_=>bif SI.beq a b then(match op with
  |.eql|.leq|.geq=>some true
  |.neq|.lss|.gtr=>some false
  |_=>none) else orc.ask op a b
def isCmp:BinOp→Bool
 |.eql|.neq|.lss|.leq|.gtr|.geq=>true
 |_=>false
def Lk:Nat→Nat→Nat→Nat→Bool
 |0,_,m,_=>bif Nat.beq m 0 then false else true
 |n+1,c,m,d=>
  bif Nat.beq m 0 then false
  else bif Nat.blt (c%256) (d%256) then true
  else bif Nat.beq (c%256) (d%256) then Lk n (c / 256) (m-1) (d / 256) else false
def opS(op:BinOp)(n c m d:Nat):Option AV:=
 match op with
 |.add=>bif Nat.ble (n+m) 4611686018427387904 then some (.str (n+m) (c+Nat.shiftLeft d (8*n))) else none
 |.eql=>some (.bool (Nat.beq n m&&Nat.beq c d))
 |.neq=>some (.bool (!(Nat.beq n m&&Nat.beq c d)))
 |.lss=>some (.bool (Lk n c m d))
 |.leq=>some (.bool (!(Lk m d n c)))
 |.gtr=>some (.bool (Lk m d n c))
 |.geq=>some (.bool (!(Lk n c m d)))
 |_=>none
def amD(c lo hi:Nat):AV:=.str (hi-lo) (Nat.mod (Nat.shiftRight c (8*lo)) (Nat.pow 2 (8*(hi-lo))))
mutual
noncomputable def nw(orc:pF):Bu→AV→AV→Option Bool
 |.bool,.bool a,.bool b=>some (a==b)
 |.int,.int k a,.int k' b=>bif beqKind k k' then VK orc .eql a b else none
 |.str,.str n c,.str m d=>some (Nat.beq n m&&Nat.beq c d)
 |.ptr,.nilp,.nilp=>some true
 |.ptr,.nilp,.ptr _ _=>some false
 |.ptr,.ptr _ _,.nilp=>some false
 |.ptr,.ptr b o,.ptr b' o'=>bif Key.beq b b' then some (Nat.beq o o') else none
 |.ptr,.nilp,.cref _=>some false
 |.ptr,.cref _,.nilp=>some false
 |.iface,.nili,.nili=>some true
 |.iface,.nili,.iface _ _=>some false
 |.iface,.iface _ _,.nili=>some false
 |.slice,.nils,.nils=>some true
 |.slice,.nils,.slice _ _ _ _=>some false
 |.slice,.slice _ _ _ _,.nils=>some false
 |.slice,.nils,.sl _ _ _ _=>some false
 |.slice,.sl _ _ _ _,.nils=>some false
 |.func,.nilf,.nilf=>some true
 |.func,.nilf,.fn _ _ _=>some false
 |.func,.fn _ _ _,.nilf=>some false
 |.map,.nilm,.nilm=>some true
 |.map,.nilm,.map _=>some false
 |.map,.map _,.nilm=>some false
 |.parts l,.agg a,.agg b=>dq orc l a b
 |_,_,_=>none
noncomputable def dq(orc:pF):List (Nat×Bu)→List AV→List AV→Option Bool
 | [],_,_=>some true
 |(off,p) ::l,a,b=>
  match nth off a,nth off b with
  |some x,some y=>match nw orc p x y with
   |some true=>dq orc l a b
   |some false=>some false
   |none=>none
  |_,_=>none
end
noncomputable def Sb(tm:T AV):List (Nat×Nat×PX)→List AV→Option (List AV)
 | [],cs=>some cs
 |(off,size,x) ::r,cs=>
  match x.at tm with
  |none=>none
  |some v=>bif Nat.beq (lenL v.cells) size then adE v.cells off cs none (fun cs=>Sb tm r cs) else none
noncomputable def Ek(agg:Bool)(off n:Nat)(l:List AV):Option AV:=
 bif agg then GQ n (Eu off l) none (fun r=>some (.agg r)) else nth off l
def keyEq(orc:pF)(sk:Bool):AV→AV→Option Bool
 |.int k a,.int k' b=>bif beqKind k k' && !sk then VK orc .eql a b else none
 |.str n c,.str m d=>bif sk then some (Nat.beq n m&&Nat.beq c d) else none
 |_,_=>none
def findK(orc:pF)(sk:Bool)(k:AV):List (AV×AV)→Option (Option AV)
 | []=>some none
 |(a,v) ::l=>match keyEq orc sk k a with
  |some true=>some (some v)
  |some false=>findK orc sk k l
  |none=>none
def setK(orc:pF)(sk:Bool)(k x:AV):List (AV×AV)→Option (List (AV×AV))
 | []=>some [(k,x)]
 |(a,v) ::l=>match keyEq orc sk k a with
  |some true=>some ((k,x) ::l)
  |some false=>match setK orc sk k x l with
   |some r=>some ((a,v) ::r)
   |none=>none
  |none=>none
def agU:AV→Bool
 |.bool _|.int _ _|.str _ _=>true
 |_=>false
def Mo:List AV→Bool
 | []=>true
 |a ::l=>agU a&&Mo l
noncomputable def YL(a:List AV):List (Nat×Bu)→Bool
 | []=>true
 |(o,_) ::l=>match nth o a with
  |some _=>YL a l
  |none=>false
noncomputable def Sd:Bu→AV→Bool
 |.parts l,.agg a=>Mo a&&YL a l
 |_,_=>false
noncomputable def aih(orc:pF)(p:Bu)(k a:AV):Option Bool:=match nw orc p k a with
 |some true=>bif AV.beq k a then some true else none
 |r=>r
noncomputable def Wv(orc:pF)(p:Bu)(k x:AV):List (AV×AV)→Option (List (AV×AV))
 | []=>some [(k,x)]
 |(a,v) ::l=>match aih orc p k a with
  |some true=>some ((k,x) ::l)
  |some false=>match Wv orc p k x l with
   |some r=>some ((a,v) ::r)
   |none=>none
  |none=>none
def YM:Nat→List (AV×AV)→List (Nat×AV×AV)
 |_,[]=>[]
 |i,(a,v) ::l=>(i,a,v) ::YM (i+1) l
noncomputable def adF(orc:pF)(p:Bu)(k:AV):List (Nat×AV×AV)→Option (List (Nat×AV×AV))
 | []=>some []
 |(s,a,v) ::l=>match aih orc p k a with
  |some true=>some l
  |some false=>match adF orc p k l with
   |some r=>some ((s,a,v) ::r)
   |none=>none
  |none=>none
noncomputable def stamped(b:Key)(h:T ab):Option (List (Nat×AV×AV)×Nat):=match aa b h with
 |some (.map l)=>some (YM 0 l,lenL l)
 |some (.mapD l c)=>some (l,c)
 |_=>none
def Ul(i:Nat):List Nat→Bool
 | []=>false
 |j ::l=>bif Nat.beq i j then true else Ul i l
def GI(seen:List Nat):List (Nat×AV×AV)→List (Nat×AV×AV)
 | []=>[]
 |(s,a,v) ::l=>bif Ul s seen then GI seen l else(s,a,v) ::GI seen l
def aa5(s:Nat):List (Nat×AV×AV)→Option AV
 | []=>none
 |(t,k,v) ::l=>bif Nat.beq t s then some (.tuple [k,v]) else aa5 s l
def YN:List Nat→Option Nat
 | []=>none
 |s ::l=>match l with
  | []=>some s
  |_ ::_=>YN l
def OM(n:Nat):List (Nat×AV×AV)→Bool
 | []=>true
 |(s,_,_) ::l=>Nat.blt s n&&OM n l
noncomputable def Wr(b m:Key)(n:Nat)(seen:List Nat)(h:T ab):List (Nat×AV×AV)→List (AV×T ab)
 | []=>[]
 |(s,k,v) ::l=>Gs b (some (.iter m n (seen ++ [s]))) h fun h'=>(.tuple [.bool true,k,v],h') ::Wr b m n seen h l
noncomputable def newB(v:Key→AV)(b:ab)(h:T ab)(nx:Key):OR:=
 Gs nx (some b) h fun h=>.val (v nx) h nx.succ
def rm:AV→Option Nat
 |.int _ (.lit (.ofNat n))=>some n
 |_=>none
noncomputable def sA(tm:T AV)(amE:Nat):Option PX→Option Nat
 |none=>some amE
 |some x=>match x.at tm with
  |none=>none
  |some v=>rm v
def bytesOf:Nat→Nat→List AV
 |0,_=>[]
 |n+1,c=>.int .u8 (.lit (.ofNat (c%256))) ::bytesOf n (c / 256)
def ofBytes:List AV→Option (Nat×Nat)
 | []=>some (0,0)
 |.int .u8 (.lit (.ofNat b)) ::l=>match ofBytes l with
  |some (n,c)=>bif Nat.blt b 256 then some (n+1,b+256*c) else none
  |none=>none
 |_=>none
noncomputable def allocOp(op:T7)(tm:T AV):Option ((Key→AV)×ab):=
 match op with
 |.new zs=>some (fun b=>.ptr b 0,.cells zs .fix)
 |.box x=>match x.at tm with
  |some v=>some (fun b=>.ptr b 0,.cells v.cells .fix)
  |none=>none
 |.bslice sz len zs parts=>match Sb tm parts (afd len zs []) with
  |some cs=>some (fun b=>.slice b 0 len sz,.cells cs .fix)
  |none=>none
 |.mkmap=>some (fun b=>.map b,.map [])
 |.mkslice sz zs l c=>match l.at tm,c.at tm with
  |some l,some c=>match rm l,rm c with
   |some l,some c=>bif Nat.ble l c&&Nat.ble c 1048576 then some (fun b=>.slice b 0 l sz,.cells (afd c zs []) .fix) else none
   |_,_=>none
  |_,_=>none
 |_=>none
noncomputable def loadB(h:T ab)(b:Key)(agg:Bool)(off n:Nat):Option AV:=
 match aa b h with
 |some (.cells l _)=>Ek agg off n l
 |_=>none
def ajN(k:IntKind)(n:Nat):Bool:=match k with
 |.i64|.u64=>Nat.ble n 64
 |.i32|.u32=>Nat.ble n 32
 |.i16|.u16=>Nat.ble n 16
 |.i8|.u8=>Nat.ble n 8
noncomputable def lightOp(orc:pF)(op:T7)(tm:T AV)(h:T ab):Option AV:=
 match op with
 |.mov x=>x.at tm
 |.pick c a b=>match c.at tm with
  |some (.bool true)=>a.at tm
  |some (.bool false)=>b.at tm
  |_=>none
 |.build zs parts=>match Sb tm parts zs with
  |some cs=>some (.agg cs)
  |none=>none
 |.load agg n a=>match a.at tm with
  |some (.ptr b off)=>loadB h b agg off n
  |some (.cref l)=>Ek agg 0 n l
  |_=>none
 |.nilc x=>match x.at tm with
  |some (.ptr b o)=>some (.ptr b o)
  |some (.cref l)=>some (.cref l)
  |some (.fn f a c)=>some (.fn f a c)
  |some (.yld l)=>some (.yld l)
  |some (.iface t v)=>some (.iface t v)
  |_=>none
 |.bin op x y=>match x.at tm,y.at tm with
  |some (.int k a),some (.int k' b)=>
   match op with
   |.shl=>match a,b with
    |.lit a,.lit (.ofNat n)=>bif ajN k n then some (.int k (.lit (aW k (Int.mul a (.ofNat (Nat.pow 2 n)))))) else none
    |_,_=>none
   |.shr=>match a,b with
    |.lit (.ofNat a),.lit (.ofNat n)=>bif ajN k n then some (.int k (.lit (.ofNat (Nat.div a (Nat.pow 2 n))))) else none
    |.lit (.negSucc a),.lit (.ofNat n)=>bif ajN k n then some (.int k (.lit (.negSucc (Nat.div a (Nat.pow 2 n))))) else none
    |_,_=>none
   |op=>bif beqKind k k' then
     (bif isCmp op then(match VK orc op a b with|some r=>some (.bool r)|none=>none)
     else(match arith op k a b with|some r=>some (.int k r)|none=>none))
    else none
  |some (.str n c),some (.str m d)=>opS op n c m d
  |_,_=>none
 |.eq neg p x y=>match x.at tm,y.at tm with
  |some a,some b=>match nw orc p a b with
   |some r=>some (.bool (bif neg then !r else r))
   |none=>none
  |_,_=>none
 |.un op x=>match op,x.at tm with
  |.not,some (.bool b)=>some (.bool (!b))
  |.neg,some (.int k a)=>match arith .sub k (.lit 0) a with
   |some r=>some (.int k r)
   |none=>none
  |_,_=>none
 |.cint k x=>match x.at tm with
  |some (.int _ (.lit n))=>some (.int k (.lit (aW k n)))
  |_=>none
 |.cstr x=>match x.at tm with
  |some (.str n c)=>some (.str n c)
  |_=>none
 |.cbytes x=>match x.at tm with
  |some .nils=>some (.str 0 0)
  |some (.slice b off len sz)=>bif Nat.beq sz 1 then(match aa b h with
   |some (.cells l _)=>GQ len (Eu off l) none (fun r=>match ofBytes r with
    |some (n,c)=>some (.str n c)
    |none=>none)
   |_=>none) else none
  |some (.sl l _ sz _)=>bif Nat.beq sz 1 then(match ofBytes l with
   |some (n,c)=>some (.str n c)
   |none=>none) else none
  |_=>none
 |.mkif t x=>match x.at tm with
  |some v=>some (.iface t v)
  |none=>none
 |.mkfn f first cap=>match atAll tm first,atAll tm cap with
  |some a,some c=>some (.fn f a c)
  |_,_=>none
 |.sliceS x lo hi=>match x.at tm with
  |some (.str n c)=>match sA tm 0 lo,sA tm n hi with
   |some l,some r=>bif Nat.ble l r&&Nat.ble r n then some (amD c l r) else none
   |_,_=>none
  |_=>none
 |.sliceL sz x lo hi=>match x.at tm with
  |some (.slice b off len T8)=>match sA tm 0 lo,sA tm len hi with
   |some l,some r=>bif Nat.ble l r&&Nat.ble r len&&Nat.beq sz T8 then some (.slice b (off+l*sz) (r-l) sz) else none
   |_,_=>none
  |some .nils=>match sA tm 0 lo,sA tm 0 hi with
   |some l,some r=>bif Nat.beq l 0&&Nat.beq r 0 then some .nils else none
   |_,_=>none
  |some (.sl cs len T8 fl)=>match sA tm 0 lo,sA tm len hi with
   |some l,some r=>bif Nat.ble l r&&Nat.ble r len&&Nat.beq sz T8 then
     GQ ((r-l)*sz) (Eu (l*sz) cs) none (fun cs=>some (.sl cs (r-l) sz (bif Nat.beq r len then fl else .any))) else none
   |_,_=>none
  |_=>none
 |.fieldA off x=>match x.at tm with
  |some (.ptr b o)=>some (.ptr b (o+off))
  |some (.cref l)=>some (.cref (Eu off l))
  |_=>none
 |.field agg off n x=>match x.at tm with
  |some (.agg l)=>Ek agg off n l
  |_=>none
 |.indexA len sz x i=>match x.at tm,i.at tm with
  |some (.ptr b o),some v=>match rm v with
   |some j=>bif Nat.blt j len then some (.ptr b (o+j*sz)) else none
   |none=>none
  |some (.cref l),some v=>match rm v with
   |some j=>bif Nat.blt j len then some (.cref (Eu (j*sz) l)) else none
   |none=>none
  |_,_=>none
 |.indexL sz x i=>match x.at tm,i.at tm with
  |some (.slice b off len T8),some v=>match rm v with
   |some j=>bif Nat.blt j len&&Nat.beq sz T8 then some (.ptr b (off+j*sz)) else none
   |none=>none
  |some (.sl l len T8 _),some v=>match rm v with
   |some j=>bif Nat.blt j len&&Nat.beq sz T8 then GQ sz (Eu (j*sz) l) none (fun r=>some (.cref r)) else none
   |none=>none
  |_,_=>none
 |.indexS x i=>match x.at tm,i.at tm with
  |some (.str n c),some v=>match rm v with
   |some j=>bif Nat.blt j n then some (.int .u8 (.lit (.ofNat (Nat.mod (Nat.shiftRight c (8*j)) 256)))) else none
   |none=>none
  |_,_=>none
 |.indexV len agg sz x i=>match x.at tm,i.at tm with
  |some (.agg l),some v=>match rm v with
   |some j=>bif Nat.blt j len then Ek agg (j*sz) sz l else none
   |none=>none
  |_,_=>none
 |.lookup sk zero ok m k=>match m.at tm,k.at tm with
  |some (.map b),some k=>match aa b h with
   |some (.map l)=>match findK orc sk k l with
    |some (some v)=>some (bif ok then .tuple [v,.bool true] else v)
    |some none=>some (bif ok then .tuple [zero,.bool false] else zero)
    |none=>none
   |_=>none
  |_,_=>none
 |.entryM x=>match x.at tm with
  |some (.ptr b 0)=>match aa b h with
   |some (.iter m n seen)=>match stamped m h,YN seen with
    |some (l,c),some s=>bif Nat.beq c n then aa5 s l else none
    |_,_=>none
   |_=>none
  |_=>none
 |.assert t zero ok x=>match x.at tm with
  |some (.iface t' v)=>bif ok then(bif Nat.beq t t' then some (.tuple [v,.bool true]) else some (.tuple [zero,.bool false]))
    else(bif Nat.beq t t' then some v else none)
  |_=>none
 |.extract x i=>match x.at tm with
  |some (.tuple l)=>nth i l
  |_=>none
 |.lenS x=>match x.at tm with
  |some (.str n _)=>some (.int .i64 (.lit (.ofNat n)))
  |_=>none
 |.lenL x=>match x.at tm with
  |some (.slice _ _ n _)=>some (.int .i64 (.lit (.ofNat n)))
  |some (.sl _ n _ _)=>some (.int .i64 (.lit (.ofNat n)))
  |some .nils=>some (.int .i64 (.lit (.ofNat 0)))
  |_=>none
 |.lenM x=>match x.at tm with
  |some (.map b)=>match aa b h with
   |some (.map l)=>some (.int .i64 (.lit (.ofNat (lenL l))))
   |some (.mapD l _)=>some (.int .i64 (.lit (.ofNat (lenL l))))
   |_=>none
  |_=>none
 |.mx isMax a b=>match a.at tm,b.at tm with
  |some (.int k x),some (.int k' y)=>bif beqKind k k' then(match VK orc (bif isMax then .gtr else .lss) y x with
   |some true=>some (.int k y)
   |some false=>some (.int k x)
   |none=>none) else none
  |_,_=>none
 |_=>none
noncomputable def Vz{R:Type}(g:AV→T ab→(AV→T ab→R)→R)(l:List AV):T ab→(List AV→T ab→R)→R:=
 List.rec (fun h c=>c [] h) (fun v _ ih h c=>g v h fun v h=>ih h fun r h=>c (v ::r) h) l
noncomputable def amF{R:Type}(ih:AV→T ab→(AV→T ab→R)→R)(v:AV)(h:T ab)(c:AV→T ab→R):R:=
 match v with
 |.slice b off len sz=>match aa b h with
  |some (.cells l .fix)=>GQ (len*sz) (Eu off l) (c v h) fun cs=>Gs b (some (.cells l .ro)) h fun h=>Vz ih cs h fun cs h=>c (.sl cs len sz .any) h
  |some (.cells l .ro)=>GQ (len*sz) (Eu off l) (c v h) fun cs=>Vz ih cs h fun cs h=>c (.sl cs len sz .any) h
  |some (.cells l .part)=>GQ (len*sz) (Eu off l) (c v h) fun cs=>Gs b none h fun h=>Vz ih cs h fun cs h=>c (.sl cs len sz .any) h
  |_=>c v h
 |.sl l len sz _=>c (.sl l len sz .any) h
 |.agg cs=>Vz ih cs h fun cs h=>c (.agg cs) h
 |v=>c v h
noncomputable def Uf{R:Type}(n:Nat):AV→T ab→(AV→T ab→R)→R:=
 Nat.rec (fun v h c=>c v h) (fun _ ih v h c=>amF ih v h c) n
noncomputable def appendTo(sz:Nat)(s:AV)(new:List AV)(m:Nat)(h:T ab)(nx:Key):OR:=
 match s with
 |.nils=>bif Nat.beq m 0 then .val .nils h nx else bif Nat.ble m 1048576 then Gs nx (some (.cells new .part)) h fun h=>.val (.slice nx 0 m sz) h nx.succ else .bad 25
 |.sl l len T8 fl=>bif Nat.beq m 0 then .val (.sl l len T8 fl) h nx else bif Nat.beq sz T8&&Nat.ble (len+m) 1048576&&new.all AV.aD then
  (match fl with
  |.any=>.bad 11
  |.tok b=>match aa b h with
   |some .tok=>ab5 l new fun r=>Gs b none h fun h=>Gs nx (some .tok) h fun h=>.val (.sl r (len+m) sz (.tok nx)) h nx.succ
   |_=>.bad 15) else .bad 11
 |.slice b off len T8=>bif Nat.beq sz T8&&Nat.ble (len+m) 1048576&&new.all AV.aD then
  (match aa b h with
  |some (.cells l .fix)=>
   bif Nat.ble (off+(len+m)*sz) (lenL l) then
    adE new (off+len*sz) l (.bad 12) (fun l=>Gs b (some (.cells l .fix)) h fun h=>.val (.slice b off (len+m) sz) h nx)
   else GQ (len*sz) (Eu off l) (.bad 14) (fun xE=>Vz (Uf 9999) xE h fun xE h=>ab5 xE new (fun r=>Gs nx (some (.cells r .part)) h fun h=>.val (.slice nx 0 (len+m) sz) h nx.succ))
  |some (.cells l .ro)=>
   bif Nat.ble (off+(len+m)*sz) (lenL l) then .bad 13
   else GQ (len*sz) (Eu off l) (.bad 14) (fun xE=>Vz (Uf 9999) xE h fun xE h=>ab5 xE new (fun r=>Gs nx (some (.cells r .part)) h fun h=>.val (.slice nx 0 (len+m) sz) h nx.succ))
  |some (.cells l .part)=>
   bif Nat.beq m 0 then .val (.slice b off len T8) h nx
   else bif Nat.beq off 0&&Nat.beq (len*sz) (lenL l) then
    ab5 l new fun r=>Gs b none h fun h=>Gs nx (some .tok) h fun h=>.val (.sl r (len+m) sz (.tok nx)) h nx.succ
   else .bad 26
  |_=>.bad 15) else .bad 11
 |_=>.bad 16
def okV(h:T ab)(nx:Key):Option AV→OR
 |some v=>.val v h nx
 |none=>.bad 1
noncomputable def aOp(orc:pF)(op:T7)(tm:T AV)(h:T ab)(nx:Key):OR:=
 match op with
 |.new _|.box _|.bslice _ _ _ _|.mkmap|.mkslice _ _ _ _=>match allocOp op tm with
  |some (v,b)=>newB v b h nx
  |none=>.bad 2
 |.store n a v=>match a.at tm,v.at tm with
  |some (.ptr b off),some v=>bif Nat.beq (lenL v.cells) n&&v.cells.all AV.aD then
    (match aa b h with
    |some (.cells _ .ro)=>.bad 4
    |some (.cells l g)=>adE v.cells off l (.bad 4) (fun l=>Gs b (some (.cells l g)) h fun h=>.val (.tuple []) h nx)
    |_=>.bad 5)
   else .bad 6
  |_,_=>.bad 3
 |.mapupd sk m k v=>match m.at tm,k.at tm,v.at tm with
  |some (.map b),some k,some v=>match aa b h with
   |some (.map l)=>match setK orc sk k v l with
    |some l=>Gs b (some (.map l)) h fun h=>.val (.tuple []) h nx
    |none=>.bad 7
   |_=>.bad 8
  |_,_,_=>.bad 9
 |.mapupdP p m k v=>match m.at tm,k.at tm,v.at tm with
  |some (.map b),some k,some v=>match aa b h with
   |some (.map l)=>bif Sd p k then(match Wv orc p k v l with
    |some l=>Gs b (some (.map l)) h fun h=>.val (.tuple []) h nx
    |none=>.bad 57) else .bad 56
   |_=>.bad 58
  |_,_,_=>.bad 59
 |.delP p m k=>match m.at tm,k.at tm with
  |some (.map b),some k=>match stamped b h with
   |some (l,c)=>bif Sd p k then(match adF orc p k l with
    |some l=>Gs b (some (.mapD l c)) h fun h=>.val (.tuple []) h nx
    |none=>.bad 60) else .bad 56
   |none=>.bad 61
  |_,_=>.bad 62
 |.rangeM x=>match x.at tm with
  |some (.map m)=>match stamped m h with
   |some (_,n)=>newB (fun b=>.ptr b 0) (.iter m n []) h nx
   |none=>.bad 63
  |_=>.bad 64
 |.nextM x=>match x.at tm with
  |some (.ptr b 0)=>match aa b h with
   |some (.iter m n seen)=>match stamped m h with
    |some (l,c)=>bif Nat.beq c n&&OM n l then(match GI seen l with
     | []=>.alt [(.tuple [.bool false],h)]
     |x ::r=>.alt (Wr b m n seen h (x ::r))) else .bad 65
    |none=>.bad 66
   |_=>.bad 67
  |_=>.bad 68
 |.strb x=>match x.at tm with
  |some (.str n c)=>.val (.sl (bytesOf n c) n 1 .any) h nx
  |_=>.bad 69
 |.append sz s x=>match s.at tm,x.at tm with
  |some s,some .nils=>appendTo sz s [] 0 h nx
  |some s,some (.slice b off len T8)=>bif Nat.beq sz T8 then(match aa b h with
   |some (.cells l _)=>GQ (len*sz) (Eu off l) (.bad 17) (fun new=>Vz (Uf 9999) new h fun new h=>appendTo sz s new len h nx)
   |_=>.bad 18) else .bad 19
  |some s,some (.sl l len T8 _)=>bif Nat.beq sz T8 then appendTo sz s l len h nx else .bad 19
  |some s,some (.str n c)=>bif Nat.beq sz 1 then appendTo sz s (bytesOf n c) n h nx else .bad 20
  |_,_=>.bad 10
 |.callF f args=>match atAll tm args with
  |some l=>.call f l
  |none=>.bad 21
 |.callV v args=>match v.at tm,atAll tm args with
  |some (.fn f first cap),some l=>.call f (first++l++cap)
  |some (.yld k),some l=>.yld k l
  |_,_=>.bad 22
 |.dfr v args=>match v.at tm,atAll tm args with
  |some (.fn f first cap),some l=>.dfr f (first++l++cap)
  |_,_=>.bad 23
 |.panic x=>match x.at tm with
  |some (.iface t v)=>.pan (.iface t v)
  |_=>.bad 24
 |.recover=>.recover
 |op=>okV h nx (lightOp orc op tm h)
noncomputable def dm(g:Option (Key×Bool))(tm:T AV):Option Bool:=
 match g with
 |none=>some true
 |some (k,want)=>match aa k tm with
  |some (.bool b)=>some (b==want)
  |some (.tuple [])=>some false
  |_=>none
noncomputable def Ew{R:Type}(d:Option Key)(v:Option AV)(tm:T AV)(c:T AV→R):R:=
 match d with
 |none=>c tm
 |some k=>Gs k v tm c
inductive SR where
 |next (m:AM)
 |alt (l:List AM)
 |done (f:Nat) (v:AV) (h:T ab) (nx:Key)
 |pan (v:AV) (h:T ab) (nx:Key)
 |bad (why:Nat) (m:AM)
structure cU where
 orc:pF
 fns:T eG
 /- calls aH9 outcome is known by other aIa -/
 sum:Nat→List AV→T ab→Key→Option (AV×T ab×Key)
 /- atM avr are handed avs arguments, and hand back avs results, as aLT are -/
 raw:Nat→Bool
 IS:Nat→Bool
inductive RR where
 |fin (tm:T AV) (h:T ab) (nx:Key)
 |ev (r:OR) (rest:List J) (tm:T AV) (h:T ab) (nx:Key)
noncomputable def pW(orc:pF)(l:List J):T AV→T ab→Key→RR:=
 List.rec (fun tm h nx=>.fin tm h nx)
  (fun o rest ih tm h nx=>match dm o.guard tm with
   |none=>.ev (.bad 30) (o ::rest) tm h nx
   |some false=>Ew o.dst (some (.tuple [])) tm fun tm=>ih tm h nx
   |some true=>match aOp orc o.op tm h nx with
    |.val v h nx=>Ew o.dst (some v) tm fun tm=>ih tm h nx
    |r=>.ev r (o ::rest) tm h nx) l
def memN(i:Nat):List Nat→Bool
 | []=>false
 |j ::l=>bif Nat.beq i j then true else memN i l
noncomputable def Ou{R:Type}(l:List Nat)(p:List (Nat×Key×ab)):T ab→(List (Nat×Key×ab)→T ab→R)→R:=
 List.rec (fun h c=>c [] h)
  (fun x _ ih h c=>bif memN x.1 l then Gs x.2.1 (some x.2.2) h fun h=>ih h c else ih h fun p h=>c (x ::p) h) p
noncomputable def OW{R:Type}(p:List (Nat×Key×ab)):T ab→(T ab→R)→R:=
 List.rec (fun h c=>c h) (fun x _ ih h c=>Gs x.2.1 (some x.2.2) h fun h=>ih h c) p
def NR(i:Nat):List (Nat×List Nat)→List Nat
 | []=>[]
 |(j,l) ::r=>bif Nat.beq i j then l else NR i r
noncomputable def Ey(l:List Nat)(an:List (Nat×Key×ab))(h:T ab):T ab:=match l with
 | []=>h
 |l=>Ou l an h fun _ h=>h
noncomputable def recheck(orc:pF)(mN:List (Nat×List Nat))(an:List (Nat×Key×ab))(tm:T AV)(h:T ab):List (Nat×J)→Bool
 | []=>true
 |(i,o) ::l=>match dm o.guard tm with
  |some false=>match o.dst with
   |none=>false
   |some d=>match aa d tm with
    |some (.tuple [])=>recheck orc mN an tm h l
    |_=>false
  |some true=>match o.dst with
   |none=>false
   |some d=>match aa d tm,lightOp orc o.op tm (Ey (NR i mN) an h) with
    |some v,some u=>bif AV.beq v u then recheck orc mN an tm h l else false
    |_,_=>false
  |none=>false
inductive RS where
 |fin (tm:T AV) (h:T ab) (nx:Key)
 |ev (r:OR) (rest:List bx) (an:List (Nat×Key×ab)) (tm:T AV) (h:T ab) (nx:Key)
noncomputable def mh(orc:pF)(mN:List (Nat×List Nat))(l:List bx):List (Nat×Key×ab)→T AV→T ab→Key→RS:=
 List.rec (fun an tm h nx=>OW an h fun h=>.fin tm h nx)
  (fun x rest ih an tm h nx=>match x with
  |.L i o=>match dm o.guard tm with
   |none=>.ev (.bad 31) (x ::rest) an tm h nx
   |some false=>Ew o.dst (some (.tuple [])) tm fun tm=>ih an tm h nx
   |some true=>match lightOp orc o.op tm (Ey (NR i mN) an h) with
    |some v=>Ew o.dst (some v) tm fun tm=>ih an tm h nx
    |none=>.ev (.bad 32) (x ::rest) an tm h nx
  |.A i o=>match dm o.guard tm with
   |none=>.ev (.bad 33) (x ::rest) an tm h nx
   |some false=>Ew o.dst (some (.tuple [])) tm fun tm=>ih an tm h nx
   |some true=>match allocOp o.op tm with
    |some (v,b)=>Ew o.dst (some (v nx)) tm fun tm=>ih ((i,nx,b) ::an) tm h nx.succ
    |none=>.ev (.bad 34) (x ::rest) an tm h nx
  |.H _ o l=>Ou l an h fun an h=>match dm o.guard tm with
   |none=>.ev (.bad 35) (x ::rest) an tm h nx
   |some false=>Ew o.dst (some (.tuple [])) tm fun tm=>ih an tm h nx
   |some true=>match aOp orc o.op tm h nx with
    |.val v h nx=>Ew o.dst (some v) tm fun tm=>ih an tm h nx
    |r=>.ev r (x ::rest) an tm h nx
  |.R os=>bif recheck orc mN an tm h os then ih an tm h nx else .ev (.bad 36) (x ::rest) an tm h nx) l
noncomputable def Tf{R:Type}(l:List Key):T AV→(T AV→R)→R:=
 List.rec (fun tm c=>c tm) (fun k _ ih tm c=>Gs k none tm fun tm=>ih tm c) l
noncomputable def ab7{R:Type}(l:List AV):Key→T AV→(T AV→R)→R:=
 List.rec (fun _ tm c=>c tm) (fun v _ ih k tm c=>Gs k (some v) tm fun tm=>ih k.succ tm c) l
noncomputable def afe{R:Type}:List Key→List AV→T AV→R→(T AV→R)→R
 | [],[],tm,_,c=>c tm
 |k ::l,v ::m,tm,bad,c=>Gs k (some v) tm fun tm=>afe l m tm bad c
 |_,_,_,bad,_=>bad
def Ai(id:Nat):List fE→Option (List fE)
 | []=>none
 |.inBlock id' ::k=>bif Nat.beq id' id then some k else Ai id k
 |_ ::k=>Ai id k
noncomputable def dN(v:AV)(fr:xC):Option xC:=
 match fr.todo with
 |.ops (o ::rest) ::k=>Ew o.dst (some v) fr.tm fun tm=>some {fr with tm,todo:=.ops rest ::k}
 |.staged (.H _ o _ ::rest) nG an ::k=>Ew o.dst (some v) fr.tm fun tm=>some {fr with tm,todo:=.staged rest nG an ::k}
 |.inRF l ::k=>some {fr with todo:=.endRF l ::k}
 |_=>none
noncomputable def resultsA(h:T ab)(tm:T AV):List RV→Option (List AV)
 | []=>some []
 |.tmp k ::l=>match aa k tm,resultsA h tm l with
  |some v,some r=>some (v ::r)
  |_,_=>none
 |.cell k agg n ::l=>match aa k tm,resultsA h tm l with
  |some (.ptr b off),some r=>match loadB h b agg off n with
   |some v=>some (v ::r)
   |none=>none
  |_,_=>none
def vU:List AV→AV
 | [v]=>v
 |l=>.tuple l
noncomputable def Td(C:cU)(f:Nat)(args:List AV)(dfd:Bool)(bad:SR)(c:xC→SR):SR:=
 match (bif Nat.beq (Key.lZ 12 f).toNat f then aa (Key.lZ 12 f) C.fns else none) with
 |some p=>ab7 args .z .nil fun tm=>c {fn:=f,tm,todo:=[.code p.body],dfs:=[],mode:=.run,dfd,Ol:=none,res:=p.res}
 |none=>bad
noncomputable def ajg{R:Type}(raw:Bool)(l:List AV)(h:T ab)(c:List AV→T ab→R):R:=bif raw then c l h else Vz (Uf 9999) l h c
noncomputable def ae2(fr:xC)(cs:List xC)(nx:Key):List (AV×T ab)→List AM
 | []=>[]
 |(v,h) ::l=>(match dN v fr with
  |some fr=>⟨fr,cs,h,nx⟩
  |none=>⟨fr,cs,h,nx⟩) ::ae2 fr cs nx l
noncomputable def pV(C:cU)(r:OR)(fr:xC)(panicked:xC)(cs:List xC)(h:T ab)(nx:Key):SR:=
 match r with
 |.call f args=>ajg (C.raw f) args h fun args h=>match C.sum f args h nx with
  |some (v,h,nx)=>match dN v fr with
   |some fr=>.next ⟨fr,cs,h,nx⟩
   |none=>.bad 39 ⟨fr,cs,h,nx⟩
  |none=>Td C f args false (.bad 40 ⟨fr,cs,h,nx⟩) fun ur=>.next ⟨ur,fr ::cs,h,nx⟩
 |.yld l args=>match aa l h with
  |some (.loop _ _ fn tm res params assign body _)=>
   afe params args tm (.bad 41 ⟨fr,cs,h,nx⟩) fun tm=>.next ⟨{fn,tm,todo:=[.code assign,.beginRound,.code body],dfs:=[],mode:=.run,dfd:=false,Ol:=some l,res},fr ::cs,h,nx⟩
  |_=>.bad 42 ⟨fr,cs,h,nx⟩
 |.pan v=>.next ⟨{panicked with mode:=.pan v false},cs,h,nx⟩
 |.dfr f args=>match fr.Ol with
  |none=>match dN (.tuple []) fr with
   |some fr=>.next ⟨{fr with dfs:=.fn f args ::fr.dfs},cs,h,nx⟩
   |none=>.bad 43 ⟨fr,cs,h,nx⟩
  |some _=>.bad 44 ⟨fr,cs,h,nx⟩
 |.recover=>match fr.Ol,fr.dfd,cs with
  |none,true,c ::IN=>match c.mode with
   |.pan v false=>match dN v fr with
    |some fr=>.next ⟨fr,{c with mode:=.pan v true} ::IN,h,nx⟩
    |none=>.bad 45 ⟨fr,cs,h,nx⟩
   |.ret=>match dN .nili fr with
    |some fr=>.next ⟨fr,cs,h,nx⟩
    |none=>.bad 46 ⟨fr,cs,h,nx⟩
   |_=>.bad 47 ⟨fr,cs,h,nx⟩
  |_,_,_=>.bad 48 ⟨fr,cs,h,nx⟩
 |.alt l=>match dN .nili fr with
  |none=>.bad 56 ⟨fr,cs,h,nx⟩
  |some _=>.alt (ae2 fr cs nx l)
 |.val _ _ _=>.bad 49 ⟨fr,cs,h,nx⟩
 |.bad w=>.bad w ⟨fr,cs,h,nx⟩
noncomputable def XX(v:AV)(fr:xC)(cs:List xC)(h:T ab)(nx:Key):SR:=
 match cs with
 | []=>bif fr.dfd then .bad 55 ⟨fr,[],h,nx⟩ else .done fr.fn v h nx
 |c ::cs=>bif fr.dfd then
   (match c.mode with
   |.pan _ true=>.next ⟨{c with mode:=.ret},cs,h,nx⟩
   |.run=>.bad 50 ⟨c,cs,h,nx⟩
   |_=>.next ⟨c,cs,h,nx⟩)
  else match dN v c with
   |some c=>.next ⟨c,cs,h,nx⟩
   |none=>.bad 51 ⟨c,cs,h,nx⟩
noncomputable def Tz(jump:Option U)(fr:xC)(cs:List xC)(h:T ab)(nx:Key):SR:=
 match fr.Ol with
 |none=>match jump with
  |none=>.next ⟨{fr with mode:=.ret},cs,h,nx⟩
  |some .ret=>.next ⟨{fr with mode:=.ret},cs,h,nx⟩
  |_=>.bad 52 ⟨fr,cs,h,nx⟩
 |some l=>match cs with
  | []=>.bad 54 ⟨fr,cs,h,nx⟩
  |c ::cs=>match aa l h with
   |some (.loop _ _ fn tm res params assign body dfs)=>
    Gs l (some (.loop (match jump with|none=>.ready|some _=>.done) jump fn tm res params assign body dfs)) h fun h=>
     match dN (.bool (match jump with|none=>true|some _=>false)) c with
     |some c=>.next ⟨c,cs,h,nx⟩
     |none=>.bad 51 ⟨c,cs,h,nx⟩
   |_=>.bad 53 ⟨fr,c ::cs,h,nx⟩
noncomputable def dX(C:cU)(fr:xC)(cs:List xC)(h:T ab)(nx:Key):SR:=
 match fr.todo with
 | []=>Tz none fr cs h nx
 |x ::k=>match x with
  |.code c=>match c with
   |.skip=>.next ⟨{fr with todo:=k},cs,h,nx⟩
   |.ops l=>.next ⟨{fr with todo:=.ops l ::k},cs,h,nx⟩
   |.staged l d=>.next ⟨{fr with todo:=.staged l d [] ::k},cs,h,nx⟩
   |.seq a b=>.next ⟨{fr with todo:=.code a ::.code b ::k},cs,h,nx⟩
   |.cond x a b=>match x.at fr.tm with
    |some (.bool true)=>.next ⟨{fr with todo:=.code a ::k},cs,h,nx⟩
    |some (.bool false)=>.next ⟨{fr with todo:=.code b ::k},cs,h,nx⟩
    |_=>.bad 60 ⟨fr,cs,h,nx⟩
   |.block id c=>.next ⟨{fr with todo:=.code c ::.inBlock id ::k},cs,h,nx⟩
   |.loop c=>.next ⟨{fr with todo:=.code c ::.inLoop c ::k},cs,h,nx⟩
   |.exit id=>match Ai id k with
    |some k=>.next ⟨{fr with todo:=k},cs,h,nx⟩
    |none=>Tz (some (.exit id)) fr cs h nx
   |.ret=>Tz (some .ret) fr cs h nx
   |.rangeF f params assign body=>match fr.Ol,f.at fr.tm with
    |none,some (.fn g first cap)=>
     Gs nx (some (.dfs false)) h fun h=>
     Gs nx.succ (some (.loop .ready none fr.fn fr.tm fr.res params assign body nx)) h fun h=>
     Td C g (first ++ .yld nx.succ ::cap) false (.bad 61 ⟨fr,cs,h,nx⟩) fun ur=>
      .next ⟨ur,{fr with todo:=.inRF nx.succ ::k,dfs:=.coll nx ::fr.dfs} ::cs,h,nx.succ.succ⟩
    |_,_=>.bad 62 ⟨fr,cs,h,nx⟩
  |.inBlock _=>.next ⟨{fr with todo:=k},cs,h,nx⟩
  |.inLoop c=>.next ⟨{fr with todo:=.code c ::.inLoop c ::k},cs,h,nx⟩
  |.ops l=>match pW C.orc l fr.tm h nx with
   |.fin tm h nx=>.next ⟨{fr with tm,todo:=k},cs,h,nx⟩
   |.ev r rest tm h nx=>pV C r {fr with tm,todo:=.ops rest ::k} {fr with tm,todo:=[]} cs h nx
  |.staged l d an=>match mh C.orc d.mN l an fr.tm h nx with
   |.fin tm h nx=>.next ⟨{fr with tm,todo:=k},cs,h,nx⟩
   |.ev r rest an tm h nx=>Tf d.ds tm fun tm'=>pV C r {fr with tm,todo:=.staged rest d an ::k} {fr with tm:=tm',todo:=[]} cs h nx
  |.inRF _=>.bad 63 ⟨fr,cs,h,nx⟩
  |.endRF l=>match aa l h with
   |some (.loop st pending fn tm res params assign body dfs)=>match st with
    |.busy=>.bad 64 ⟨fr,cs,h,nx⟩
    |_=>Gs l (some (.loop .exhausted pending fn tm res params assign body dfs)) h fun h=>
     .next ⟨{fr with todo:=match pending with|none=>k|some c=>.code c ::k},cs,h,nx⟩
   |_=>.bad 65 ⟨fr,cs,h,nx⟩
  |.beginRound=>match fr.Ol with
   |none=>.bad 66 ⟨fr,cs,h,nx⟩
   |some l=>match aa l h with
    |some (.loop .ready pending fn tm res params assign body dfs)=>
     Gs l (some (.loop .busy pending fn tm res params assign body dfs)) h fun h=>.next ⟨{fr with todo:=k},cs,h,nx⟩
    |_=>.bad 67 ⟨fr,cs,h,nx⟩
noncomputable def Rp(C:cU)(fr:xC)(cs:List xC)(h:T ab)(nx:Key):SR:=
 match fr.dfs with
 |.coll b ::ds=>match aa b h with
  |some (.dfs false)=>Gs b (some (.dfs true)) h fun h=>.next ⟨{fr with dfs:=ds},cs,h,nx⟩
  |_=>.bad 70 ⟨fr,cs,h,nx⟩
 |.fn f args ::ds=>Td C f args true (.bad 71 ⟨fr,cs,h,nx⟩) fun ur=>.next ⟨ur,{fr with dfs:=ds} ::cs,h,nx⟩
 | []=>match fr.mode with
  |.run=>.bad 72 ⟨fr,cs,h,nx⟩
  |.ret=>match resultsA h fr.tm fr.res with
   |some l=>ajg (C.IS fr.fn) l h fun l h=>XX (vU l) fr cs h nx
   |none=>.bad 73 ⟨fr,cs,h,nx⟩
  |.pan v false=>match cs with
   | []=>.pan v h nx
   |c ::cs=>match c.mode with
    |.run=>.next ⟨{c with mode:=.pan v false,todo:=[],tm:=(match c.todo with|.staged _ d _ ::_=>Tf d.ds c.tm (fun t=>t)|_=>c.tm)},cs,h,nx⟩
    |_=>.bad 74 ⟨fr,c ::cs,h,nx⟩
  |.pan _ true=>.bad 75 ⟨fr,cs,h,nx⟩
noncomputable def rl(C:cU)(m:AM):SR:=
 match m.fr.mode with
 |.run=>dX C m.fr m.cs m.h m.nx
 |_=>Rp C m.fr m.cs m.h m.nx
noncomputable def Tt(C:cU)(n:Nat):AM→SR:=
 Nat.rec (fun m=>.next m) (fun _ ih m=>match rl C m with
  |.next m=>ih m
  |r=>r) n
end Go.Sx
/-
 SX: the model's code made ready for the abstract machine of SxCore. No condition.
-/
namespace Go.Sx
def RW(nt i:Nat):Option Key:=
 bif Nat.blt i nt&&Nat.beq (Key.lZ 12 i).toNat i then some (Key.lZ 12 i) else none
def enc:List UInt8→Nat
 | []=>0
 |b ::l=>b.toNat+256*enc l
mutual
def qB:Nat→Value→Option AV
 |0,_=>none
 |n+1,v=>match v with
  |.bool b=>some (.bool b)
  |.int k i=>some (.int k (.lit i))
  |.string s=>some (.str s.data.toList.length (enc s.data.toList))
  |.pointer none=>some .nilp
  |.slice none 0 0=>some .nils
  |.map none=>some .nilm
  |.nilFunc=>some .nilf
  |.nilIface=>some .nili
  |.iface t v=>match qB n v with
   |some a=>some (.iface t a)
   |none=>none
  |.agg cs=>match S7 n cs.toList with
   |some l=>some (.agg l)
   |none=>none
  |.tuple cs=>match S7 n cs.toList with
   |some l=>some (.tuple l)
   |none=>none
  |_=>none
def S7:Nat→List Value→Option (List AV)
 |_,[]=>some []
 |0,_ ::_=>none
 |n+1,v ::l=>match qB n v,S7 n l with
  |some a,some r=>some (a ::r)
  |_,_=>none
end
def Bt:Nat:=400
def pX(P:Program)(nt:Nat):Operand→Option PX
 |.tmp t=>match RW nt t with
  |some k=>some (.t k)
  |none=>none
 |.const v=>match qB Bt v with
  |some a=>some (.v a)
  |none=>none
 |.global g=>match RW P.globals.size g with
  |some k=>some (.v (.ptr k 0))
  |none=>none
 |.func f=>some (.v (.fn f [] []))
def Yi(P:Program)(nt:Nat):List Operand→Option (List PX)
 | []=>some []
 |x ::l=>match pX P nt x,Yi P nt l with
  |some a,some r=>some (a ::r)
  |_,_=>none
def ai9(P:Program)(nt:Nat):Option Operand→Option (Option PX)
 |none=>some none
 |some x=>match pX P nt x with
  |some a=>some (some a)
  |none=>none
structure TI where
 size:Nat
 agg:Bool
 zero:AV
def tyI(P:Program)(t:TypeId):Option TI:=
 match P.info? t,P.underlying t with
 |some i,some d=>match i.zero with
  |some z=>match qB Bt z with
   |some a=>some ⟨i.size,(match d with|.struct _=>true|.array _ _=>true|_=>false),a⟩
   |none=>none
  |none=>none
 |_,_=>none
def S8(P:Program)(nt:Nat)(place:Nat→Option (Nat×Nat)):List (Nat×Operand)→Option (List (Nat×Nat×PX))
 | []=>some []
 |(i,x) ::l=>match place i,pX P nt x,S8 P nt place l with
  |some (off,size),some a,some r=>some ((off,size,a) ::r)
  |_,_,_=>none
def AN(P:Program):List Field→Option (List (Nat×Nat))
 | []=>some []
 |f ::l=>match P.info? f.type,AN P l with
  |some i,some r=>some ((f.offset,i.size) ::r)
  |_,_=>none
def Oq(l:List (Nat×Bu))(sz:Nat):Nat→Nat→List (Nat×Bu)
 |0,_=>[]
 |n+1,off=>l.map (fun x=>(off+x.1,x.2))++Oq l sz n (off+sz)
mutual
def XJ(P:Program):Nat→TypeId→Option Bu
 |0,_=>none
 |n+1,t=>match P.underlying t with
  |some .bool=>some .bool
  |some (.int _)=>some .int
  |some .string=>some .str
  |some (.pointer e)=>match P.info? e with
   |some i=>bif Nat.beq i.size 0 then none else some .ptr
   |none=>none
  |some (.interface _)=>some .iface
  |some (.slice _)=>some .slice
  |some (.func _ _ _)=>some .func
  |some (.map _ _)=>some .map
  |some (.struct fs)=>bif P.stoodInHeld t then none else match eqFields P n fs.toList with
   |some l=>some (.parts l)
   |none=>none
  |some (.array len e)=>match P.underlying e,XJ P n e,P.info? e with
   |some (.struct _),some (.parts l),some i=>bif l.all (fun x=>Nat.blt x.1 i.size) then some (.parts (Oq l i.size len 0)) else none
   |_,_,_=>none
  |_=>none
def eqFields(P:Program):Nat→List Field→Option (List (Nat×Bu))
 |_,[]=>some []
 |0,_ ::_=>none
 | n + 1, f :: l => bif f.name == "_" then none else match XJ P n f.type, eqFields P n l with
  |some .bool,some r=>some ((f.offset,.bool) ::r)
  |some .int,some r=>some ((f.offset,.int) ::r)
  |some .str,some r=>some ((f.offset,.str) ::r)
  |_,_=>none
end
def abF:Bu→Bool
 |.parts _=>true
 |.int=>true
 |.str=>true
 |_=>false
def oO:Operand→Bool
 |.const _=>true
 |_=>false
def lW(P:Program)(nt:Nat)(o:Oper):Option T7:=
 match o.op with
 |.move x|.assign x=>(pX P nt x).map .mov
 |.pick c a b=>match pX P nt c,pX P nt a,pX P nt b with
  |some c,some a,some b=>some (.pick c a b)
  |_,_,_=>none
 |.alloc t=>match tyI P t with
  |some i=>some (.new i.zero.cells)
  |none=>none
 |.box _ x=>(pX P nt x).map .box
 |.build t parts=>match tyI P t,P.underlying t with
  |some i,some (.struct fs)=>match AN P fs.toList with
   |some pl=>match S8 P nt (pl[·]?) parts.toList with
    |some ps=>some (.build i.zero.cells ps)
    |none=>none
   |none=>none
  |some i,some (.array _ e)=>match P.info? e with
   |some ie=>match S8 P nt (fun j=>some (j*ie.size,ie.size)) parts.toList with
    |some ps=>some (.build i.zero.cells ps)
    |none=>none
   |none=>none
  |_,_=>none
 |.buildSlice t len parts=>match P.underlying t with
  |some (.slice e)=>match tyI P e with
   |some ie=>bif Nat.ble (len*ie.size) 16777216&&Nat.blt 0 ie.size&&Nat.beq ie.zero.cells.length ie.size then(match S8 P nt (fun j=>some (j*ie.size,ie.size)) parts.toList with
    |some ps=>some (.bslice ie.size len ie.zero.cells ps)
    |none=>none) else none
   |none=>none
  |_=>none
 |.load t a=>match tyI P t,pX P nt a with
  |some i,some a=>some (.load i.agg i.size a)
  |_,_=>none
 |.store t a v=>match P.info? t,pX P nt a,pX P nt v with
  |some i,some a,some v=>some (.store i.size a v)
  |_,_,_=>none
 |.nilCheck x=>(pX P nt x).map .nilc
 |.binOp op t x y _=>match pX P nt x,pX P nt y with
  |some a,some b=>match P.underlying t with
   |some (.int _)=>some (.bin op a b)
   |some .string=>some (.bin op a b)
   |some (.interface _)=>bif oO x||oO y then(match op with
    |.eql=>some (.eq false .iface a b)
    |.neq=>some (.eq true .iface a b)
    |_=>none) else none
   |some (.struct _)=>bif P.eqGuardType P.depth t then none else(match op,XJ P 100 t with
    |.eql,some p=>some (.eq false p a b)
    |.neq,some p=>some (.eq true p a b)
    |_,_=>none)
   |some (.array _ _)=>bif P.eqGuardType P.depth t then none else(match op,XJ P 100 t with
    |.eql,some p=>some (.eq false p a b)
    |.neq,some p=>some (.eq true p a b)
    |_,_=>none)
   |some _=>match op,XJ P 100 t with
    |.eql,some p=>bif abF p then none else some (.eq false p a b)
    |.neq,some p=>bif abF p then none else some (.eq true p a b)
    |_,_=>none
   |none=>none
  |_,_=>none
 |.unOp op _ x=>(pX P nt x).map (.un op)
 |.convert src dst x=>match pX P nt x,P.underlying src,P.underlying dst with
  |some a,some (.int _),some (.int k)=>some (.cint k a)
  |some a,some .string,some .string=>some (.cstr a)
  |some a,some (.slice e),some .string=>match P.underlying e with
   |some (.int .u8)=>some (.cbytes a)
   |_=>none
  |some a,some .string,some (.slice e)=>match P.underlying e with
   |some (.int .u8)=>some (.strb a)
   |_=>none
  |_,_,_=>none
 |.makeInterface t x=>match P.underlying t with
  |some (.interface _)=>none
  |none=>none
  |some _=>(pX P nt x).map (.mkif t)
 |.makeFunc (.func f) first cap=>match Yi P nt first.toList,Yi P nt cap.toList with
  |some a,some c=>some (.mkfn f a c)
  |_,_=>none
 |.makeMap _ none=>some .mkmap
 |.makeSlice t l c=>match P.underlying t with
  |some (.slice e)=>match tyI P e,pX P nt l,pX P nt c with
   |some ie,some l,some c=>match P.info? e with
    |some i=>bif Nat.blt 0 ie.size&&Nat.beq ie.zero.cells.length ie.size&&Nat.ble i.bytes 65536 then some (.mkslice ie.size ie.zero.cells l c) else none
    |none=>none
   |_,_,_=>none
  |_=>none
 |.slice t x lo hi none=>match pX P nt x,ai9 P nt lo,ai9 P nt hi with
  |some a,some lo,some hi=>match P.underlying t with
   |some .string=>some (.sliceS a lo hi)
   |some (.slice e)=>match P.info? e with
    |some i=>bif Nat.blt 0 i.size then some (.sliceL i.size a lo hi) else none
    |none=>none
   |_=>none
  |_,_,_=>none
 |.fieldAddr s x f=>match P.underlying s with
  |some (.struct fs)=>match fs[f]? with
   |some fd=>match P.info? fd.type,pX P nt x with
    |some i,some a=>bif Nat.beq i.size 0 then none else some (.fieldA fd.offset a)
    |_,_=>none
   |none=>none
  |_=>none
 |.field t x f=>match P.underlying t with
  |some (.struct fs)=>match fs[f]? with
   |some fd=>match tyI P fd.type,pX P nt x with
    |some i,some a=>some (.field i.agg fd.offset i.size a)
    |_,_=>none
   |none=>none
  |_=>none
 |.indexAddr t x i=>match P.underlying t,pX P nt x,pX P nt i with
  |some (.array len e),some a,some b=>match P.info? e with
   |some ie=>bif Nat.blt 0 ie.size then some (.indexA len ie.size a b) else none
   |none=>none
  |some (.slice e),some a,some b=>match P.info? e with
   |some ie=>bif Nat.blt 0 ie.size then some (.indexL ie.size a b) else none
   |none=>none
  |_,_,_=>none
 |.index t x i=>match P.underlying t,pX P nt x,pX P nt i with
  |some .string,some a,some b=>some (.indexS a b)
  |some (.array len e),some a,some b=>match tyI P e with
   |some ie=>some (.indexV len ie.agg ie.size a b)
   |none=>none
  |_,_,_=>none
 |.lookup t m k ok=>match P.underlying t with
  |some (.map kt e)=>match P.underlying kt,tyI P e,pX P nt m,pX P nt k with
   |some (.int _),some i,some a,some b=>some (.lookup false i.zero ok a b)
   |some .string,some i,some a,some b=>some (.lookup true i.zero ok a b)
   |_,_,_,_=>none
  |_=>none
 |.mapUpdate t m k v|.insert t m k v=>match P.underlying t with
  |some (.map kt _)=>match P.underlying kt,pX P nt m,pX P nt k,pX P nt v with
   |some (.int _),some a,some b,some c=>some (.mapupd false a b c)
   |some .string,some a,some b,some c=>some (.mapupd true a b c)
   |some (.struct _),some a,some b,some c=>match XJ P 100 kt with
    |some p=>some (.mapupdP p a b c)
    |none=>none
   |some (.array _ _),some a,some b,some c=>match XJ P 100 kt with
    |some p=>some (.mapupdP p a b c)
    |none=>none
   |_,_,_,_=>none
  |_=>none
 |.range t x=>match P.underlying t with
  |some (.map _ _)=>(pX P nt x).map .rangeM
  |_=>none
 |.next x false=>(pX P nt x).map .nextM
 |.entry x=>(pX P nt x).map .entryM
 |.typeAssert x _ t ok=>match P.underlying t,tyI P t,pX P nt x with
  |some (.interface _),_,_=>none
  |some _,some i,some a=>some (.assert t i.zero ok a)
  |_,_,_=>none
 |.extract x i=>match pX P nt x with
  |some a=>some (.extract a i)
  |none=>none
 |.call c=>match c.callee with
  |.value (.func f)=>match Yi P nt c.args.toList,P.funcs[f]? with
   | some l, some fn => bif fn.body.isSome && !(fn.name == "runtime.NumGoroutine") then some (.callF f l) else none
   |_,_=>none
  |.value x=>match pX P nt x,Yi P nt c.args.toList with
   |some a,some l=>some (.callV a l)
   |_,_=>none
  |.invoke _ _=>none
  |.builtin b=>match b,Yi P nt c.args.toList with
   |.len,some [x]=>match c.argTypes.toList with
    | [t]=>match P.underlying t with
     |some .string=>some (.lenS x)
     |some (.slice _)=>some (.lenL x)
     |some (.map _ _)=>some (.lenM x)
     |_=>none
    |_=>none
   |.append,some [s,x]=>match c.argTypes.toList with
    | [t,u]=>match P.underlying t,P.underlying u with
     |some (.slice e),some (.slice _)=>match tyI P e,P.info? e with
      |some ie,some i=>bif Nat.blt 0 ie.size&&Nat.beq ie.zero.cells.length ie.size&&Nat.ble i.bytes 65536 then some (.append ie.size s x) else none
      |_,_=>none
     |some (.slice e),some .string=>match tyI P e,P.info? e with
      |some ie,some i=>bif Nat.blt 0 ie.size&&Nat.beq ie.zero.cells.length ie.size&&Nat.ble i.bytes 65536 then some (.append ie.size s x) else none
      |_,_=>none
     |_,_=>none
    |_=>none
   |.max,some [x,y]=>some (.mx true x y)
   |.min,some [x,y]=>some (.mx false x y)
   |.recover,some []=>some .recover
   |.delete,some [m,k]=>match c.argTypes.toList with
    |t ::_=>match P.underlying t with
     |some (.map kt _)=>match P.underlying kt,XJ P 100 kt with
      |some (.struct _),some p=>some (.delP p m k)
      |some (.array _ _),some p=>some (.delP p m k)
      |_,_=>none
     |_=>none
    |_=>none
   |_,_=>none
 |.defer c=>match c.callee with
  |.value x=>match pX P nt x,Yi P nt c.args.toList with
   |some a,some l=>some (.dfr a l)
   |_,_=>none
  |_=>none
 |.panic x=>(pX P nt x).map .panic
 |_=>none
def Yj(nt:Nat)(ops:Array Oper):Option (Nat×Bool)→Option (Option (Key×Bool))
 |none=>some none
 |some (j,want)=>match ops[j]? with
  |some o=>match o.dst with
   |some d=>match RW nt d with
    |some k=>some (some (k,want))
    |none=>none
   |none=>none
  |none=>none
def Wm(P:Program)(nt:Nat)(ops:Array Oper)(o:Oper):Option J:=
 match lW P nt o,Yj nt ops o.guard with
 |some op,some g=>match o.dst with
  |none=>some ⟨none,op,g⟩
  |some d=>match RW nt d with
   |some k=>some ⟨some k,op,g⟩
   |none=>none
 |_,_=>none
def tC(P:Program)(nt:Nat)(ops:Array Oper):List Nat→Option (List J)
 | []=>some []
 |i ::l=>match ops[i]? with
  |none=>none
  |some o=>match Wm P nt ops o,tC P nt ops l with
   |some a,some r=>some (a ::r)
   |_,_=>none
def T9:T7→Bool
 |.store _ _ _|.mapupd _ _ _ _|.mapupdP _ _ _ _|.delP _ _ _|.rangeM _|.nextM _|.strb _|.append _ _ _|.callF _ _|.callV _ _|.dfr _ _|.panic _|.recover=>true
 |_=>false
def XK:T7→Bool
 |.new _|.box _|.bslice _ _ _ _|.mkmap|.mkslice _ _ _ _=>true
 |_=>false
def Vw:T7→Bool
 |.load _ _ _|.lookup _ _ _ _ _|.cbytes _|.lenM _|.entryM _=>true
 |_=>false
def vK(ops:Array Oper):List Nat:=(Region.before ops).toList
def abG:List J→Nat→List Nat
 | [],_=>[]
 |o ::l,i=>bif T9 o.op then i ::abG l (i+1) else abG l (i+1)
def XL(b:Nat):List Nat→Nat
 | []=>0
 |h ::l=>bif Nat.testBit b h then XL b l+1 else XL b l
def Ua(hs:List Nat)(s:Nat):List (J×Nat)→Nat→List bx
 | [],_=>[]
 |(o,b) ::l,i=>bif T9 o.op || !(Nat.beq (XL b hs) s) then Ua hs s l (i+1)
   else(bif XK o.op then .A i o else .L i o) ::Ua hs s l (i+1)
def Ub(bh:Nat):List (J×Nat)→Nat→List Nat
 | [],_=>[]
 |(o,_) ::l,i=>bif XK o.op&&Nat.testBit bh i then i ::Ub bh l (i+1) else Ub bh l (i+1)
def S9(hs:List Nat)(s bh:Nat):List (J×Nat)→Nat→List (Nat×J)
 | [],_=>[]
 |(o,b) ::l,i=>bif Vw o.op&&Nat.ble (XL b hs) s && !(Nat.testBit bh i) then(i,o) ::S9 hs s bh l (i+1) else S9 hs s bh l (i+1)
def aAc(l:List (J×Nat))(i:Nat):Option (J×Nat):=l[i]?
def Yk(hs:List Nat)(all:List (J×Nat)):Nat→List Nat→Option (List bx)
 |s,[]=>some (Ua hs s all 0)
 |s,h ::rest=>match aAc all h,Yk hs all (s+1) rest with
  |some (o,b),some r=>some (Ua hs s all 0 ++ .H h o (Ub b all 0) ::.R (S9 hs s b all 0) ::r)
  |_,_=>none
def dstsOf:List J→List Key
 | []=>[]
 |o ::l=>match o.dst with
  |some d=>d ::dstsOf l
  |none=>dstsOf l
def Rg(amk:List (J×Nat)):List (J×Nat)→Nat→List (Nat×List Nat)
 | [],_=>[]
 |(o,b) ::l,i=>bif Vw o.op then(match Ub b amk 0 with
   | []=>Rg amk l (i+1)
   |ad=>(i,ad) ::Rg amk l (i+1)) else Rg amk l (i+1)
def hasB(m j:Nat):Bool:=Nat.testBit m j
def aeY(n a b:Nat):Bool:=(List.range n).all fun j=>!(hasB a j)||hasB b j
def iY(bf:List Nat)(i:Nat):Nat:=(bf[i]?).getD 0
def ra(ops:Array Oper)(o:Oper):List Nat:=
 o.op.operands.toList.filterMap (fun|.tmp t=>some t|_=>none)++(match o.guard with|some (j,_)=>((ops[j]?).bind (·.dst)).toList|none=>[])
def tD(ops:Array Oper)(i:Nat):Option Nat:=(ops[i]?).bind (·.dst)
def XM(ops:Array Oper)(bf:List Nat):Bool:=
 (List.range ops.size).all fun i=>match ops[i]? with
  |none=>false
  |some o=>(o.after.toList.all fun e=>!(Region.binds .any e)||(Nat.blt e.on i&&hasB (iY bf i) e.on)) &&
   (List.range ops.size).all fun j=>!(hasB (iY bf i) j)||o.after.toList.any fun e=>Region.binds .any e&&(Nat.beq e.on j||hasB (iY bf e.on) j)
def abH(ops:Array Oper)(bf:List Nat):Bool:=
 (List.range ops.size).all fun i=>match ops[i]? with
  |none=>false
  |some o=>(List.range ops.size).all fun j=>match tD ops j with
   |none=>true
   |some t=>bif Nat.beq i j then !(ra ops o).contains t else
     !(o.dst==some t)&&(!(ra ops o).contains t||hasB (iY bf i) j||hasB (iY bf j) i)
def Ot(ops:Array Oper)(bf:List Nat)(i:Nat):Bool:=match ops[i]? with
 |none=>false
 |some o=>(List.range ops.size).all fun j=>match tD ops j with
  |none=>true
  |some t=>!(ra ops o).contains t||hasB (iY bf i) j
inductive IIt where
 |L (i:Nat)
 |A (i:Nat)
 |H (i:Nat) (Ou:List Nat)
 |R (os:List Nat)
def iOf:bx→IIt
 |.L i _=>.L i
 |.A i _=>.A i
 |.H i _ l=>.H i l
 |.R os=>.R (os.map (·.1))
def Ov(pl:List J):IIt→Option bx
 |.L i=>(pl[i]?).map (.L i)
 |.A i=>(pl[i]?).map (.A i)
 |.H i l=>(pl[i]?).map (fun o=>.H i o l)
 |.R os=>(os.mapM fun i=>(pl[i]?).map fun o=>(i,o)).map .R
def yv(pl:List J)(i:Nat):Nat:=match pl[i]? with
 |none=>9
 |some o=>bif T9 o.op then 2 else bif XK o.op then 1 else 0
def jC(pl:List J)(i:Nat):Bool:=match pl[i]? with
 |none=>false
 |some o=>Vw o.op
def Uc(m i:Nat):Nat:=m ||| 2^i
def HW(ops:Array Oper)(pl:List J)(bf:List Nat):Nat→List IIt→Bool
 |m,[]=>(List.range ops.size).all (hasB m)
 |m,.L i ::r=>Nat.blt i ops.size&&Nat.beq (yv pl i) 0 && !(hasB m i)&&aeY ops.size (iY bf i) m&&HW ops pl bf (Uc m i) r
 |m,.A i ::r=>Nat.blt i ops.size&&Nat.beq (yv pl i) 1 && !(hasB m i)&&aeY ops.size (iY bf i) m&&HW ops pl bf (Uc m i) r
 |m,.H i l ::.R os ::r=>Nat.blt i ops.size&&Nat.beq (yv pl i) 2 && !(hasB m i)&&aeY ops.size (iY bf i) m &&
   ((List.range ops.size).all fun j=>hasB m j||Nat.beq j i || !(aeY ops.size (iY bf j) m)) &&
   (l.all fun j=>hasB (iY bf i) j) &&
   ((List.range ops.size).all fun j=>!(hasB m j) || !(jC pl j)||hasB (iY bf i) j||os.contains j) &&
   (os.all fun j=>Nat.blt j ops.size&&hasB m j&&Nat.beq (yv pl j) 0&&Ot ops bf j) &&
   HW ops pl bf (Uc m i) r
 |_,_=>false
def IA(bf:List Nat):List (Nat×List Nat)→Bool
 | []=>true
 |(i,l) ::r=>(l.all fun j=>hasB (iY bf i) j)&&IA bf r
def aqa(ops:Array Oper)(pl:List J)(bf:List Nat)(l:List IIt):Bool:=XM ops bf&&abH ops bf&&HW ops pl bf 0 l
def Ud(P:Program)(nt:Nat)(ops:Array Oper)(draw:Bool):Option U:=
 match tC P nt ops (List.range ops.size) with
 |none=>none
 |some l=>bif draw then
   (let all:=l.zip (vK ops)
   let hs:=abG l 0
   match Yk hs all 0 hs with
   |some st=>match (st.map iOf).mapM (Ov l) with
    |some st=>bif aqa ops l (vK ops) (st.map iOf)&&IA (vK ops) (Rg all all 0) then some (.staged st ⟨dstsOf l,Rg all all 0⟩) else none
    |none=>none
   |none=>none)
  else some (.ops l)
def kZ(P:Program)(nt:Nat):Code→Option U
 |.skip=>some .skip
 |.region _ ops draw=>Ud P nt ops draw
 |.seq a b=>match kZ P nt a,kZ P nt b with
  |some a,some b=>some (.seq a b)
  |_,_=>none
 |.cond c a b=>match pX P nt c,kZ P nt a,kZ P nt b with
  |some c,some a,some b=>some (.cond c a b)
  |_,_,_=>none
 |.block id c=>match kZ P nt c with
  |some c=>some (.block id c)
  |none=>none
 |.loop c=>match kZ P nt c with
  |some c=>some (.loop c)
  |none=>none
 |.rangeFunc f params a b=>match pX P nt f,params.toList.mapM (RW nt),kZ P nt a,kZ P nt b with
  |some f,some ps,some a,some b=>some (.rangeF f ps a b)
  |_,_,_,_=>none
 |.exit id=>some (.exit id)
 |.ret=>some .ret
 |_=>none
def aae(P:Program)(nt:Nat):List ResultVar→Option (List RV)
 | []=>some []
 |.tmp t ::l=>match RW nt t,aae P nt l with
  |some k,some r=>some (.tmp k ::r)
  |_,_=>none
 |.cell a t ::l=>match RW nt a,tyI P t,aae P nt l with
  |some k,some i,some r=>some (.cell k i.agg i.size ::r)
  |_,_,_=>none
def pFn(P:Program)(f:Nat):Option eG:=
 match P.funcs[f]? with
 |none=>none
 |some fn=>match fn.body with
  |none=>none
  | some c => bif fn.name == "runtime.NumGoroutine" then none else match kZ P fn.ntmps c, aae P fn.ntmps fn.results.toList with
   |some b,some r=>some ⟨b,r⟩
   |_,_=>none
end Go.Sx
/-
 SX: the laws of the machine's tries and lists. No condition.
-/
namespace Go.Sx
theorem Key.toNat_inj:∀ {a b:Key},a.toNat=b.toNat→a=b
 |.z,.z,_=>rfl
 |.z,.o b,h=>by simp[Key.toNat] at h
 |.z,.e b,h=>by simp[Key.toNat] at h
 |.o a,.z,h=>by simp[Key.toNat] at h
 |.e a,.z,h=>by simp[Key.toNat] at h
 |.o a,.o b,h=>by rw[Key.toNat_inj (a:=a) (b:=b) (by simp only[Key.toNat] at h;omega)]
 |.e a,.e b,h=>by rw[Key.toNat_inj (a:=a) (b:=b) (by simp only[Key.toNat] at h;omega)]
 |.o a,.e b,h=>by simp only[Key.toNat] at h;omega
 |.e a,.o b,h=>by simp only[Key.toNat] at h;omega
theorem kTSu:∀ (k:Key),k.succ.toNat=k.toNat+1
 |.z=>rfl
 |.o k=>by show(Key.e k).toNat=_;simp only[Key.toNat]
 |.e k=>by show(Key.o k.succ).toNat=_;simp only[Key.toNat,kTSu k];omega
theorem Key.eq_of_beq:∀ {a b:Key},Key.beq a b=true→a=b
 |.z,.z,_=>rfl
 |.o a,.o b,h=>by rw[Key.eq_of_beq (a:=a) (b:=b) h]
 |.e a,.e b,h=>by rw[Key.eq_of_beq (a:=a) (b:=b) h]
 |.z,.o _,h=>by cases h
 |.z,.e _,h=>by cases h
 |.o _,.z,h=>by cases h
 |.e _,.z,h=>by cases h
 |.o _,.e _,h=>by cases h
 |.e _,.o _,h=>by cases h
noncomputable def aK{α:Type}(k:Key)(x:Option α)(t:T α):T α:=Gs k x t fun t=>t
section
variable{α R:Type}
@[simp] theorem T.get_nil(k:Key):aa k (T.nil:T α)=none:=by cases k<;>rfl
@[simp] theorem T.aKK(v:Option α)(l r:T α):aa .z (.node v l r)=v:=rfl
@[simp] theorem T.ald(k:Key)(v:Option α)(l r:T α):aa (.o k) (.node v l r)=aa k l:=rfl
@[simp] theorem T.ale(k:Key)(v:Option α)(l r:T α):aa (.e k) (.node v l r)=aa k r:=rfl
theorem sTCe(x:Option α):∀ {R:Type} (k:Key) (t:T α) (c:T α→R),Gs k x t c=c (aK k x t)
 |_,.z,.nil,c=>rfl
 |_,.z,.node v l r,c=>rfl
 |_,.o k,.nil,c=>by
  show Gs k x .nil (fun l=>c (.node none l .nil))=c (Gs k x .nil fun l=>.node none l .nil)
  rw[sTCe x k .nil,sTCe x k .nil (fun l=>T.node none l .nil)]
 |_,.e k,.nil,c=>by
  show Gs k x .nil (fun r=>c (.node none .nil r))=c (Gs k x .nil fun r=>.node none .nil r)
  rw[sTCe x k .nil,sTCe x k .nil (fun r=>T.node none .nil r)]
 |_,.o k,.node v l r,c=>by
  show Gs k x l (fun l=>c (.node v l r))=c (Gs k x l fun l=>.node v l r)
  rw[sTCe x k l,sTCe x k l (fun l=>T.node v l r)]
 |_,.e k,.node v l r,c=>by
  show Gs k x r (fun r=>c (.node v l r))=c (Gs k x r fun r=>.node v l r)
  rw[sTCe x k r,sTCe x k r (fun r=>T.node v l r)]
theorem T.V5(k:Key)(x:Option α):aK (.o k) x .nil=.node none (aK k x .nil) .nil:=sTCe x k .nil _
theorem T.V6(k:Key)(x:Option α):aK (.e k) x .nil=.node none .nil (aK k x .nil):=sTCe x k .nil _
theorem T.akN(k:Key)(x v:Option α)(l r:T α):aK (.o k) x (.node v l r)=.node v (aK k x l) r:=sTCe x k l _
theorem T.akO(k:Key)(x v:Option α)(l r:T α):aK (.e k) x (.node v l r)=.node v l (aK k x r):=sTCe x k r _
theorem gTSm(x:Option α):∀ (k:Key) (t:T α),aa k (aK k x t)=x
 |.z,.nil=>rfl
 |.z,.node v l r=>rfl
 |.o k,.nil=>by rw[T.V5];exact gTSm x k .nil
 |.e k,.nil=>by rw[T.V6];exact gTSm x k .nil
 |.o k,.node v l r=>by rw[T.akN];exact gTSm x k l
 |.e k,.node v l r=>by rw[T.akO];exact gTSm x k r
theorem bU(x:Option α):∀ (k k':Key) (t:T α),k'≠k→aa k' (aK k x t)=aa k' t
 |.z,k',.nil,h=>by
  cases k' with
  |z=>exact absurd rfl h
  |o k'=>show aa k' T.nil=_;simp
  |e k'=>show aa k' T.nil=_;simp
 |.z,k',.node v l r,h=>by
  cases k' with
  |z=>exact absurd rfl h
  |o k'=>rfl
  |e k'=>rfl
 |.o k,k',.nil,h=>by
  rw[T.V5]
  cases k' with
  |z=>rfl
  |o k'=>rw[T.ald,bU x k k' .nil (fun e=>h (by rw[e]))];simp
  |e k'=>simp
 |.e k,k',.nil,h=>by
  rw[T.V6]
  cases k' with
  |z=>rfl
  |o k'=>simp
  |e k'=>rw[T.ale,bU x k k' .nil (fun e=>h (by rw[e]))];simp
 |.o k,k',.node v l r,h=>by
  rw[T.akN]
  cases k' with
  |z=>rfl
  |o k'=>rw[T.ald,T.ald];exact bU x k k' l (fun e=>h (by rw[e]))
  |e k'=>rfl
 |.e k,k',.node v l r,h=>by
  rw[T.akO]
  cases k' with
  |z=>rfl
  |o k'=>rfl
  |e k'=>rw[T.ale,T.ale];exact bU x k k' r (fun e=>h (by rw[e]))
theorem nth_eq:∀ (n:Nat) (l:List α),nth n l=l[n]?
 |0,[]=>rfl
 |0,x ::l=>rfl
 |n+1,[]=>rfl
 |n+1,x ::l=>by show nth n l=_;rw[nth_eq n l];simp
theorem dropL_eq:∀ (n:Nat) (l:List α),Eu n l=l.drop n
 |0,l=>rfl
 |n+1,[]=>by simp;rfl
 |n+1,x ::l=>by show Eu n l=_;rw[dropL_eq n l];simp
theorem takeC_eq:∀ (n:Nat) (l:List α) (bad:R) (c:List α→R),GQ n l bad c=if n≤l.length then c (l.take n) else bad
 |0,l,bad,c=>by simp;rfl
 |n+1,[],bad,c=>by simp;rfl
 |n+1,x ::l,bad,c=>by
  show GQ n l bad (fun r=>c (x ::r))=_
  rw[takeC_eq n l];simp
theorem aep:∀ (vs l:List α) (bad:R) (c:List α→R),agT vs l bad c=if vs.length≤l.length then c (vs++l.drop vs.length) else bad
 | [],l,bad,c=>by simp;rfl
 |v ::vs,[],bad,c=>by simp;rfl
 |v ::vs,x ::l,bad,c=>by
  show agT vs l bad (fun r=>c (v ::r))=_
  rw[aep vs l];simp
theorem putC_eq(vs:List α):∀ (off:Nat) (l:List α) (bad:R) (c:List α→R),
  adE vs off l bad c=if off+vs.length≤l.length then c (l.take off++vs++l.drop (off+vs.length)) else bad
 |0,l,bad,c=>by
  show agT vs l bad c=_
  rw[aep];simp
 |off+1,[],bad,c=>by
  have:¬ (off+1+vs.length≤([]:List α).length):=by simp
  rw[if_neg this];rfl
 |off+1,x ::l,bad,c=>by
  show adE vs off l bad (fun r=>c (x ::r))=_
  rw[putC_eq vs off l]
  have e:(off+1+vs.length≤(x ::l).length)↔(off+vs.length≤l.length):=by simp;omega
  by_cases h:off+vs.length≤l.length
  ·rw[if_pos h,if_pos (e.2 h)]
   have:off+1+vs.length=(off+vs.length)+1:=by omega
   rw[this];simp
  ·rw[if_neg h,if_neg (fun h'=>h (e.1 h'))]
theorem appC_eq:∀ (a b:List α) (c:List α→R),ab5 a b c=c (a++b)
 | [],b,c=>rfl
 |x ::a,b,c=>by
  show ab5 a b (fun r=>c (x ::r))=_
  rw[appC_eq a b];simp
theorem lenL_eq:∀ (l:List α),lenL l=l.length
 | []=>rfl
 |x ::l=>by show Nat.succ (lenL l)=_;rw[lenL_eq l];simp
theorem repL_eq(zs:List α):∀ (n:Nat) (acc:List α),afd n zs acc=(List.replicate n zs).flatten++acc
 |0,acc=>by simp;rfl
 |n+1,acc=>by
  show ab5 zs (afd n zs acc) (fun r=>r)=_
  rw[appC_eq,repL_eq zs n acc];simp[List.replicate_succ]
end
theorem beqN_eq(a b:Nat):Nat.beq a b=decide (a=b):=by
 by_cases h:a=b
 ·subst h;simp
 ·have:Nat.beq a b=false:=by
   cases e:Nat.beq a b with
   |false=>rfl
   |true=>exact absurd (yB e) h
  rw[this];simp[h]
theorem eqI_eq(a b:Int):eqI a b=(a==b):=by
 cases a with
 |ofNat a=>cases b with
  |ofNat b=>
   show Nat.beq a b=_
   rw[beqN_eq,Bool.eq_iff_iff]
   simp
   omega
  |negSucc b=>
   show false=_
   symm
   rw[beq_eq_false_iff_ne]
   intro h;cases h
 |negSucc a=>cases b with
  |ofNat b=>
   show false=_
   symm
   rw[beq_eq_false_iff_ne]
   intro h;cases h
  |negSucc b=>
   show Nat.beq a b=_
   rw[beqN_eq,Bool.eq_iff_iff]
   simp
theorem bltN_eq(a b:Nat):Nat.blt a b=decide (a<b):=by
 rw[Bool.eq_iff_iff,decide_eq_true_iff]
 unfold Nat.blt
 rw[Nat.ble_eq]
 omega
theorem ZE(a b:Int):ltI a b=decide (a<b):=by
 cases a with
 |ofNat a=>cases b with
  |ofNat b=>
   show Nat.blt a b=_
   rw[bltN_eq,decide_eq_decide]
   show a<b↔(a:Int)<(b:Int)
   omega
  |negSucc b=>
   show false=_
   symm
   rw[decide_eq_false_iff_not]
   have:=Int.negSucc_lt_zero b
   show ¬ ((a:Int)<_)
   omega
 |negSucc a=>cases b with
  |ofNat b=>
   show true=_
   symm
   rw[decide_eq_true_iff]
   have:=Int.negSucc_lt_zero a
   show _<(b:Int)
   omega
  |negSucc b=>
   show Nat.blt b a=_
   rw[bltN_eq,decide_eq_decide,Int.negSucc_eq,Int.negSucc_eq]
   omega
theorem ahu(k:IntKind):full k=(2^k.bits:Int):=by cases k<;>decide
theorem nu(k:IntKind)(n:Int):aW k n=k.wrap n:=by
 have hm:Int.emod n (full k)=n%(2^k.bits:Int):=by rw[ahu];rfl
 have h0:0≤n%(2^k.bits:Int)∧n%(2^k.bits:Int)<(2^k.bits:Int):=
  ⟨Int.emod_nonneg _ (by cases k<;>decide),Int.emod_lt_of_pos _ (by cases k<;>decide)⟩
 unfold aW IntKind.wrap
 rw[hm,ZE]
 generalize n%(2^k.bits:Int)=m at h0
 by_cases h:m<half k
 ·rw[decide_eq_true h]
  have:(k.signed&&decide (m≥(2^(k.bits-1):Int)))=false:=by
   cases k<;>simp[half,IntKind.signed,IntKind.bits] at h h0 ⊢<;>omega
  simp[this]
 ·rw[decide_eq_false h]
  have:(k.signed&&decide (m≥(2^(k.bits-1):Int)))=true:=by
   cases k<;>simp[half,IntKind.signed,IntKind.bits] at h h0 ⊢<;>omega
  simp only[this,cond_false,if_true,ahu]
  rfl
theorem Ab{a b:IntKind}(h:beqKind a b=true):a=b:=by
 cases a<;>cases b<;>first|rfl|cases h
theorem abn{a b:BinOp}(h:ab6 a b=true):a=b:=by
 cases a<;>cases b<;>first|rfl|cases h
theorem SI.eq_of_beq:∀ {a b:SI},SI.beq a b=true→a=b
 |.lit a,.lit b,h=>by simp only[SI.beq,eqI_eq,beq_iff_eq] at h;rw[h]
 |.var i,.var j,h=>by rw[yB (n:=i) (m:=j) h]
 |.bin o k a b,.bin o' k' a' b',h=>by
  simp only[SI.beq,Ad] at h
  rw[abn h.1.1.1,Ab h.1.1.2,SI.eq_of_beq h.1.2,SI.eq_of_beq h.2]
 |.lit _,.var _,h=>by cases h
 |.lit _,.bin ..,h=>by cases h
 |.var _,.lit _,h=>by cases h
 |.var _,.bin ..,h=>by cases h
 |.bin ..,.lit _,h=>by cases h
 |.bin ..,.var _,h=>by cases h
theorem SF.eq_of_beq:∀ {a b:SF},SF.beq a b=true→a=b
 |.any,.any,_=>rfl
 |.tok a,.tok b,h=>by simp only[SF.beq] at h;rw[Key.eq_of_beq h]
 |.any,.tok _,h=>by cases h
 |.tok _,.any,h=>by cases h
mutual
theorem AV.eq_of_beq:∀ (a b:AV),AV.beq a b=true→a=b:=by
 intro a b h
 cases a with
 |bool b1=>
  cases b with
  |bool b2=>simp only[AV.beq,beq_iff_eq] at h;rw[h]
  |_=>exact absurd h (by simp[AV.beq])
 |int k1 n1=>
  cases b with
  |int k2 n2=>simp only[AV.beq,Ad] at h;rw[Ab h.1,SI.eq_of_beq h.2]
  |_=>exact absurd h (by simp[AV.beq])
 |str n1 c1=>
  cases b with
  |str n2 c2=>simp only[AV.beq,Ad] at h;rw[yB h.1,yB h.2]
  |_=>exact absurd h (by simp[AV.beq])
 |ptr b1 o1=>
  cases b with
  |ptr b2 o2=>simp only[AV.beq,Ad] at h;rw[Key.eq_of_beq h.1,yB h.2]
  |_=>exact absurd h (by simp[AV.beq])
 |nilp=>
  cases b with
  |nilp=>rfl
  |_=>exact absurd h (by simp[AV.beq])
 |slice b1 o1 l1 s1=>
  cases b with
  |slice b2 o2 l2 s2=>simp only[AV.beq,Ad] at h;rw[Key.eq_of_beq h.1.1.1,yB h.1.1.2,yB h.1.2,yB h.2]
  |_=>exact absurd h (by simp[AV.beq])
 |nils=>
  cases b with
  |nils=>rfl
  |_=>exact absurd h (by simp[AV.beq])
 |map b1=>
  cases b with
  |map b2=>simp only[AV.beq] at h;rw[Key.eq_of_beq h]
  |_=>exact absurd h (by simp[AV.beq])
 |nilm=>
  cases b with
  |nilm=>rfl
  |_=>exact absurd h (by simp[AV.beq])
 |fn f1 a1 c1=>
  cases b with
  |fn f2 a2 c2=>simp only[AV.beq,Ad] at h;rw[yB h.1.1,AV.nD _ _ h.1.2,AV.nD _ _ h.2]
  |_=>exact absurd h (by simp[AV.beq])
 |yld l1=>
  cases b with
  |yld l2=>simp only[AV.beq] at h;rw[Key.eq_of_beq h]
  |_=>exact absurd h (by simp[AV.beq])
 |nilf=>
  cases b with
  |nilf=>rfl
  |_=>exact absurd h (by simp[AV.beq])
 |iface t1 v1=>
  cases b with
  |iface t2 v2=>simp only[AV.beq,Ad] at h;rw[yB h.1,AV.eq_of_beq _ _ h.2]
  |_=>exact absurd h (by simp[AV.beq])
 |nili=>
  cases b with
  |nili=>rfl
  |_=>exact absurd h (by simp[AV.beq])
 |agg l1=>
  cases b with
  |agg l2=>simp only[AV.beq] at h;rw[AV.nD _ _ h]
  |_=>exact absurd h (by simp[AV.beq])
 |tuple l1=>
  cases b with
  |tuple l2=>simp only[AV.beq] at h;rw[AV.nD _ _ h]
  |_=>exact absurd h (by simp[AV.beq])
 |sl l1 n1 z1 f1=>
  cases b with
  |sl l2 n2 z2 f2=>simp only[AV.beq,Ad] at h;rw[AV.nD _ _ h.1.1.1,yB h.1.1.2,yB h.1.2,SF.eq_of_beq h.2]
  |_=>exact absurd h (by simp[AV.beq])
 |cref l1=>
  cases b with
  |cref l2=>simp only[AV.beq] at h;rw[AV.nD _ _ h]
  |_=>exact absurd h (by simp[AV.beq])
theorem AV.nD:∀ (a b:List AV),AV.Us a b=true→a=b
 | [],[],_=>rfl
 |x ::a,y ::b,h=>by
  simp only[AV.Us,Ad] at h
  rw[AV.eq_of_beq x y h.1,AV.nD a b h.2]
 | [],_ ::_,h=>by cases h
 |_ ::_,[],h=>by cases h
end
end Go.Sx
/-
 SX: what it means that the abstract machine's data stand for the model's. No condition.
-/
namespace Go.Sx
open Go.RowKit
structure Loc where
 c:Nat
 base:Nat
 ext:Nat
structure Mu where
 loc:Key→Option Loc
 fz:Nat→Nat→Option Value
instance:CoeFun Mu (fun _=>Key→Option Loc):=⟨Mu.loc⟩
structure Mu.le(μ μ':Mu):Prop where
 l:∀ b l,μ b=some l→μ' b=some l
 f:∀ c i v,μ.fz c i=some v→μ'.fz c i=some v
theorem Mu.le_refl(μ:Mu):μ.le μ:=⟨fun _ _ h=>h,fun _ _ _ h=>h⟩
theorem Mu.le_trans{a b c:Mu}(h:a.le b)(k:b.le c):a.le c:=⟨fun x l e=>k.l x l (h.l x l e),fun x i v e=>k.f x i v (h.f x i v e)⟩
def Zm(μ:Mu)(c o len cap sz:Nat):SF→Prop
 |.any=>True
 |.tok b=>μ b=some ⟨c,o+len*sz,(cap-len)*sz⟩
theorem Zm.mono{μ μ':Mu}(hm:μ.le μ'){c o len cap sz:Nat}{fl:SF}(h:Zm μ c o len cap sz fl):Zm μ' c o len cap sz fl:=by
 cases fl with
 |any=>trivial
 |tok b=>exact hm.l _ _ h
def SI.den(ρ:Nat→Int):SI→Int
 |.lit n=>n
 |.var i=>ρ i
 |.bin .add k a b=>k.wrap (a.den ρ+b.den ρ)
 |.bin .sub k a b=>k.wrap (a.den ρ-b.den ρ)
 |.bin .mul k a b=>k.wrap (a.den ρ*b.den ρ)
 |.bin _ _ _ _=>0
mutual
inductive bn(ρ:Nat→Int)(μ:Mu):AV→Value→Prop
 |bool (b:Bool):bn ρ μ (.bool b) (.bool b)
 |int (k:IntKind) (s:SI) (n:Int) (h:s.den ρ=n):bn ρ μ (.int k s) (.int k n)
 |str (n c:Nat) (s:ByteArray) (h:s.data.toList.length=n) (h':enc s.data.toList=c):bn ρ μ (.str n c) (.string s)
 |ptr (b:Key) (off:Nat) (l:Loc) (a:Addr) (h:μ b=some l) (ha:a=⟨l.c,l.base+off,none⟩):bn ρ μ (.ptr b off) (.pointer (some a))
 |nilp:bn ρ μ .nilp (.pointer none)
 |slice (b:Key) (off len sz cap:Nat) (l:Loc) (a:Addr) (h:μ b=some l) (hc:off+cap*sz=l.ext) (hl:len≤cap)
   (ha:cap=0∨a=⟨l.c,l.base+off,none⟩):bn ρ μ (.slice b off len sz) (.slice (some a) len cap)
 |nils:bn ρ μ .nils (.slice none 0 0)
 |map (b:Key) (l:Loc) (r:Nat) (h:μ b=some l) (hr:r=l.c):bn ρ μ (.map b) (.map (some r))
 |nilm:bn ρ μ .nilm (.map none)
 |fn (f:Nat) (first cap:List AV) (vs ws:Array Value) (h:aB ρ μ first vs.toList) (h':aB ρ μ cap ws.toList):bn ρ μ (.fn f first cap) (.func (.func f) vs ws)
 |yld (b:Key) (l:Loc) (r:Nat) (h:μ b=some l) (hr:r=l.c):bn ρ μ (.yld b) (.func (.yield r) #[] #[])
 |nilf:bn ρ μ .nilf .nilFunc
 |iface (t:Nat) (a:AV) (v:Value) (h:bn ρ μ a v):bn ρ μ (.iface t a) (.iface t v)
 |nili:bn ρ μ .nili .nilIface
 |agg (l:List AV) (vs:Array Value) (h:aB ρ μ l vs.toList):bn ρ μ (.agg l) (.agg vs)
 |tuple (l:List AV) (vs:Array Value) (h:aB ρ μ l vs.toList):bn ρ μ (.tuple l) (.tuple vs)
 |sl (l:List AV) (len sz:Nat) (fl:SF) (cap c o:Nat) (a:Addr) (vs:List Value) (h:aB ρ μ l vs) (hn:l.length=len*sz) (hl:len≤cap) (ha:cap=0∨a=⟨c,o,none⟩)
   (hf:∀ i v,vs[i]?=some v→μ.fz c (o+i)=some v) (hg:Zm μ c o len cap sz fl):bn ρ μ (.sl l len sz fl) (.slice (some a) len cap)
 |cref (l:List AV) (c o:Nat) (a:Addr) (vs:List Value) (h:aB ρ μ l vs) (ha:a=⟨c,o,none⟩) (hf:∀ i v,vs[i]?=some v→μ.fz c (o+i)=some v):bn ρ μ (.cref l) (.pointer (some a))
inductive aB(ρ:Nat→Int)(μ:Mu):List AV→List Value→Prop
 |nil:aB ρ μ [] []
 |cons (a:AV) (l:List AV) (v:Value) (vs:List Value) (h:bn ρ μ a v) (h':aB ρ μ l vs):aB ρ μ (a ::l) (v ::vs)
end
mutual
theorem bn.mono{ρ:Nat→Int}{μ μ':Mu}(hm:μ.le μ'):∀ {a:AV} {v:Value},bn ρ μ a v→bn ρ μ' a v
 |_,_,.bool b=>.bool b
 |_,_,.int k s n h=>.int k s n h
 |_,_,.str n c s h h'=>.str n c s h h'
 |_,_,.ptr b off l a h ha=>.ptr b off l a (hm.l _ _ h) ha
 |_,_,.nilp=>.nilp
 |_,_,.slice b off len sz cap l a h hc hl ha=>.slice b off len sz cap l a (hm.l _ _ h) hc hl ha
 |_,_,.nils=>.nils
 |_,_,.map b l r h hr=>.map b l r (hm.l _ _ h) hr
 |_,_,.nilm=>.nilm
 |_,_,.fn f first cap vs ws h h'=>.fn f first cap vs ws (aB.mono hm h) (aB.mono hm h')
 |_,_,.yld b l r h hr=>.yld b l r (hm.l _ _ h) hr
 |_,_,.nilf=>.nilf
 |_,_,.iface t a v h=>.iface t a v (bn.mono hm h)
 |_,_,.nili=>.nili
 |_,_,.agg l vs h=>.agg l vs (aB.mono hm h)
 |_,_,.tuple l vs h=>.tuple l vs (aB.mono hm h)
 |_,_,.sl l len sz fl cap c o a vs h hn hl ha hf hg=>.sl l len sz fl cap c o a vs (aB.mono hm h) hn hl ha (fun i v e=>hm.f _ _ _ (hf i v e)) (hg.mono hm)
 |_,_,.cref l c o a vs h ha hf=>.cref l c o a vs (aB.mono hm h) ha (fun i v e=>hm.f _ _ _ (hf i v e))
theorem aB.mono{ρ:Nat→Int}{μ μ':Mu}(hm:μ.le μ'):∀ {l:List AV} {vs:List Value},aB ρ μ l vs→aB ρ μ' l vs
 |_,_,.nil=>.nil
 |_,_,.cons a l v vs h h'=>.cons a l v vs (bn.mono hm h) (aB.mono hm h')
end
section
variable{ρ:Nat→Int}{μ:Mu}
theorem aB.length{l:List AV}{vs:List Value}(h:aB ρ μ l vs):l.length=vs.length:=by
 induction l generalizing vs with
 |nil=>cases h;rfl
 |cons a l ih=>cases h with|cons _ _ v vs h h'=>simp[ih h']
theorem aB.get{l:List AV}{vs:List Value}(h:aB ρ μ l vs):∀ (i:Nat) (a:AV),l[i]?=some a→∃ v,vs[i]?=some v∧bn ρ μ a v:=by
 induction l generalizing vs with
 |nil=>intro i a h';simp at h'
 |cons x l ih=>
  cases h with
  |cons _ _ v vs h h'=>
   intro i a hi
   cases i with
   |zero=>simp at hi;subst hi;exact⟨v,by simp,h⟩
   |succ i=>simpa using ih h' i a (by simpa using hi)
theorem aB.abW:∀ {l:List AV} {vs:List Value},l.length=vs.length→(∀ (i:Nat) (a:AV),l[i]?=some a→∃ v,vs[i]?=some v∧bn ρ μ a v)→aB ρ μ l vs
 | [],[],_,_=>.nil
 | [],_ ::_,h,_=>by simp at h
 |_ ::_,[],h,_=>by simp at h
 |a ::l,v ::vs,h,hg=>by
  refine .cons a l v vs ?_ (aB.abW (by simpa using h) fun i b hb=>?_)
  ·obtain⟨v',hv,hr⟩:=hg 0 a (by simp)
   simp at hv;subst hv;exact hr
  ·obtain⟨v',hv,hr⟩:=hg (i+1) b (by simpa using hb)
   exact⟨v',by simpa using hv,hr⟩
theorem aB.append{a b:List AV}{va vb:List Value}(h:aB ρ μ a va)(h':aB ρ μ b vb):aB ρ μ (a++b) (va++vb):=by
 induction a generalizing va with
 |nil=>cases h;exact h'
 |cons x a ih=>cases h with|cons _ _ v vs h1 h2=>exact .cons _ _ _ _ h1 (ih h2)
theorem aB.take{l:List AV}{vs:List Value}(h:aB ρ μ l vs)(n:Nat):aB ρ μ (l.take n) (vs.take n):=by
 induction n generalizing l vs with
 |zero=>simp;exact .nil
 |succ n ih=>cases h with
  |nil=>exact .nil
  |cons a l v vs h h'=>exact .cons _ _ _ _ h (ih h')
theorem aB.drop{l:List AV}{vs:List Value}(h:aB ρ μ l vs)(n:Nat):aB ρ μ (l.drop n) (vs.drop n):=by
 induction n generalizing l vs with
 |zero=>exact h
 |succ n ih=>cases h with
  |nil=>exact .nil
  |cons a l v vs h h'=>exact ih h'
theorem aB.one{a:AV}{v:Value}(h:bn ρ μ a v):aB ρ μ [a] [v]:=.cons _ _ _ _ h .nil
theorem aB.replicate{zs:List AV}{vs:List Value}(h:aB ρ μ zs vs):∀ (n:Nat),aB ρ μ (List.replicate n zs).flatten (List.replicate n vs).flatten
 |0=>.nil
 |n+1=>by simp only[List.replicate_succ,Xh];exact h.append (aB.replicate h n)
theorem bn.cells{a:AV}{v:Value}(h:bn ρ μ a v):aB ρ μ a.cells v.cells.toList:=by
 cases h with
 |agg l vs h=>exact h
 |_=>first|exact aB.one (.bool _)|exact aB.one (.int _ _ _ ‹_›)|exact aB.one (.str _ _ _ ‹_› ‹_›)|exact aB.one (.ptr _ _ _ _ ‹_› ‹_›)|exact aB.one .nilp|exact aB.one (.slice _ _ _ _ _ _ _ ‹_› ‹_› ‹_› ‹_›)|exact aB.one .nils|exact aB.one (.map _ _ _ ‹_› ‹_›)|exact aB.one .nilm|exact aB.one (.fn _ _ _ _ _ ‹_› ‹_›)|exact aB.one (.yld _ _ _ ‹_› ‹_›)|exact aB.one .nilf|exact aB.one (.iface _ _ _ ‹_›)|exact aB.one .nili|exact aB.one (.tuple _ _ ‹_›)|exact aB.one (.sl _ _ _ _ _ _ _ _ _ ‹_› ‹_› ‹_› ‹_› ‹_› ‹_›)|exact aB.one (.cref _ _ _ _ _ ‹_› ‹_› ‹_›)
theorem bn.am0{a:AV}{v:Value}(h:bn ρ μ a v)(hc:a.aD=true):(∀ vs,v≠.agg vs)∧(∀ vs,v≠.tuple vs):=by
 cases h<;>simp_all [AV.aD]
end
mutual
theorem kY{ρ:Nat→Int}{μ:Mu}:∀ (n:Nat) (v:Value) (a:AV),qB n v=some a→bn ρ μ a v:=by
 intro n v a h
 cases n with
 |zero=>simp[qB] at h
 |succ n=>
  cases v with
  |bool b=>simp only[qB,dO] at h;subst h;exact .bool b
  |int k i=>simp only[qB,dO] at h;subst h;exact .int k _ _ rfl
  |string s=>simp only[qB,dO] at h;subst h;exact .str _ _ _ rfl rfl
  |pointer p=>cases p with
   |none=>simp only[qB,dO] at h;subst h;exact .nilp
   |some p=>simp[qB] at h
  |slice p len cap=>
   unfold qB at h
   split at h<;>first|(cases h)|skip
   all_goals first|(simp at h;done)|skip
   all_goals simp_all
   all_goals first|exact .nils|skip
  |map r=>cases r with
   |none=>simp only[qB,dO] at h;subst h;exact .nilm
   |some p=>simp[qB] at h
  |nilFunc=>simp only[qB,dO] at h;subst h;exact .nilf
  |nilIface=>simp only[qB,dO] at h;subst h;exact .nili
  |iface t v=>
   simp only[qB] at h
   split at h
   ·rename_i b hb
    cases h
    exact .iface _ _ _ (kY n v b hb)
   ·simp at h
  |agg cs=>
   simp only[qB] at h
   split at h
   ·rename_i b hb
    cases h
    exact .agg _ _ (TQ n cs.toList b hb)
   ·simp at h
  |tuple cs=>
   simp only[qB] at h
   split at h
   ·rename_i b hb
    cases h
    exact .tuple _ _ (TQ n cs.toList b hb)
   ·simp at h
  |float k b=>simp[qB] at h
  |complex k a b=>simp[qB] at h
  |chan r=>simp[qB] at h
  |func f a b=>simp[qB] at h
theorem TQ{ρ:Nat→Int}{μ:Mu}:∀ (n:Nat) (vs:List Value) (l:List AV),S7 n vs=some l→aB ρ μ l vs:=by
 intro n vs l h
 cases vs with
 |nil=>cases n<;>(simp only[S7,dO] at h;subst h;exact .nil)
 |cons v vs=>
  cases n with
  |zero=>simp[S7] at h
  |succ n=>
   simp only[S7] at h
   split at h
   ·rename_i a r ha hr
    cases h
    exact .cons _ _ _ _ (kY n v a ha) (TQ n vs r hr)
   ·simp at h
end
def pU(ρ:Nat→Int)(μ:Mu)(nt:Nat)(tm:T AV)(tmps:Array Value):Prop:=
 nt≤tmps.size∧∀ k a,aa k tm=some a→∃ v,tmps[k.toNat]?=some v∧bn ρ μ a v
def tA(ρ:Nat→Int)(μ:Mu):List (AV×AV)→List MapEntry→Prop
 | [],[]=>True
 |(k,a) ::l,e ::es=>bn ρ μ k e.key∧bn ρ μ a e.val∧tA ρ μ l es
 |_,_=>False
def mb(ρ:Nat→Int)(μ:Mu):List (Nat×AV×AV)→List MapEntry→Prop
 | [],[]=>True
 |(s,k,a) ::l,e ::es=>e.born=s∧bn ρ μ k e.key∧bn ρ μ a e.val∧mb ρ μ l es
 |_,_=>False
def agE:LS→LoopState→Prop
 |.ready,.ready|.busy,.busy|.done,.done|.exhausted,.exhausted=>True
 |_,_=>False
def ajh(P:Program)(nt:Nat)(pc:U)(c:Code):Prop:=kZ P nt c=some pc
def aaY(P:Program)(nt:Nat):Option U→Option Code→Prop
 |none,none=>True
 |some pc,some c=>ajh P nt pc c
 |_,_=>False
def abJ(ks:List Key)(ts:List Nat):Prop:=ks.map Key.toNat=ts
structure aji(P:Program)(f:Nat)(nt:Nat)(res:List RV):Prop where
 ex:∃ fn,P.funcs[f]?=some fn∧fn.ntmps=nt∧aae P fn.ntmps fn.results.toList=some res
inductive TJ(P:Program)(ρ:Nat→Int)(μ:Mu):ab→Loc→Obj→Prop
 |cells (L:List AV) (k:CK) (l:Loc) (arr:Array Value) (elem:TypeId) (fz:Nat×Nat)
   (hc:∀ i a,L[i]?=some a→∃ v,arr[l.base+i]?=some v∧bn ρ μ a v)
   (hs:l.base+l.ext≤arr.size) (hl:L.length≤l.ext) (hf:k≠.ro→fz=(0,0)) (he:k≠.part→L.length=l.ext) :
   TJ P ρ μ (.cells L k) l (.cells arr elem fz)
 |map (L:List (AV×AV)) (l:Loc) (es:Array MapEntry) (clock:Nat) (h:tA ρ μ L es.toList) (hb:∀ (i:Nat) (e:MapEntry),es.toList[i]?=some e→e.born=i) (hc:clock=L.length):TJ P ρ μ (.map L) l (.map es clock)
 |mapD (L:List (Nat×AV×AV)) (l:Loc) (es:Array MapEntry) (clock:Nat) (h:mb ρ μ L es.toList):TJ P ρ μ (.mapD L clock) l (.map es clock)
 |iter (m:Key) (n:Nat) (seen:List Nat) (l lm:Loc) (sa:Array Nat) (h:μ m=some lm) (hs:sa.toList=seen) (hz:l.base=0):TJ P ρ μ (.iter m n seen) l (.mapIter (some lm.c) n sa n)
 |loop (st:LS) (pd:Option U) (fn nt:Nat) (tm:T AV) (res:List RV) (params:List Key) (as bd:U) (dfs:Key) (ld:Loc) (l:Loc) (L:Loop)
   (h1:agE st L.state) (h2:∀ n,aaY P n pd L.pending) (h3:L.fn=fn) (h4:pU ρ μ nt tm L.tmps) (h5:abJ params L.params.toList)
   (h5':∀ k∈params,k.toNat<nt) (h6:ajh P nt as L.assign) (h7:ajh P nt bd L.body) (h8:μ dfs=some ld) (h9:L.defers=ld.c) (h10:aji P fn nt res) :
   TJ P ρ μ (.loop st pd fn tm res params as bd dfs) l (.loop L)
 |dfs (taken:Bool) (l:Loc):TJ P ρ μ (.dfs taken) l (.deferred (if taken then none else some []))
 |tok (l:Loc) (arr:Array Value) (elem:TypeId) (hs:l.base+l.ext≤arr.size):TJ P ρ μ .tok l (.cells arr elem (0,0))
theorem pU.mono{ρ:Nat→Int}{μ μ':Mu}(hm:μ.le μ'){nt:Nat}{tm:T AV}{tmps:Array Value}(h:pU ρ μ nt tm tmps):pU ρ μ' nt tm tmps:=
 ⟨h.1,fun k a ha=>let ⟨v,hv,hr⟩:=h.2 k a ha;⟨v,hv,hr.mono hm⟩⟩
theorem tA.mono{ρ:Nat→Int}{μ μ':Mu}(hm:μ.le μ'):∀ {l:List (AV×AV)} {es:List MapEntry},tA ρ μ l es→tA ρ μ' l es
 | [],[],_=>trivial
 |(_,_) ::_,_ ::_,h=>⟨h.1.mono hm,h.2.1.mono hm,tA.mono hm h.2.2⟩
 | [],_ ::_,h=>h.elim
 |(_,_) ::_,[],h=>h.elim
theorem mb.mono{ρ:Nat→Int}{μ μ':Mu}(hm:μ.le μ'):∀ {l:List (Nat×AV×AV)} {es:List MapEntry},mb ρ μ l es→mb ρ μ' l es
 | [],[],_=>trivial
 |(_,_,_) ::_,_ ::_,h=>⟨h.1,h.2.1.mono hm,h.2.2.1.mono hm,mb.mono hm h.2.2.2⟩
 | [],_ ::_,h=>h.elim
 |(_,_,_) ::_,[],h=>h.elim
theorem tA.length{ρ:Nat→Int}{μ:Mu}:∀ {l:List (AV×AV)} {es:List MapEntry},tA ρ μ l es→l.length=es.length
 | [],[],_=>rfl
 |(_,_) ::_,_ ::_,h=>by simp[tA.length h.2.2]
 | [],_ ::_,h=>h.elim
 |(_,_) ::_,[],h=>h.elim
theorem tA.stamps{ρ:Nat→Int}{μ:Mu}:∀ {l:List (AV×AV)} {es:List MapEntry} (n:Nat),tA ρ μ l es→(∀ (i:Nat) (e:MapEntry),es[i]?=some e→e.born=n+i)→mb ρ μ (YM n l) es
 | [],[],_,_,_=>trivial
 |(_,_) ::_,e ::es,n,h,hb=>⟨by simpa using hb 0 e (by simp),h.1,h.2.1,tA.stamps (n+1) h.2.2 fun i e' he=>by have:=hb (i+1) e' (by simpa using he);omega⟩
 | [],_ ::_,_,h,_=>h.elim
 |(_,_) ::_,[],_,h,_=>h.elim
theorem TJ.mono{P:Program}{ρ:Nat→Int}{μ μ':Mu}(hm:μ.le μ'){B:ab}{l:Loc}{o:Obj}(h:TJ P ρ μ B l o):TJ P ρ μ' B l o:=by
 cases h with
 |cells L k l arr elem fz hc hs hl hf he=>
  exact .cells L k l arr elem fz (fun i a ha=>let ⟨v,hv,hr⟩:=hc i a ha;⟨v,hv,hr.mono hm⟩) hs hl hf he
 |map L l es clock h hb hc=>exact .map L l es clock (h.mono hm) hb hc
 |mapD L l es clock h=>exact .mapD L l es clock (h.mono hm)
 |iter m n seen l lm sa h hs hz=>exact .iter m n seen l lm sa (hm.l _ _ h) hs hz
 |loop st pd fn nt tm res params as bd dfs ld l L h1 h2 h3 h4 h5 h5' h6 h7 h8 h9 h10=>
  exact .loop st pd fn nt tm res params as bd dfs ld l L h1 h2 h3 (h4.mono hm) h5 h5' h6 h7 (hm.l _ _ h8) h9 h10
 |dfs taken l=>exact .dfs taken l
 |tok l arr elem hs=>exact .tok l arr elem hs
def ab.ro:ab→Prop
 |.cells _ .ro=>True
 |_=>False
def ab.lo(l:Loc):ab→Option Nat
 |.cells _ .ro=>none
 |.tok=>some l.base
 |_=>some 0
structure W0 extends World where
 z:Nat→Nat→Option Value
structure bG(P:Program)(ρ:Nat→Int)(w0:W0)(μ:Mu)(G:Key→Option ab)(nx:Nat)(w:World):Prop where
 Vo:∀ b B,G b=some B→∃ l o,μ b=some l∧w.heap[l.c]?=some o∧TJ P ρ μ B l o
 sep:∀ b b' B B' l l',G b=some B→G b'=some B'→μ b=some l→μ b'=some l'→b≠b'→l.c≠l'.c
 Cs:∀ b l,μ b=some l→l.c<w.heap.size
 own:∀ b B l,G b=some B→μ b=some l→B.ro∨w0.heap.size≤l.c
 Xk:∀ k:Key,k.toNat<P.globals.size→∃ ext,μ k=some ⟨k.toNat,0,ext⟩
 new:∀ b l,μ b=some l→b.toNat<nx
 below:Below w0.heap.size w0.toWorld w
 fzw:∀ c i v,μ.fz c i=some v→∃ arr elem f,w.heap[c]?=some (.cells arr elem f)∧arr[i]?=some v
 fzf:∀ b B l n,G b=some B→μ b=some l→B.lo l=some n→∀ i,n≤i→μ.fz l.c i=none
 zle:∀ c i v,w0.z c i=some v→μ.fz c i=some v
 fzo:∀ c i v,μ.fz c i=some v→w0.heap.size≤c∨w0.z c i=some v
 rof:∀ b L l,G b=some (.cells L .ro)→μ b=some l→w0.heap.size≤l.c∨∀ arr e f i v,w.heap[l.c]?=some (.cells arr e f)→arr[i]?=some v→μ.fz l.c i=some v
 dr:w0.drawn≤w.drawn
def HSub(h:T ab)(G:Key→Option ab):Prop:=∀ b B,aa b h=some B→G b=some B
end Go.Sx
/-
 SX: how the relation of memories goes on over a new block, a store, a draw; rows of cells read and written. No condition.
-/
namespace Go.Sx
open Go.RowKit
theorem pY:type_of% @Result.andThen_ok:=@Result.andThen_ok
theorem uu:type_of% @Sem.run_bind:=@Sem.run_bind
theorem AP:type_of% @Sem.run_pure:=@Sem.run_pure
structure Touch(w w':World)(c:Nat):Prop where
 os:w'.os=w.os
 tape:w'.tape=w.tape
 output:w'.output=w.output
 size:w.heap.size≤w'.heap.size
 other:∀ k,k≠c→k<w.heap.size→w'.heap[k]?=w.heap[k]?
 dr:w.drawn≤w'.drawn
theorem Touch.refl(w:World)(c:Nat):Touch w w c:=⟨rfl,rfl,rfl,bS _,fun _ _ _=>rfl,bS _⟩
theorem Touch.trans{a b d:World}{c:Nat}(h:Touch a b c)(h':Touch b d c):Touch a d c:=
 ⟨h'.os.trans h.os,h'.tape.trans h.tape,h'.output.trans h.output,Nat.le_trans h.size h'.size,
  fun k hk hs=>(h'.other k hk (YK hs h.size)).trans (h.other k hk hs),Nat.le_trans h.dr h'.dr⟩
theorem Touch.below{a w w':World}{B c:Nat}(h:Touch w w' c)(hb:Below B a w)(hB:B≤w.heap.size)(hc:B≤c):Below B a w':=
 hb.trans ⟨h.os,h.tape,h.output,h.size,fun k hk=>h.other k (by omega) (by omega)⟩
theorem Touch.alloc(w:World)(o:Obj):Touch w (w.alloc o) w.heap.size:=
 ⟨rfl,rfl,rfl,by simp,fun k _ hs=>Below.heap_alloc w o k hs,bS _⟩
theorem Touch.drawn(w:World)(n c:Nat)(hn:w.drawn≤n):Touch w {w with drawn:=n} c:=⟨rfl,rfl,rfl,bS _,fun _ _ _=>rfl,hn⟩
def QK{α:Type}(f:Key→Option α)(k:Key)(x:Option α):Key→Option α:=fun b=>if b.toNat=k.toNat then x else f b
theorem iL{α:Type}(f:Key→Option α)(k:Key)(x:Option α):QK f k x k=x:=by simp[QK]
theorem cg{α:Type}(f:Key→Option α){k b:Key}(x:Option α)(h:b≠k):QK f k x b=f b:=by
 have:b.toNat≠k.toNat:=fun e=>h (Key.toNat_inj e)
 simp[QK,this]
def Mu.put(μ:Mu)(k:Key)(l:Loc):Mu:=⟨QK μ.loc k (some l),μ.fz⟩
theorem Mu.fu(μ:Mu)(k:Key)(l:Loc):(μ.put k l) k=some l:=iL _ _ _
theorem Mu.Co(μ:Mu){k b:Key}(l:Loc)(h:b≠k):(μ.put k l) b=μ b:=cg _ _ h
theorem Mu.HY{μ:Mu}{k:Key}{l:Loc}(hk:μ k=none∨μ k=some l):μ.le (μ.put k l):=by
 refine⟨fun b l' e=>?_,fun _ _ _ h=>h⟩
 by_cases hb:b=k
 ·subst hb
  rw[Mu.fu]
  rcases hk with hk|hk
  ·rw[hk] at e;cases e
  ·rw[hk] at e;exact e
 ·rw[Mu.Co _ _ hb];exact e
section
variable{P:Program}{ρ:Nat→Int}{w0:W0}{w w':World}{μ:Mu}{G G':Key→Option ab}{nx:Nat}
theorem bG.sub(h:bG P ρ w0 μ G nx w)(hs:∀ b B,G' b=some B→G b=some B):bG P ρ w0 μ G' nx w:=
 ⟨fun b B e=>h.Vo b B (hs b B e),fun b b' B B' l l' e e'=>h.sep b b' B B' l l' (hs _ _ e) (hs _ _ e'),h.Cs,fun b B l e=>h.own b B l (hs _ _ e),h.Xk,h.new,h.below,h.fzw,fun b B l n e=>h.fzf b B l n (hs _ _ e),h.zle,h.fzo,fun b L l e=>h.rof b L l (hs _ _ e),h.dr⟩
theorem bG.avZ{nx':Nat}(h:bG P ρ w0 μ G nx w)(hn:nx≤nx'):bG P ρ w0 μ G nx' w:=
 ⟨h.Vo,h.sep,h.Cs,h.own,h.Xk,fun b l e=>YK (h.new b l e) hn,h.below,h.fzw,h.fzf,h.zle,h.fzo,h.rof,h.dr⟩
theorem bG.drawn(h:bG P ρ w0 μ G nx w)(n:Nat)(hn:w.drawn≤n):bG P ρ w0 μ G nx {w with drawn:=n}:=
 ⟨h.Vo,h.sep,h.Cs,h.own,h.Xk,h.new,h.below.trans ⟨rfl,rfl,rfl,bS _,fun _ _=>rfl⟩,h.fzw,h.fzf,h.zle,h.fzo,h.rof,Nat.le_trans h.dr hn⟩
theorem bG.akl(h:bG P ρ w0 μ G nx w)(n:Nat):bG P ρ {w0 with drawn:=0} μ G nx {w with drawn:=n}:=
 ⟨h.Vo,h.sep,h.Cs,h.own,h.Xk,h.new,⟨h.below.os,h.below.tape,h.below.output,h.below.size,h.below.block⟩,h.fzw,h.fzf,h.zle,h.fzo,h.rof,Nat.zero_le _⟩
theorem bG.afK(h:bG P ρ w0 μ G nx w)(i:Nat):μ.fz w.heap.size i=none:=by
 cases e:μ.fz w.heap.size i with
 |none=>rfl
 |some v=>
  obtain⟨arr,elem,f,h1,_⟩:=h.fzw _ _ _ e
  simp at h1
theorem bG.put(h:bG P ρ w0 μ G nx w)(k:Key)(B:ab)(l:Loc)(o:Obj){nx':Nat}
  (hk:μ k=none∨μ k=some l) (hw:Touch w w' l.c) (ho:w'.heap[l.c]?=some o)
  (hB:TJ P ρ (μ.put k l) B l o) (SN:∀ b B' l',G b=some B'→μ b=some l'→b≠k→l'.c≠l.c)
  (mO:w0.heap.size≤l.c) (hn:nx≤nx') (Ur:k.toNat<nx') (hz:∀ i,μ.fz l.c i=none) :
  μ.le (μ.put k l)∧bG P ρ w0 (μ.put k l) (QK G k (some B)) nx' w':=by
 have hle:μ.le (μ.put k l):=Mu.HY hk
 have hlc:l.c<w'.heap.size:=by
  rcases Ts l.c w'.heap.size with h'|h'
  ·exact h'
  ·rw[zqj h'] at ho;cases ho
 have tF:w0.heap.size≤w.heap.size:=h.below.size
 refine⟨hle,?_,?_,?_,?_,?_,?_,hw.below h.below tF mO,?_,?_,h.zle,h.fzo,?_,Nat.le_trans h.dr hw.dr⟩
 ·intro b B' e
  by_cases hb:b=k
  ·subst hb
   rw[iL] at e
   cases e
   exact⟨l,o,Mu.fu _ _ _,ho,hB⟩
  ·rw[cg _ _ hb] at e
   obtain⟨l',o',h1,h2,h3⟩:=h.Vo b B' e
   refine⟨l',o',by rw[Mu.Co _ _ hb];exact h1,?_,h3.mono hle⟩
   rw[hw.other l'.c (SN b B' l' e h1 hb) (h.Cs b l' h1)]
   exact h2
 ·intro b b' B1 B2 l1 l2 e1 e2 m1 m2 eM
  by_cases hb:b=k
  ·subst hb
   rw[Mu.fu] at m1;cases m1
   have kO:b'≠b:=fun e=>eM e.symm
   rw[cg _ _ kO] at e2
   rw[Mu.Co _ _ kO] at m2
   exact fun e=>SN b' B2 l2 e2 m2 kO e.symm
  ·rw[cg _ _ hb] at e1
   rw[Mu.Co _ _ hb] at m1
   by_cases kO:b'=k
   ·subst kO
    rw[Mu.fu] at m2;cases m2
    exact SN b B1 l1 e1 m1 hb
   ·rw[cg _ _ kO] at e2
    rw[Mu.Co _ _ kO] at m2
    exact h.sep b b' B1 B2 l1 l2 e1 e2 m1 m2 eM
 ·intro b l' e
  by_cases hb:b=k
  ·subst hb;rw[Mu.fu] at e;cases e;exact hlc
  ·rw[Mu.Co _ _ hb] at e;exact YK (h.Cs b l' e) hw.size
 ·intro b B' l' e m
  by_cases hb:b=k
  ·subst hb;rw[Mu.fu] at m;cases m;exact .inr mO
  ·rw[cg _ _ hb] at e;rw[Mu.Co _ _ hb] at m;exact h.own b B' l' e m
 ·intro b hb
  obtain⟨ext,he⟩:=h.Xk b hb
  exact⟨ext,hle.l _ _ he⟩
 ·intro b l' e
  by_cases hb:b=k
  ·subst hb;exact Ur
  ·rw[Mu.Co _ _ hb] at e;exact YK (h.new b l' e) hn
 ·intro c i v e
  have e:μ.fz c i=some v:=e
  obtain⟨arr,elem,f,h1,h2⟩:=h.fzw c i v e
  have hc:c≠l.c:=by intro hc;subst hc;rw[hz i] at e;cases e
  have aM:c<w.heap.size:=by
   rcases Ts c w.heap.size with h'|h'
   ·exact h'
   ·rw[zqj h'] at h1;cases h1
  exact⟨arr,elem,f,by rw[hw.other c hc aM];exact h1,h2⟩
 ·intro b B' l' n e m vj i hi
  show μ.fz l'.c i=none
  by_cases hb:b=k
  ·subst hb;rw[Mu.fu] at m;cases m;exact hz i
  ·rw[cg _ _ hb] at e;rw[Mu.Co _ _ hb] at m;exact h.fzf b B' l' n e m vj i hi
 ·intro b L l' e m
  by_cases hb:b=k
  ·subst hb;rw[Mu.fu] at m;cases m;exact .inl mO
  ·rw[cg _ _ hb] at e;rw[Mu.Co _ _ hb] at m
   rcases h.rof b L l' e m with h1|h1
   ·exact .inl h1
   ·refine .inr fun arr ee f i v ha hv=>h1 arr ee f i v ?_ hv
    rw[← hw.other l'.c (SN b _ l' e m hb) (h.Cs b l' m)];exact ha
theorem bG.alloc(h:bG P ρ w0 μ G nx w)(k:Key)(B:ab)(o:Obj)(ext:Nat){nx':Nat}(hk:μ k=none)
  (hB:TJ P ρ (μ.put k ⟨w.heap.size,0,ext⟩) B ⟨w.heap.size,0,ext⟩ o) (hn:nx≤nx') (Ur:k.toNat<nx') :
  μ.le (μ.put k ⟨w.heap.size,0,ext⟩)∧bG P ρ w0 (μ.put k ⟨w.heap.size,0,ext⟩) (QK G k (some B)) nx' (w.alloc o):=
 h.put k B ⟨w.heap.size,0,ext⟩ o (.inl hk) (Touch.alloc w o) (by show(w.heap.push o)[w.heap.size]?=some o;simp) hB
  (fun b B' l' _ m _=>Nat.ne_of_lt (h.Cs b l' m)) h.below.size hn Ur h.afK
theorem HSub.set{h:T ab}(hs:HSub h G)(k:Key)(B:Option ab):HSub (aK k B h) (QK G k B):=by
 intro b B' e
 by_cases hb:b=k
 ·subst hb;rw[gTSm] at e;rw[iL];exact e
 ·rw[bU _ _ _ _ hb] at e;rw[cg _ _ hb];exact hs b B' e
theorem bG.cells(h:bG P ρ w0 μ G nx w){b:Key}{L:List AV}{k:CK}(hb:G b=some (.cells L k)) :
  ∃ l arr elem fz,μ b=some l∧w.heap[l.c]?=some (.cells arr elem fz)∧(∀ i a,L[i]?=some a→∃ v,arr[l.base+i]?=some v∧bn ρ μ a v)∧
   l.base+l.ext≤arr.size∧L.length≤l.ext∧(k≠.ro→fz=(0,0))∧(k≠.part→L.length=l.ext):=by
 obtain⟨l,o,h1,h2,h3⟩:=h.Vo b _ hb
 cases h3 with
 |cells L k l arr elem fz hc hs hl hf he=>exact⟨l,arr,elem,fz,h1,h2,hc,hs,hl,hf,he⟩
theorem bG.lo0(h:bG P ρ w0 μ G nx w){b:Key}{B:ab}(hb:G b=some B){l:Loc}(hl:μ b=some l)(vj:B.lo l=some 0)(i:Nat):μ.fz l.c i=none:=
 h.fzf b B l 0 hb hl vj i (Nat.zero_le _)
end
theorem z6(c o n:Nat):(⟨c,o,none⟩:Addr).add n=⟨c,o+n,none⟩:=by
 unfold Addr.add
 split
 ·rename_i h;subst h;rfl
 ·rfl
theorem XT{w:World}{c:Nat}{arr:Array Value}{elem:TypeId}{fz:Nat×Nat}(h:w.heap[c]?=some (.cells arr elem fz))(o:Nat) :
  w.cell? ⟨c,o,none⟩=arr[o]?:=by
 simp[World.cell?,h]
theorem HO(P:Program)(w:World)(c o:Nat)(arr:Array Value)(elem:TypeId)(fz:Nat×Nat)(hc:w.heap[c]?=some (.cells arr elem fz)) :
  ∀ (n i:Nat) (acc:Array Value),o+i+n≤arr.size→
   (loadCellsFrom ⟨c,o,none⟩ i n acc).run P w=.ok (acc++((arr.toList.drop (o+i)).take n).toArray) w
 |0,i,acc,_=>by simp[loadCellsFrom]
 |n+1,i,acc,h=>by
  have aM:o+i<arr.size:=by omega
  have Jk:w.cell? ⟨c,o+i,none⟩=some arr[o+i]:=by rw[XT hc];simp[aM]
  simp only[loadCellsFrom,uu,run_load,z6,Jk,pY]
  rw[HO P w c o arr elem fz hc n (i+1) _ (by omega)]
  have hd:arr.toList.drop (o+i)=arr[o+i] ::arr.toList.drop (o+(i+1)):=by
   rw[zqt (by simpa using aM)]
   simp[Nat.add_assoc]
  rw[hd]
  apply congrArg (fun x=>Result.ok x w)
  apply Array.ext'
  simp
theorem pH(P:Program)(w:World)(c o:Nat)(arr:Array Value)(elem:TypeId)(fz:Nat×Nat)(hc:w.heap[c]?=some (.cells arr elem fz))(n:Nat)(h:o+n≤arr.size) :
  (loadCells ⟨c,o,none⟩ n).run P w=.ok ((arr.toList.drop o).take n).toArray w:=by
 have:=HO P w c o arr elem fz hc n 0 #[] (by omega)
 simpa[loadCells] using this
def uk(arr:Array Value)(o:Nat):List Value→Array Value
 | []=>arr
 |v ::vs=>uk (arr.setIfInBounds o v) (o+1) vs
theorem AL:∀ (vs:List Value) (arr:Array Value) (o:Nat),(uk arr o vs).size=arr.size
 | [],_,_=>rfl
 |v ::vs,arr,o=>by simp[uk,AL vs]
theorem tv:∀ (vs:List Value) (arr:Array Value) (o j:Nat),o+vs.length≤arr.size→
  (uk arr o vs)[j]?=if o≤j∧j<o+vs.length then vs[j-o]? else arr[j]?
 | [],arr,o,j,_=>by
  have:¬ (o≤j∧j<o+([]:List Value).length):=by simp
  rw[if_neg this];rfl
 |v ::vs,arr,o,j,h=>by
  simp only[Tj] at h
  rw[uk,tv vs _ (o+1) j (by simp;omega)]
  simp only[Tj]
  by_cases hj:o=j
  ·subst hj
   rw[if_neg (by omega),if_pos (by omega)]
   have:o<arr.size:=by omega
   simp[this]
  ·by_cases h1:o+1≤j∧j<o+1+vs.length
   ·rw[if_pos h1,if_pos (by omega)]
    have:j-o=(j-(o+1))+1:=by omega
    rw[this];simp
   ·rw[if_neg h1,if_neg (by omega),zqn hj]
theorem xu(P:Program)(c o:Nat)(elem:TypeId):∀ (vs:List Value) (i:Nat) (w:World) (arr:Array Value),
  w.heap[c]?=some (.cells arr elem (0,0))→o+i+vs.length≤arr.size→(∀ v∈vs,v.oneCell'=true)→
  ∃ w',(storeCells ⟨c,o,none⟩ vs i).run P w=.ok () w'∧Touch w w' c∧w'.heap.size=w.heap.size∧w'.heap[c]?=some (.cells (uk arr (o+i) vs) elem (0,0))
 | [],i,w,arr,hc,_,_=>⟨w,rfl,Touch.refl w c,rfl,hc⟩
 |v ::vs,i,w,arr,hc,hs,hv=>by
  simp only[Tj] at hs
  have aM:o+i<arr.size:=by omega
  have Jk:w.cell? ⟨c,o+i,none⟩=some arr[o+i]:=by rw[XT hc];simp[aM]
  have hfz:w.frozen? ⟨c,o+i,none⟩=false:=by simp[World.frozen?,hc]
  have ON:c<w.heap.size:=by
   rcases Ts c w.heap.size with h'|h'
   ·exact h'
   ·rw[zqj h'] at hc;cases hc
  have hc':(w.setCell ⟨c,o+i,none⟩ v).heap[c]?=some (.cells (arr.setIfInBounds (o+i) v) elem (0,0)):=by
   simp[World.setCell,Array.getElem?_modify,hc]
  obtain⟨w',h1,h2,h3,h4⟩:=xu P c o elem vs (i+1) (w.setCell ⟨c,o+i,none⟩ v) _ hc' (by simp;omega) (fun u hu=>hv u (by simp[hu]))
  refine⟨w',?_,?_,?_,?_⟩
  ·simp only[storeCells,uu,z6,run_store P w _ v _ (hv v (by simp)),Jk,hfz,Yz,if_false,pY]
   exact h1
  ·have ht:Touch w (w.setCell ⟨c,o+i,none⟩ v) c:=⟨rfl,rfl,rfl,by simp,fun k hk _=>Below.heap_setCell w ⟨c,o+i,none⟩ v k hk,bS _⟩
   exact ht.trans h2
  ·rw[h3];simp
  ·rw[h4,uk,Nat.add_assoc]
end Go.Sx
/-
 SX: an operation that leaves memory alone: what the abstract machine computes stands for what the model computes. No condition.
-/
namespace Go.Sx
open Go.RowKit
section
variable{P:Program}{w:World}
theorem ag{t:TypeId}{d:TypeDesc}(h:P.underlying t=some d):(underlying t).run P w=.ok d w:=by
 simp[underlying,h]
theorem pG{t:TypeId}{i:TypeInfo}(h:P.info? t=some i):(typeInfo t).run P w=.ok i w:=by
 simp[typeInfo,h]
theorem bL{t:TypeId}{i:TypeInfo}(h:P.info? t=some i):(sizeOf t).run P w=.ok i.size w:=by
 simp[sizeOf,pG h]
theorem vC{t:TypeId}{i:TypeInfo}{z:Value}(h:P.info? t=some i)(hz:i.zero=some z):(zeroValue t).run P w=.ok z w:=by
 simp[zeroValue,pG h,hz]
def YC:TypeDesc→Bool
 |.struct _=>true
 |.array _ _=>true
 |_=>false
theorem yC{t:TypeId}{d:TypeDesc}(h:P.underlying t=some d):(isAgg t).run P w=.ok (YC d) w:=by
 simp only[isAgg,uu,ag h,pY]
 cases d<;>rfl
end
theorem oY{P:Program}{t:TypeId}{ti:TI}(h:tyI P t=some ti) :
  ∃ i d z,P.info? t=some i∧P.underlying t=some d∧i.zero=some z∧qB Bt z=some ti.zero∧ti.size=i.size∧ti.agg=YC d:=by
 unfold tyI at h
 split at h
 ·rename_i i d hi hd
  split at h
  ·rename_i z hz
   split at h
   ·rename_i a ha
    simp only[dO] at h
    subst h
    exact⟨i,d,z,hi,hd,hz,ha,rfl,by cases d<;>rfl⟩
   ·simp at h
  ·simp at h
 ·simp at h
section
variable{P:Program}{ρ:Nat→Int}{w0:W0}{w:World}{μ:Mu}{G:Key→Option ab}{nx:Nat}
theorem Ei{L:List AV}{base:Nat}{arr:Array Value}(hc:∀ i a,L[i]?=some a→∃ v,arr[base+i]?=some v∧bn ρ μ a v)
  (hs:base+L.length≤arr.size) {off n:Nat} (h:off+n≤L.length) :
  aB ρ μ ((L.drop off).take n) ((arr.toList.drop (base+off)).take n):=by
 refine aB.abW ?_ ?_
 ·simp;omega
 ·intro i a ha
  have hi:i<n:=by
   rcases Ts i n with h'|h'
   ·exact h'
   ·rw[zqo (by simp;omega)] at ha;cases ha
  rw[List.getElem?_take_of_lt hi,List.getElem?_drop] at ha
  obtain⟨v,hv,hr⟩:=hc (off+i) a ha
  refine⟨v,?_,hr⟩
  rw[List.getElem?_take_of_lt hi,List.getElem?_drop]
  simpa[Nat.add_assoc] using hv
theorem VF{off n:Nat}{L:List AV}{a:AV}(h:Ek true off n L=some a):a=.agg ((L.drop off).take n)∧(off+n≤L.length∨(n=0∧L.length<off)):=by
 simp only[Ek,cond_true,takeC_eq,dropL_eq] at h
 split at h
 ·rename_i hn
  simp only[dO] at h
  refine⟨h.symm,?_⟩
  simp at hn
  omega
 ·cases h
theorem VG{off n:Nat}{L:List AV}{a:AV}(h:Ek false off n L=some a):L[off]?=some a:=by
 simpa only[Ek,cond_false,nth_eq] using h
theorem RY(hM:bG P ρ w0 μ G nx w){b:Key}{L:List AV}{k:CK}(hb:G b=some (.cells L k)){t:TypeId}{i:TypeInfo}{d:TypeDesc}
  (hi:P.info? t=some i) (hd:P.underlying t=some d) {off:Nat} {a:AV} (hp:Ek (YC d) off i.size L=some a) {l:Loc} (hl:μ b=some l) :
  ∃ v,(loadVar t ⟨l.c,l.base+off,none⟩).run P w=.ok v w∧bn ρ μ a v:=by
 obtain⟨l',arr,elem,fz,h1,h2,hc,hs,hle,_⟩:=hM.cells hb
 rw[hl] at h1;cases h1
 simp only[loadVar,uu,yC hd,pY]
 cases YD:YC d with
 |true=>
  rw[YD] at hp
  obtain⟨rfl,hn⟩:=VF hp
  by_cases h0:i.size=0
  ·refine⟨.agg #[],?_,?_⟩
   ·simp[bL hi,h0,loadCells,loadCellsFrom]
   ·rw[h0];simp only[List.take_zero];exact .agg _ _ .nil
  ·have hn:off+i.size≤L.length:=by omega
   refine⟨.agg ((arr.toList.drop (l.base+off)).take i.size).toArray,?_,.agg _ _ ?_⟩
   ·simp only[if_true,uu,bL hi,pY,pH P w l.c (l.base+off) arr elem fz h2 i.size (by omega),AP]
   ·simpa using Ei hc (by omega) hn
 |false=>
  rw[YD] at hp
  obtain⟨v,hv,hr⟩:=hc off a (VG hp)
  refine⟨v,?_,hr⟩
  simp only[Yz,if_false,run_load,XT h2,hv]
theorem ady(hM:bG P ρ w0 μ G nx w){c o:Nat}{vs:List Value}(hf:∀ i v,vs[i]?=some v→μ.fz c (o+i)=some v)(eM:0<vs.length) :
  ∃ arr elem f,w.heap[c]?=some (.cells arr elem f)∧∀ i v,vs[i]?=some v→arr[o+i]?=some v:=by
 obtain⟨v,hv⟩:∃ v,vs[0]?=some v:=⟨vs[0],by simp[eM]⟩
 obtain⟨arr,elem,f,h1,_⟩:=hM.fzw _ _ _ (hf 0 v hv)
 refine⟨arr,elem,f,h1,fun i u hu=>?_⟩
 obtain⟨Tv,aa2,f',h2,h3⟩:=hM.fzw _ _ _ (hf i u hu)
 rw[h1] at h2;cases h2
 exact h3
theorem XU(hM:bG P ρ w0 μ G nx w){c o:Nat}{vs:List Value}(hf:∀ i v,vs[i]?=some v→μ.fz c (o+i)=some v){n:Nat}(hn:n≤vs.length) :
  (loadCells ⟨c,o,none⟩ n).run P w=.ok (vs.take n).toArray w:=by
 by_cases h0:n=0
 ·subst h0;simp[loadCells,loadCellsFrom]
 ·obtain⟨arr,elem,f,h1,h2⟩:=ady hM hf (by omega)
  have ajz:o+n≤arr.size:=by
   have h3:=h2 (n-1) vs[n-1] (by simp)
   rcases Ts (o+(n-1)) arr.size with h'|h'
   ·omega
   ·rw[zqj h'] at h3;cases h3
  rw[pH P w c o arr elem f h1 n ajz]
  congr 1
  congr 1
  apply List.ext_getElem?
  intro i
  by_cases hi:i<n
  ·rw[List.getElem?_take_of_lt hi,List.getElem?_take_of_lt hi,List.getElem?_drop]
   have hv:vs[i]?=some (vs[i]'(by omega)):=by simp
   rw[hv]
   simpa using h2 i _ hv
  ·rw[zqo (by simp;omega),zqo (by simp;omega)]
theorem OP{c o:Nat}{vs:List Value}(hf:∀ i v,vs[i]?=some v→μ.fz c (o+i)=some v)(off:Nat):∀ i v,(vs.drop off)[i]?=some v→μ.fz c (o+off+i)=some v:=by
 intro i v h
 rw[List.getElem?_drop] at h
 rw[Nat.add_assoc];exact hf _ _ h
theorem abY{c o:Nat}{vs:List Value}(hf:∀ i v,vs[i]?=some v→μ.fz c (o+i)=some v)(n:Nat):∀ i v,(vs.take n)[i]?=some v→μ.fz c (o+i)=some v:=by
 intro i v h
 by_cases hi:i<n
 ·rw[List.getElem?_take_of_lt hi] at h;exact hf _ _ h
 ·rw[zqo (by simp;omega)] at h;cases h
theorem afc(hM:bG P ρ w0 μ G nx w){l:List AV}{vs:List Value}(hr:aB ρ μ l vs){c o:Nat}(hf:∀ i v,vs[i]?=some v→μ.fz c (o+i)=some v){t:TypeId}{i:TypeInfo}{d:TypeDesc}
  (hi:P.info? t=some i) (hd:P.underlying t=some d) {a:AV} (hp:Ek (YC d) 0 i.size l=some a) :
  ∃ v,(loadVar t ⟨c,o,none⟩).run P w=.ok v w∧bn ρ μ a v:=by
 simp only[loadVar,uu,yC hd,pY]
 have hlen:=hr.length
 cases YD:YC d with
 |true=>
  rw[YD] at hp
  obtain⟨rfl,hn⟩:=VF hp
  have hn:i.size≤vs.length:=by omega
  refine⟨.agg (vs.take i.size).toArray,?_,.agg _ _ ?_⟩
  ·simp only[if_true,uu,bL hi,pY,XU hM hf hn,AP]
  ·simpa using hr.take i.size
 |false=>
  rw[YD] at hp
  obtain⟨v,hv,hvr⟩:=hr.get 0 a (VG hp)
  obtain⟨arr,elem,f,h1,h2⟩:=ady hM hf (by
   rcases Nat.eq_zero_or_pos vs.length with h'|h'
   ·rw[zqr h'] at hv;cases hv
   ·exact h')
  refine⟨v,?_,hvr⟩
  have:=h2 0 v hv
  simp only[Yz,if_false,run_load,XT h1,Nat.add_zero] at this ⊢
  simp only[this]
theorem YE{t:TypeId}{i:TypeInfo}{d:TypeDesc}(hi:P.info? t=some i)(hd:P.underlying t=some d){off:Nat}{L:List AV}{vs:Array Value}(hL:aB ρ μ L vs.toList)
  {a:AV} (hp:Ek (YC d) off i.size L=some a):∃ v,(part t vs off).run P w=.ok v w∧bn ρ μ a v:=by
 simp only[part,uu,yC hd,pY]
 cases YD:YC d with
 |true=>
  rw[YD] at hp
  obtain⟨rfl,hn⟩:=VF hp
  refine⟨.agg (vs.extract off (off+i.size)),?_,.agg _ _ ?_⟩
  ·simp[bL hi]
  ·have:(vs.extract off (off+i.size)).toList=(vs.toList.drop off).take i.size:=by
    simp[List.extract]
   rw[this]
   exact(hL.drop off).take i.size
 |false=>
  rw[YD] at hp
  obtain⟨v,hv,hr⟩:=hL.get off a (VG hp)
  refine⟨v,?_,hr⟩
  have:vs[off]?=some v:=by simpa using hv
  simp[this]
end
end Go.Sx
/-
 SX: integers and strings of the abstract machine against the model's. No condition.
-/
namespace Go.Sx
open Go.RowKit
def Gl(op:BinOp)(x y:Int):Option Bool:=
 match op with
 |.eql=>some (x==y)
 |.neq=>some (x != y)
 |.lss=>some (decide (x<y))
 |.leq=>some (decide (x≤y))
 |.gtr=>some (decide (x>y))
 |.geq=>some (decide (x≥y))
 |_=>none
def jt(ρ:Nat→Int)(orc:pF):Prop:=∀ op a b r,orc.ask op a b=some r→Gl op (a.den ρ) (b.den ρ)=some r
theorem jt.nil(ρ:Nat→Int):jt ρ []:=by
 intro op a b r h;cases h
theorem jt.cons{ρ:Nat→Int}{orc:pF}{o:BinOp}{x y:SI}{r:Bool}(h:Gl o (x.den ρ) (y.den ρ)=some r)(h':jt ρ orc):jt ρ ((o,x,y,r) ::orc):=by
 intro op a b r' e
 simp only[pF.ask] at e
 cases hc:ab6 o op&&SI.beq x a&&SI.beq y b with
 |false=>rw[hc] at e;exact h' op a b r' e
 |true=>
  rw[hc] at e
  simp only[cond_true,dO] at e
  simp only[Ad] at hc
  rw[← abn hc.1.1,← SI.eq_of_beq hc.1.2,← SI.eq_of_beq hc.2,← e]
  exact h
theorem Gk{ρ:Nat→Int}{orc:pF}(ho:jt ρ orc){op:BinOp}{a b:SI}{r:Bool}(h:VK orc op a b=some r):Gl op (a.den ρ) (b.den ρ)=some r:=by
 unfold VK at h
 split at h
 ·rename_i x y
  simp only[SI.den]
  cases op<;>simp only[eqI_eq,ZE,dO] at h<;>first|(cases h;done)|skip
  all_goals simp only[Gl,dO]
  all_goals subst h
  all_goals first|rfl|skip
  ·simp[← decide_not,Int.not_lt]
  ·simp[← decide_not,Int.not_lt]
 ·cases hb:SI.beq a b with
  |false=>rw[hb] at h;exact ho op a b r h
  |true=>
   rw[hb] at h
   rw[SI.eq_of_beq hb]
   simp only[cond_true] at h
   cases op<;>simp only[dO] at h<;>first|(cases h;done)|skip
   all_goals subst h
   all_goals simp[Gl]
theorem agp{P:Program}{w:World}{op:BinOp}{x y:Int}{r:Bool}(h:Gl op x y=some r):(Op.intCmp op x y).run P w=.ok (.bool r) w:=by
 cases op<;>simp only[Gl,dO] at h<;>first|(cases h;done)|(subst h;rfl)
theorem wrap_u64(x:Nat):IntKind.wrap .u64 ((x%2^64:Nat):Int)=Int.emod (.ofNat x) 18446744073709551616:=by
 simp only[IntKind.wrap,IntKind.signed,IntKind.bits,Bool.false_and,Yz,if_false]
 show((x%2^64:Nat):Int)%2^64=(x:Int)%18446744073709551616
 omega
theorem axR(m n:Nat):IntKind.wrap .u64 ((BitVec.ofInt 64 (Int.ofNat m) &&& BitVec.ofInt 64 (Int.ofNat n)).toNat:Int)=Int.emod (.ofNat (Nat.land m n)) 18446744073709551616:=by
 rw[← wrap_u64]
 show IntKind.wrap .u64 ((BitVec.ofInt 64 (m:Int) &&& BitVec.ofInt 64 (n:Int)).toNat:Int)=IntKind.wrap .u64 (((m &&& n)%2^64:Nat):Int)
 rw[BitVec.ofInt_natCast,BitVec.ofInt_natCast,BitVec.toNat_and,BitVec.toNat_ofNat,BitVec.toNat_ofNat,Nat.and_mod_two_pow]
theorem aG8(m n:Nat):IntKind.wrap .u64 ((BitVec.ofInt 64 (Int.ofNat m) ||| BitVec.ofInt 64 (Int.ofNat n)).toNat:Int)=Int.emod (.ofNat (Nat.lor m n)) 18446744073709551616:=by
 rw[← wrap_u64]
 show IntKind.wrap .u64 ((BitVec.ofInt 64 (m:Int) ||| BitVec.ofInt 64 (n:Int)).toNat:Int)=IntKind.wrap .u64 (((m ||| n)%2^64:Nat):Int)
 rw[BitVec.ofInt_natCast,BitVec.ofInt_natCast,BitVec.toNat_or,BitVec.toNat_ofNat,BitVec.toNat_ofNat,Nat.or_mod_two_pow]
theorem axS(m n:Nat):IntKind.wrap .u64 ((BitVec.ofInt 64 (Int.ofNat m) ^^^ BitVec.ofInt 64 (Int.ofNat n)).toNat:Int)=Int.emod (.ofNat (Nat.xor m n)) 18446744073709551616:=by
 rw[← wrap_u64]
 show IntKind.wrap .u64 ((BitVec.ofInt 64 (m:Int) ^^^ BitVec.ofInt 64 (n:Int)).toNat:Int)=IntKind.wrap .u64 (((m ^^^ n)%2^64:Nat):Int)
 rw[BitVec.ofInt_natCast,BitVec.ofInt_natCast,BitVec.toNat_xor,BitVec.toNat_ofNat,BitVec.toNat_ofNat,Nat.xor_mod_two_pow]
theorem agu(k:IntKind)(x:Int):(BitVec.ofInt k.bits x).toNat=loB k x:=by
 rw[BitVec.toNat_ofInt]
 unfold loB
 cases k<;>rfl
theorem WS{ρ:Nat→Int}{P:Program}{w:World}{op:BinOp}{k:IntKind}{a b s:SI}(t:TypeId)(h:arith op k a b=some s) :
  (binOp op t (.int k (a.den ρ)) (.int k (b.den ρ))).run P w=.ok (.int k (s.den ρ)) w:=by
 unfold arith at h
 split at h
 ·rename_i x y
  simp only[SI.den]
  cases op<;>simp only[dO] at h<;>first|(cases h;done)|skip
  ·subst h;simp only[SI.den,nu];simp[binOp,Op.intArith]
  ·subst h;simp only[SI.den,nu];simp[binOp,Op.intArith];rfl
  ·subst h;simp only[SI.den,nu];simp[binOp,Op.intArith]
  ·rw[eqI_eq] at h
   cases hy:(y==0) with
   |true=>rw[hy] at h;cases h
   |false=>
    rw[hy] at h
    simp only[cond_false,dO] at h
    subst h
    have:y≠0:=by simpa using hy
    simp[SI.den,nu,binOp,Op.intDiv,this]
  ·rw[eqI_eq] at h
   cases hy:(y==0) with
   |true=>rw[hy] at h;cases h
   |false=>
    rw[hy] at h
    simp only[cond_false,dO] at h
    subst h
    have:y≠0:=by simpa using hy
    simp[SI.den,binOp,Op.intDiv,this]
  ·split at h
   ·rename_i m n
    simp only[dO] at h
    subst h
    simp only[SI.den,binOp,ne_eq,not_true_eq_false,if_false,Op.intBits,AP,Result.ok.injEq,Value.int.injEq,true_and,and_true]
    exact axR m n
   ·simp only[dO] at h
    subst h
    simp only[SI.den,binOp,ne_eq,not_true_eq_false,if_false,Op.intBits,AP,Result.ok.injEq,Value.int.injEq,true_and,and_true,BitVec.toNat_and,agu,nu]
    rfl
  ·split at h
   ·rename_i m n
    simp only[dO] at h
    subst h
    simp only[SI.den,binOp,ne_eq,not_true_eq_false,if_false,Op.intBits,AP,Result.ok.injEq,Value.int.injEq,true_and,and_true]
    exact aG8 m n
   ·simp only[dO] at h
    subst h
    simp only[SI.den,binOp,ne_eq,not_true_eq_false,if_false,Op.intBits,AP,Result.ok.injEq,Value.int.injEq,true_and,and_true,BitVec.toNat_or,agu,nu]
    rfl
  ·split at h
   ·rename_i m n
    simp only[dO] at h
    subst h
    simp only[SI.den,binOp,ne_eq,not_true_eq_false,if_false,Op.intBits,AP,Result.ok.injEq,Value.int.injEq,true_and,and_true]
    exact axS m n
   ·simp only[dO] at h
    subst h
    simp only[SI.den,binOp,ne_eq,not_true_eq_false,if_false,Op.intBits,AP,Result.ok.injEq,Value.int.injEq,true_and,and_true,BitVec.toNat_xor,agu,nu]
    rfl
 ·split at h
  ·cases h;simp[SI.den,binOp,Op.intArith]
  ·cases h;simp[SI.den,binOp,Op.intArith]
  ·cases h;simp[SI.den,binOp,Op.intArith]
  ·cases h
theorem acS{k:IntKind}{n:Nat}(h:ajN k n=true):n≤k.bits:=by
 cases k<;>simpa[ajN,IntKind.bits,Nat.ble_eq] using h
theorem agv(a b:List UInt8):enc (a++b)=enc a+256^a.length*enc b:=by
 induction a with
 |nil=>simp[enc]
 |cons x a ih=>simp only[List.cons_append,enc,ih,Tj,Nat.pow_succ];rw[Nat.mul_add,← Nat.mul_assoc,Nat.mul_comm 256 (256^a.length)];omega
theorem aei(l:List UInt8)(i:Nat):enc (l.drop i)=enc l / 256^i:=by
 induction i generalizing l with
 |zero=>simp
 |succ i ih=>
  cases l with
  |nil=>simp[enc]
  |cons x l=>
   have hx:x.toNat<256:=x.toNat_lt
   simp only[List.drop_succ_cons,ih l,enc,Nat.pow_succ]
   rw[Nat.mul_comm (256^i) 256,← Nat.div_div_eq_div_mul]
   congr 1
   omega
theorem ak1(l:List UInt8)(n:Nat):enc (l.take n)=enc l%256^n:=by
 induction n generalizing l with
 |zero=>simp[enc,Nat.mod_one]
 |succ n ih=>
  cases l with
  |nil=>simp[enc]
  |cons x l=>
   have hx:x.toNat<256:=x.toNat_lt
   simp only[List.take_succ_cons,enc,ih l,Nat.pow_succ]
   rw[Nat.mul_comm (256^n) 256]
   have hp:0<256^n:=Nat.pow_pos (by omega)
   have:=Nat.mod_mul (x:=x.toNat+256*enc l) (a:=256) (b:=256^n)
   rw[this]
   have h1:(x.toNat+256*enc l)%256=x.toNat:=by omega
   have h2:(x.toNat+256*enc l) / 256=enc l:=by omega
   rw[h1,h2]
theorem ans(l:List UInt8)(i:Nat)(h:i<l.length):enc l / 256^i%256=(l[i]).toNat:=by
 rw[← aei,zqt h]
 have hx:(l[i]).toNat<256:=(l[i]).toNat_lt
 simp only[enc]
 omega
theorem abP:∀ {a b:List UInt8},a.length=b.length→enc a=enc b→a=b
 | [],[],_,_=>rfl
 | [],_ ::_,h,_=>by simp at h
 |_ ::_,[],h,_=>by simp at h
 |x ::a,y ::b,h,he=>by
  have hx:x.toNat<256:=x.toNat_lt
  have hy:y.toNat<256:=y.toNat_lt
  simp only[enc] at he
  have h1:x.toNat=y.toNat:=by omega
  have h2:enc a=enc b:=by omega
  rw[UInt8.toNat_inj.1 h1,abP (by simpa using h) h2]
theorem acH(n:Nat):2^(8*n)=256^n:=by rw[Nat.pow_mul]
theorem Yh(a b:List UInt8):(Nat.beq a.length b.length&&Nat.beq (enc a) (enc b))=(a==b):=by
 rw[beqN_eq,beqN_eq,Bool.eq_iff_iff]
 simp only[Ad,decide_eq_true_eq,beq_iff_eq]
 exact⟨fun h=>abP h.1 h.2,fun h=>by subst h;exact⟨rfl,rfl⟩⟩
theorem alF:∀ (a b:List UInt8),Lk a.length (enc a) b.length (enc b)=Op.bytesLess a b
 | [],[]=>rfl
 | [],y ::b=>by simp[Lk,Op.bytesLess,beqN_eq]
 |x ::a,[]=>by simp[Lk,Op.bytesLess,beqN_eq]
 |x ::a,y ::b=>by
  have hx:x.toNat<256:=x.toNat_lt
  have hy:y.toNat<256:=y.toNat_lt
  have h1:(x.toNat+256*enc a)%256=x.toNat:=by omega
  have h2:(x.toNat+256*enc a) / 256=enc a:=by omega
  have h3:(y.toNat+256*enc b)%256=y.toNat:=by omega
  have h4:(y.toNat+256*enc b) / 256=enc b:=by omega
  simp only[Tj,Lk,enc,h1,h2,h3,h4,Nat.add_sub_cancel,alF a b,Op.bytesLess,beqN_eq,bltN_eq]
  by_cases c1:x.toNat<y.toNat
  ·have:x<y:=UInt8.lt_iff_toNat_lt.2 c1
   simp[c1,this]
  ·have n1:¬ x<y:=fun h=>c1 (UInt8.lt_iff_toNat_lt.1 h)
   by_cases c2:x.toNat=y.toNat
   ·have:x=y:=UInt8.toNat_inj.1 c2
    subst this
    simp
   ·have:x≠y:=fun h=>c2 (by rw[h])
    simp[c1,c2,n1,this]
theorem Cq:∀ (a b:List UInt8),Op.bytesLess b a=!(Op.bytesLess a b||a==b)
 | [],[]=>rfl
 | [],y ::b=>by simp[Op.bytesLess]
 |x ::a,[]=>by simp[Op.bytesLess]
 |x ::a,y ::b=>by
  simp only[Op.bytesLess,Cq a b]
  by_cases c1:x<y
  ·have c2:¬ y<x:=fun h=>by have:=UInt8.lt_iff_toNat_lt.1 c1;have:=UInt8.lt_iff_toNat_lt.1 h;omega
   have c3:y≠x:=fun h=>by subst h;exact c2 c1
   simp[c1,c2,c3]
  ·by_cases c3:x=y
   ·subst c3;simp
   ·have c2:y<x:=by
     rw[UInt8.lt_iff_toNat_lt] at c1 ⊢
     have:x.toNat≠y.toNat:=fun h=>c3 (UInt8.toNat_inj.1 h)
     omega
    simp[c1,c2,c3]
theorem aiR{ρ:Nat→Int}{μ:Mu}{P:Program}{w:World}{op:BinOp}{x y:ByteArray}{a:AV}
  (h:opS op x.data.toList.length (enc x.data.toList) y.data.toList.length (enc y.data.toList)=some a) :
  ∃ v,(Op.stringOp op x y).run P w=.ok v w∧bn ρ μ a v:=by
 unfold opS at h
 cases op<;>simp only[dO] at h<;>first|(cases h;done)|skip
 ·cases hb:Nat.ble (x.data.toList.length+y.data.toList.length) 4611686018427387904 with
  |false=>rw[hb] at h;cases h
  |true=>
  rw[hb] at h
  simp only[cond_true,dO] at h
  subst h
  have tF:x.size+y.size≤4611686018427387904:=by rw[Nat.ble_eq] at hb;rw[Lib.size_eq,Lib.size_eq];exact hb
  refine⟨.string (x++y),?_,.str _ _ _ ?_ ?_⟩
  ·have hle:¬ (((x.size+y.size:Nat):Int)>IntKind.i64.max):=by
    have:IntKind.i64.max=9223372036854775807:=by decide
    rw[this];omega
   simp only[Op.stringOp,if_neg hle,AP]
  ·rw[ByteArray.data_append];simp
  ·rw[ByteArray.data_append,Array.toList_append,agv]
   show _=_+Nat.shiftLeft _ _
   have:Nat.shiftLeft (enc y.data.toList) (8*x.data.toList.length)=enc y.data.toList*2^(8*x.data.toList.length):=Nat.shiftLeft_eq _ _
   rw[this,acH,Nat.mul_comm]
 all_goals subst h
 all_goals refine⟨_,?_,.bool _⟩
 all_goals simp only[Op.stringOp,ByteArray.toList_eq,AP,Result.ok.injEq,Value.bool.injEq,and_true,Yh,alF]
 ·rw[Cq x.data.toList y.data.toList,Bool.not_not]
 ·rw[Cq x.data.toList y.data.toList]
end Go.Sx
/-
 SX: every operation that leaves memory alone: what the abstract machine computes stands for what the model computes. No condition.
-/
namespace Go.Sx
open Go.RowKit
def Dp(P:Program)(ρ:Nat→Int)(μ:Mu)(nt:Nat)(xs:List Operand)(tm:T AV)(ev:Operand→Value):Prop:=
 ∀ x∈xs,∀ px a,pX P nt x=some px→px.at tm=some a→bn ρ μ a (ev x)
theorem Dp.sub{P:Program}{ρ:Nat→Int}{μ:Mu}{nt:Nat}{xs ys:List Operand}{tm:T AV}{ev:Operand→Value}(h:Dp P ρ μ nt xs tm ev)(hs:∀ y∈ys,y∈xs):Dp P ρ μ nt ys tm ev:=
 fun x hx=>h x (hs x hx)
theorem map_some{α β:Type}{f:α→β}{x:Option α}{y:β}(h:x.map f=some y):∃ a,x=some a∧f a=y:=by
 cases x with
 |none=>cases h
 |some a=>exact⟨a,rfl,by simpa using h⟩
theorem Xt(vs:List Value)(arr:Array Value)(o:Nat)(h:o+vs.length≤arr.size) :
  (uk arr o vs).toList=arr.toList.take o++vs++arr.toList.drop (o+vs.length):=by
 apply List.ext_getElem?
 intro j
 rw[Array.getElem?_toList,tv vs arr o j h]
 by_cases h1:j<o
 ·rw[if_neg (by omega),List.append_assoc,List.getElem?_append_left (by simp;omega),List.getElem?_take_of_lt h1]
  simp
 ·by_cases h2:j<o+vs.length
  ·rw[if_pos (by omega),List.append_assoc,List.getElem?_append_right (by simp;omega),List.getElem?_append_left (by simp;omega)]
   congr 1
   simp;omega
  ·rw[if_neg (by omega),List.getElem?_append_right (by simp;omega),List.getElem?_drop]
   have:o+vs.length+(j-(arr.toList.take o++vs).length)=j:=by simp;omega
   rw[this]
   simp
theorem Q4(off:Nat):∀ (l:List Value) (k:Nat) (vs:Array Value),
  (l.zipIdx k).foldl (fun(cs:Array Value) (p:Value×Nat)=>cs.setIfInBounds (off+p.2) p.1) vs=uk vs (off+k) l
 | [],_,_=>rfl
 |v ::l,k,vs=>by
  simp only[List.zipIdx_cons,List.foldl_cons,uk]
  rw[Q4 off l (k+1)]
  rfl
section
variable{P:Program}{ρ:Nat→Int}{w0:W0}{w:World}{μ:Mu}{G:Key→Option ab}{nx:Nat}{nt:Nat}{tm:T AV}{ev:Operand→Value}
theorem rZ:∀ {xs:List Operand} {ps:List PX} {l:List AV},Yi P nt xs=some ps→atAll tm ps=some l→Dp P ρ μ nt xs tm ev→aB ρ μ l (xs.map ev)
 | [],ps,l,hp,ha,hE=>by
  simp only[Yi,dO] at hp;subst hp
  simp only[atAll,dO] at ha;subst ha
  exact .nil
 |x ::xs,ps,l,hp,ha,hE=>by
  simp only[Yi] at hp
  split at hp
  ·rename_i a r h1 h2
   cases hp
   simp only[atAll] at ha
   split at ha
   ·cases ha
   ·rename_i v hv
    split at ha
    ·cases ha
    ·rename_i m hm
     cases ha
     exact .cons _ _ _ _ (hE x (by simp) a v h1 hv) (rZ h2 hm (hE.sub fun y hy=>by simp[hy]))
  ·cases hp
theorem HP{place:Nat→Option (Nat×Nat)}:∀ {parts:List (Nat×Operand)} {ps:List (Nat×Nat×PX)} {cs IN:List AV} {vs:Array Value},
  S8 P nt place parts=some ps→Sb tm ps cs=some IN→Dp P ρ μ nt (parts.map (·.2)) tm ev→aB ρ μ cs vs.toList→
  ∃ vs',Instr.fill place vs (parts.map fun(i,x)=>(i,ev x))=some vs'∧aB ρ μ IN vs'.toList
 | [],ps,cs,IN,vs,hp,hf,hE,hv=>by
  simp only[S8,dO] at hp;subst hp
  simp only[Sb,dO] at hf;subst hf
  exact⟨vs,rfl,hv⟩
 |(i,x) ::parts,ps,cs,IN,vs,hp,hf,hE,hv=>by
  simp only[S8] at hp
  split at hp
  ·rename_i off size a r h1 h2 h3
   cases hp
   simp only[Sb] at hf
   split at hf
   ·cases hf
   ·rename_i u hu
    cases hb:Nat.beq (lenL u.cells) size with
    |false=>rw[hb] at hf;cases hf
    |true=>
     rw[hb] at hf
     simp only[cond_true,putC_eq] at hf
     split at hf
     ·rename_i hle
      have hs:u.cells.length=size:=by rw[lenL_eq] at hb;exact yB hb
      have hr:bn ρ μ u (ev x):=hE x (by simp) a u h2 hu
      have hrc:=hr.cells
      have hlen:(ev x).cells.size=size:=by rw[← hs,hrc.length];simp
      have OT:cs.length=vs.size:=by rw[hv.length];simp
      have akk:((ev x).cells.zipIdx.foldl (fun cs (c,j)=>cs.setIfInBounds (off+j) c) vs).toList=vs.toList.take off++(ev x).cells.toList++vs.toList.drop (off+(ev x).cells.toList.length):=by
       rw[← Xt _ _ _ (by simp;omega),← Nat.add_zero off,← Q4]
       rw[← Array.foldl_toList]
       simp
      obtain⟨vs',aGl,vG⟩:=HP (vs:=(ev x).cells.zipIdx.foldl (fun cs (c,j)=>cs.setIfInBounds (off+j) c) vs) h3 hf (hE.sub fun y hy=>by simp at hy ⊢;exact .inr hy) (by
       rw[akk]
       refine((hv.take off).append hrc).append ?_
       rw[← hrc.length];exact hv.drop _)
      refine⟨vs',?_,vG⟩
      simp only[XW,Instr.fill,h1]
      rw[if_neg (by simp[hlen];omega)]
      exact aGl
     ·cases hf
  ·cases hp
end
end Go.Sx
/-
 SX: comparisons, slices, indexes, maps. No condition.
-/
namespace Go.Sx
open Go.RowKit
section
variable{P:Program}{ρ:Nat→Int}{w0:W0}{w:World}{μ:Mu}{G:Key→Option ab}{nx:Nat}{orc:pF}
theorem lV{a:AV}{v:Value}{j:Nat}(h:rm a=some j)(hr:bn ρ μ a v):∃ k,v=.int k (j:Int):=by
 unfold rm at h
 split at h
 ·simp only[dO] at h
  subst h
  cases hr with
  |int k s n hn=>exact⟨_,by rw[← hn];rfl⟩
 ·cases h
theorem ad2{a b:AV}{r:Bool}(h:nw orc .bool a b=some r):∃ x y,a=.bool x∧b=.bool y∧(x==y)=r:=by
 cases a<;>first|(simp[nw] at h;done)|skip
 cases b<;>first|(simp[nw] at h;done)|skip
 exact⟨_,_,rfl,rfl,by simpa[nw] using h⟩
theorem aoa{a b:AV}{r:Bool}(h:nw orc .int a b=some r):∃ k x y,a=.int k x∧b=.int k y∧VK orc .eql x y=some r:=by
 cases a<;>first|(simp[nw] at h;done)|skip
 cases b<;>first|(simp[nw] at h;done)|skip
 rename_i k1 s1 k2 s2
 simp only[nw] at h
 cases hk:beqKind k1 k2 with
 |false=>rw[hk] at h;cases h
 |true=>
  rw[hk] at h
  have:=Ab hk
  subst this
  exact⟨_,_,_,rfl,rfl,h⟩
theorem aob{a b:AV}{r:Bool}(h:nw orc .str a b=some r):∃ n c m d,a=.str n c∧b=.str m d∧(Nat.beq n m&&Nat.beq c d)=r:=by
 cases a<;>first|(simp[nw] at h;done)|skip
 cases b<;>first|(simp[nw] at h;done)|skip
 simp only[nw,dO] at h
 exact⟨_,_,_,_,rfl,rfl,h⟩
theorem ag2{a b:AV}{r:Bool}(h:nw orc .ptr a b=some r) :
  (a=.nilp∧b=.nilp∧r=true)∨(a=.nilp∧((∃ k o,b=.ptr k o)∨∃ l,b=.cref l)∧r=false)∨(((∃ k o,a=.ptr k o)∨∃ l,a=.cref l)∧b=.nilp∧r=false)∨
   (∃ k o o',a=.ptr k o∧b=.ptr k o'∧decide (o=o')=r):=by
 cases a<;>first|(simp[nw] at h;done)|skip
 ·cases b<;>first|(simp[nw] at h;done)|skip
  ·rename_i b1 o1 b2 o2
   simp only[nw] at h
   cases hb:Key.beq b1 b2 with
   |false=>rw[hb] at h;cases h
   |true=>
    rw[hb] at h
    have:=Key.eq_of_beq hb
    subst this
    simp only[cond_true,dO,beqN_eq] at h
    exact .inr (.inr (.inr ⟨_,_,_,rfl,rfl,h⟩))
  ·simp only[nw,dO] at h
   exact .inr (.inr (.inl ⟨.inl ⟨_,_,rfl⟩,rfl,h.symm⟩))
 ·cases b<;>first|(simp[nw] at h;done)|skip
  ·simp only[nw,dO] at h
   exact .inr (.inl ⟨rfl,.inl ⟨_,_,rfl⟩,h.symm⟩)
  ·simp only[nw,dO] at h
   exact .inl ⟨rfl,rfl,h.symm⟩
  ·simp only[nw,dO] at h
   exact .inr (.inl ⟨rfl,.inr ⟨_,rfl⟩,h.symm⟩)
 ·cases b<;>first|(simp[nw] at h;done)|skip
  simp only[nw,dO] at h
  exact .inr (.inr (.inl ⟨.inr ⟨_,rfl⟩,rfl,h.symm⟩))
theorem abc{a b:AV}{r:Bool}(h:nw orc .iface a b=some r) :
  (a=.nili∧b=.nili∧r=true)∨(a=.nili∧(∃ t v,b=.iface t v)∧r=false)∨((∃ t v,a=.iface t v)∧b=.nili∧r=false):=by
 cases a<;>first|(simp[nw] at h;done)|skip
 ·cases b<;>first|(simp[nw] at h;done)|skip
  simp only[nw,dO] at h
  exact .inr (.inr ⟨⟨_,_,rfl⟩,rfl,h.symm⟩)
 ·cases b<;>first|(simp[nw] at h;done)|skip
  ·simp only[nw,dO] at h
   exact .inr (.inl ⟨rfl,⟨_,_,rfl⟩,h.symm⟩)
  ·simp only[nw,dO] at h
   exact .inl ⟨rfl,rfl,h.symm⟩
theorem abd{a b:AV}{r:Bool}(h:nw orc .slice a b=some r) :
  (a=.nils∧b=.nils∧r=true)∨(a=.nils∧((∃ k o l s,b=.slice k o l s)∨∃ k o l s,b=.sl k o l s)∧r=false)∨(((∃ k o l s,a=.slice k o l s)∨∃ k o l s,a=.sl k o l s)∧b=.nils∧r=false):=by
 cases a<;>first|(simp[nw] at h;done)|skip
 ·cases b<;>first|(simp[nw] at h;done)|skip
  simp only[nw,dO] at h
  exact .inr (.inr ⟨.inl ⟨_,_,_,_,rfl⟩,rfl,h.symm⟩)
 ·cases b<;>first|(simp[nw] at h;done)|skip
  ·simp only[nw,dO] at h
   exact .inr (.inl ⟨rfl,.inl ⟨_,_,_,_,rfl⟩,h.symm⟩)
  ·simp only[nw,dO] at h
   exact .inl ⟨rfl,rfl,h.symm⟩
  ·simp only[nw,dO] at h
   exact .inr (.inl ⟨rfl,.inr ⟨_,_,_,_,rfl⟩,h.symm⟩)
 ·cases b<;>first|(simp[nw] at h;done)|skip
  simp only[nw,dO] at h
  exact .inr (.inr ⟨.inr ⟨_,_,_,_,rfl⟩,rfl,h.symm⟩)
theorem ad3{a b:AV}{r:Bool}(h:nw orc .func a b=some r) :
  (a=.nilf∧b=.nilf∧r=true)∨(a=.nilf∧(∃ f x y,b=.fn f x y)∧r=false)∨((∃ f x y,a=.fn f x y)∧b=.nilf∧r=false):=by
 cases a<;>first|(simp[nw] at h;done)|skip
 ·cases b<;>first|(simp[nw] at h;done)|skip
  simp only[nw,dO] at h
  exact .inr (.inr ⟨⟨_,_,_,rfl⟩,rfl,h.symm⟩)
 ·cases b<;>first|(simp[nw] at h;done)|skip
  ·simp only[nw,dO] at h
   exact .inr (.inl ⟨rfl,⟨_,_,_,rfl⟩,h.symm⟩)
  ·simp only[nw,dO] at h
   exact .inl ⟨rfl,rfl,h.symm⟩
theorem ag3{a b:AV}{r:Bool}(h:nw orc .map a b=some r) :
  (a=.nilm∧b=.nilm∧r=true)∨(a=.nilm∧(∃ k,b=.map k)∧r=false)∨((∃ k,a=.map k)∧b=.nilm∧r=false):=by
 cases a<;>first|(simp[nw] at h;done)|skip
 ·cases b<;>first|(simp[nw] at h;done)|skip
  simp only[nw,dO] at h
  exact .inr (.inr ⟨⟨_,rfl⟩,rfl,h.symm⟩)
 ·cases b<;>first|(simp[nw] at h;done)|skip
  ·simp only[nw,dO] at h
   exact .inr (.inl ⟨rfl,⟨_,rfl⟩,h.symm⟩)
  ·simp only[nw,dO] at h
   exact .inl ⟨rfl,rfl,h.symm⟩
def Iv(P:Program)(t:TypeId):Bu→Prop
 |.bool=>P.underlying t=some .bool
 |.int=>∃ k,P.underlying t=some (.int k)
 |.str=>P.underlying t=some .string
 |.ptr=>∃ e i,P.underlying t=some (.pointer e)∧P.info? e=some i∧i.size≠0
 |.iface=>∃ ms,P.underlying t=some (.interface ms)
 |.slice=>∃ e,P.underlying t=some (.slice e)
 |.func=>∃ a b c,P.underlying t=some (.func a b c)
 |.map=>∃ a b,P.underlying t=some (.map a b)
 |.parts l=>(∃ fs n,P.underlying t=some (.struct fs)∧P.stoodInHeld t=false∧eqFields P n fs.toList=some l)∨
   ∃ len e i fs n l',P.underlying t=some (.array len e)∧P.info? e=some i∧P.underlying e=some (.struct fs)∧P.stoodInHeld e=false∧eqFields P n fs.toList=some l'∧(∀ x∈l',x.1<i.size)∧l=Oq l' i.size len 0
theorem xz{n:Nat}{t:TypeId}{p:Bu}(hp:XJ P n t=some p):Iv P t p:=by
 cases n with
 |zero=>simp[XJ] at hp
 |succ n=>
 unfold XJ at hp
 split at hp
 ·cases hp;assumption
 ·cases hp;exact⟨_,‹_›⟩
 ·cases hp;assumption
 ·rename_i e hu
  split at hp
  ·rename_i i hi
   cases hz:Nat.beq i.size 0 with
   |true=>rw[hz] at hp;cases hp
   |false=>
    rw[hz] at hp
    simp only[cond_false,dO] at hp;subst hp
    exact⟨e,i,hu,hi,by intro e;rw[e] at hz;cases hz⟩
  ·cases hp
 ·cases hp;exact⟨_,‹_›⟩
 ·cases hp;exact⟨_,‹_›⟩
 ·cases hp;exact⟨_,_,_,‹_›⟩
 ·cases hp;exact⟨_,_,‹_›⟩
 ·cases hs:P.stoodInHeld t with
  |true=>rw[hs] at hp;cases hp
  |false=>
   rw[hs] at hp
   simp only[cond_false] at hp
   split at hp
   ·cases hp;exact .inl ⟨_,n,‹_›,hs,‹_›⟩
   ·cases hp
 ·rename_i len e hu
  split at hp
  ·rename_i fs l i hue hpe hi
   cases hb:l.all (fun x=>Nat.blt x.1 i.size) with
   |false=>rw[hb] at hp;cases hp
   |true=>
    rw[hb] at hp
    simp only[cond_true,dO] at hp;subst hp
    have aM:∀ x∈l,x.1<i.size:=by
     intro x hx
     have:=mi.1 hb x hx
     rwa [bltN_eq,decide_eq_true_eq] at this
    cases n with
    |zero=>simp[XJ] at hpe
    |succ n=>
    unfold XJ at hpe
    rw[hue] at hpe
    simp only at hpe
    cases hs:P.stoodInHeld e with
    |true=>rw[hs] at hpe;cases hpe
    |false=>
     rw[hs] at hpe
     simp only[cond_false] at hpe
     split at hpe
     ·simp only[dO,Bu.parts.injEq] at hpe;subst hpe
      exact .inr ⟨len,e,i,fs,n,_,hu,hi,hue,hs,‹_›,aM,rfl⟩
     ·cases hpe
  ·cases hp
 ·cases hp
set_option maxHeartbeats 1000000 in
theorem vD(ho:jt ρ orc){p:Bu}{t:TypeId}(hp:Iv P t p)(eM:∀ l,p≠.parts l){a b:AV}{r:Bool}(h:nw orc p a b=some r)
  {x y:Value} (hx:bn ρ μ a x) (hy:bn ρ μ b y) (d:Nat):(Op.equalIn (d+1) t x y).run P w=.ok r w:=by
 cases p with
 |bool=>
  obtain⟨x',y',rfl,rfl,hr⟩:=ad2 h
  cases hx;cases hy
  have hu:P.underlying t=some .bool:=hp
  simp only[Op.equalIn,uu,ag hu,pY,AP,hr]
 |int=>
  obtain⟨k,x',y',rfl,rfl,hr⟩:=aoa h
  obtain⟨k',hu⟩:=hp
  have hc:=Gk ho hr
  cases hx with|int _ _ n1 h1=>cases hy with|int _ _ n2 h2=>
  rw[h1,h2] at hc
  simp only[Gl,dO] at hc
  simp only[Op.equalIn,uu,ag hu,pY,if_true,AP,hc]
 |str=>
  obtain⟨n1,c1,n2,c2,rfl,rfl,hr⟩:=aob h
  have hu:P.underlying t=some .string:=hp
  cases hx with|str _ _ s1 h1 Ix=>cases hy with|str _ _ s2 h2 W9=>
  subst h1 Ix h2 W9
  rw[Yh] at hr
  simp only[Op.equalIn,uu,ag hu,pY,AP,Result.ok.injEq,and_true]
  rw[beq_toListBytes,ByteArray.toList_eq,ByteArray.toList_eq];exact hr
 |ptr=>
  obtain⟨e,i,hu,hi,tF⟩:=hp
  rcases ag2 h with⟨rfl,rfl,rfl⟩|⟨rfl,⟨_,_,rfl⟩|⟨_,rfl⟩,rfl⟩|⟨⟨_,_,rfl⟩|⟨_,rfl⟩,rfl,rfl⟩|⟨k,o1,o2,rfl,rfl,hr⟩
  ·cases hx;cases hy;simp[Op.equalIn,ag hu]
  ·cases hx;cases hy;simp[Op.equalIn,ag hu]
  ·cases hx;cases hy;simp[Op.equalIn,ag hu]
  ·cases hx;cases hy;simp[Op.equalIn,ag hu]
  ·cases hx;cases hy;simp[Op.equalIn,ag hu]
  ·cases hx with|ptr _ _ l1 a1 m1 e1=>cases hy with|ptr _ _ l2 a2 m2 e2=>
   rw[m1] at m2;cases m2
   subst e1 e2
   simp only[Op.equalIn,uu,ag hu,pY,bL hi,Sem.run_ite,ne_eq,tF,not_false_eq_true,if_true,sameAddr,beq_self_eq_true,AP]
   simp only[Result.ok.injEq,and_true]
   rw[← hr,Bool.eq_iff_iff]
   simp
 |iface=>
  obtain⟨ms,hu⟩:=hp
  rcases abc h with⟨rfl,rfl,rfl⟩|⟨rfl,⟨_,_,rfl⟩,rfl⟩|⟨⟨_,_,rfl⟩,rfl,rfl⟩<;>(cases hx;cases hy;simp[Op.equalIn,ag hu])
 |slice=>
  obtain⟨e,hu⟩:=hp
  rcases abd h with⟨rfl,rfl,rfl⟩|⟨rfl,⟨_,_,_,_,rfl⟩|⟨_,_,_,_,rfl⟩,rfl⟩|⟨⟨_,_,_,_,rfl⟩|⟨_,_,_,_,rfl⟩,rfl,rfl⟩<;>(cases hx;cases hy;simp[Op.equalIn,ag hu])
 |func=>
  obtain⟨_,_,_,hu⟩:=hp
  rcases ad3 h with⟨rfl,rfl,rfl⟩|⟨rfl,⟨_,_,_,rfl⟩,rfl⟩|⟨⟨_,_,_,rfl⟩,rfl,rfl⟩<;>(cases hx;cases hy;simp[Op.equalIn,ag hu])
 |map=>
  obtain⟨_,_,hu⟩:=hp
  rcases ag3 h with⟨rfl,rfl,rfl⟩|⟨rfl,⟨_,rfl⟩,rfl⟩|⟨⟨_,rfl⟩,rfl,rfl⟩<;>(cases hx;cases hy;simp[Op.equalIn,ag hu])
 |parts l=>exact absurd rfl (eM l)
theorem Gn(ho:jt ρ orc){A B:List AV}{xs ys:Array Value}(hx:aB ρ μ A xs.toList)(hy:aB ρ μ B ys.toList)(d:Nat) :
  ∀ (n:Nat) (fs:List Field) (l:List (Nat×Bu)) (r:Bool),eqFields P n fs=some l→dq orc l A B=some r→(Op.eqFields (d+1) xs ys fs).run P w=.ok r w
 |n,[],l,r,hf,hp=>by
  have:l=[]:=by cases n<;>simpa[eqFields] using hf.symm
  subst this
  simp only[dq,dO] at hp
  subst hp
  rfl
 |0,f ::fs,l,r,hf,hp=>by simp[eqFields] at hf
 |n+1,f ::fs,l,r,hf,hp=>by
  simp only[eqFields] at hf
  cases hn : (f.name == "_") with
  |true=>rw[hn] at hf;cases hf
  |false=>
   rw[hn] at hf
   simp only[cond_false] at hf
   have key:∀ (q:Bu) (l':List (Nat×Bu)),XJ P n f.type=some q→(∀ l,q≠.parts l)→eqFields P n fs=some l'→l=(f.offset,q) ::l'→(Op.eqFields (d+1) xs ys (f ::fs)).run P w=.ok r w:=by
    intro q l' hq hqn SO hl
    subst hl
    simp only[dq,nth_eq] at hp
    split at hp
    ·rename_i x y h1 h2
     have Of:=xz hq
     obtain⟨d',hd'⟩:∃ d',P.underlying f.type=some d':=by
      cases q with
      |bool=>exact⟨_,Of⟩
      |int=>obtain⟨k,hk⟩:=Of;exact⟨_,hk⟩
      |str=>exact⟨_,Of⟩
      |ptr=>obtain⟨_,_,hk,_⟩:=Of;exact⟨_,hk⟩
      |iface=>obtain⟨_,hk⟩:=Of;exact⟨_,hk⟩
      |slice=>obtain⟨_,hk⟩:=Of;exact⟨_,hk⟩
      |func=>obtain⟨_,_,_,hk⟩:=Of;exact⟨_,hk⟩
      |map=>obtain⟨_,_,hk⟩:=Of;exact⟨_,hk⟩
      |parts _=>exact absurd rfl (hqn _)
     have atd:YC d'=false:=by
      cases q with
      |bool=>have hk:P.underlying f.type=some .bool:=Of;rw[hk] at hd';cases hd';rfl
      |int=>obtain⟨k,hk⟩:=Of;rw[hk] at hd';cases hd';rfl
      |str=>have hk:P.underlying f.type=some .string:=Of;rw[hk] at hd';cases hd';rfl
      |ptr=>obtain⟨_,_,hk,_⟩:=Of;rw[hk] at hd';cases hd';rfl
      |iface=>obtain⟨_,hk⟩:=Of;rw[hk] at hd';cases hd';rfl
      |slice=>obtain⟨_,hk⟩:=Of;rw[hk] at hd';cases hd';rfl
      |func=>obtain⟨_,_,_,hk⟩:=Of;rw[hk] at hd';cases hd';rfl
      |map=>obtain⟨_,_,hk⟩:=Of;rw[hk] at hd';cases hd';rfl
      |parts _=>exact absurd rfl (hqn _)
     have ahM:∀ (L:List AV) (vs:Array Value) (u:AV),aB ρ μ L vs.toList→L[f.offset]?=some u→∃ v,(part f.type vs f.offset).run P w=.ok v w∧bn ρ μ u v:=by
      intro L vs u hL hu
      obtain⟨v,hv,hr⟩:=hL.get f.offset u hu
      refine⟨v,?_,hr⟩
      have:vs[f.offset]?=some v:=by simpa using hv
      simp[part,yC hd',atd,this]
     obtain⟨vx,hvx,hrx⟩:=ahM A xs x hx h1
     obtain⟨vy,hvy,hry⟩:=ahM B ys y hy h2
     have eM : f.name ≠ "_" := by simpa using hn
     simp only[Op.eqFields,ne_eq,eM,not_false_eq_true,if_true,uu,hvx,hvy,pY]
     split at hp
     ·rename_i he
      rw[vD ho Of hqn he hrx hry d]
      simp only[pY,Bool.not_true,Yz,if_false]
      exact Gn ho hx hy d n fs l' r SO hp
     ·rename_i he
      cases hp
      rw[vD ho Of hqn he hrx hry d]
      simp
     ·cases hp
    ·cases hp
   split at hf
   ·simp only[dO] at hf;exact key _ _ ‹_› (by intro l;simp) ‹_› hf.symm
   ·simp only[dO] at hf;exact key _ _ ‹_› (by intro l;simp) ‹_› hf.symm
   ·simp only[dO] at hf;exact key _ _ ‹_› (by intro l;simp) ‹_› hf.symm
   ·cases hf
theorem WX(A B:List AV):∀ (l m:List (Nat×Bu)),dq orc (l++m) A B=(match dq orc l A B with|some true=>dq orc m A B|some false=>some false|none=>none)
 | [],m=>by simp[dq]
 |(off,p) ::l,m=>by
  simp only[List.cons_append,dq,WX A B l m]
  split
  ·split
   ·rfl
   ·rfl
   ·rfl
  ·rfl
theorem SY(A B:List AV)(off sz:Nat):∀ (l:List (Nat×Bu)),(∀ x∈l,x.1<sz)→dq orc (l.map fun x=>(off+x.1,x.2)) A B=dq orc l ((A.drop off).take sz) ((B.drop off).take sz)
 | [],_=>by simp[dq]
 |(o,p) ::l,h=>by
  have h0:o<sz:=h (o,p) (by simp)
  have e:∀ (L:List AV),((L.drop off).take sz)[o]?=L[off+o]?:=by
   intro L
   rw[List.getElem?_take_of_lt h0,List.getElem?_drop]
  simp only[XW,dq,nth_eq,e,SY A B off sz l fun x hx=>h x (by simp[hx])]
theorem WY{e:TypeId}{i:TypeInfo}{fs:Array Field}(hi:P.info? e=some i)(hu:P.underlying e=some (.struct fs))(xs:Array Value)(off:Nat) :
  (part e xs off).run P w=.ok (.agg (xs.extract off (off+i.size))) w:=by
 simp[part,yC hu,YC,bL hi]
theorem WZ{A:List AV}{xs:Array Value}(hx:aB ρ μ A xs.toList)(off n:Nat):aB ρ μ ((A.drop off).take n) (xs.extract off (off+n)).toList:=by
 have:(xs.extract off (off+n)).toList=(xs.toList.drop off).take n:=by
  simp[List.extract]
 rw[this]
 exact(hx.drop off).take n
theorem SZ(ho:jt ρ orc){e:TypeId}{i:TypeInfo}{fs:Array Field}{n:Nat}{l:List (Nat×Bu)}(hi:P.info? e=some i)(hu:P.underlying e=some (.struct fs))(iZ:P.stoodInHeld e=false)(hf:eqFields P n fs.toList=some l)(aM:∀ x∈l,x.1<i.size)
  {A B:List AV} {xs ys:Array Value} (hx:aB ρ μ A xs.toList) (hy:aB ρ μ B ys.toList) (d:Nat) :
  ∀ (m j:Nat) (r:Bool),dq orc (Oq l i.size m (j*i.size)) A B=some r→(Op.eqItems (d+2) e i.size xs ys (List.range' j m)).run P w=.ok r w
 |0,j,r,h=>by
  simp only[Oq,dq,dO] at h
  subst h
  simp[Op.eqItems]
 |m+1,j,r,h=>by
  simp only[Oq,WX,SY A B _ i.size l aM] at h
  have hfo:P.fieldsOf e=fs:=by simp[Program.fieldsOf,hu]
  have he:∀ q,dq orc l ((A.drop (j*i.size)).take i.size) ((B.drop (j*i.size)).take i.size)=some q→
    (Op.equalIn (d+2) e (.agg (xs.extract (j*i.size) (j*i.size+i.size))) (.agg (ys.extract (j*i.size) (j*i.size+i.size)))).run P w=.ok q w:=by
   intro q hq
   rw[show d+2=d+1+1 from rfl,run_equalIn_agg w (d+1) e _ _ (by rw[hfo];exact hu) iZ,hfo]
   exact Gn ho (WZ hx _ _) (WZ hy _ _) d n fs.toList l q hf hq
  simp only[List.range'_succ,Op.eqItems,uu,WY hi hu,pY]
  split at h
  ·rename_i hq
   rw[he _ hq]
   simp only[pY,Bool.not_true,Yz,if_false]
   have hj:(j+1)*i.size=j*i.size+i.size:=by rw[Nat.add_mul,Nat.one_mul]
   exact SZ ho hi hu iZ hf aM hx hy d m (j+1) r (by rw[hj];exact h)
  ·rename_i hq
   cases h
   rw[he _ hq]
   simp
  ·cases h
theorem WL(ho:jt ρ orc){t:TypeId}{l:List (Nat×Bu)}(hp:Iv P t (.parts l)){A B:List AV}{xs ys:Array Value}(hx:aB ρ μ A xs.toList)(hy:aB ρ μ B ys.toList){r:Bool}(h:dq orc l A B=some r)(d:Nat) :
  (Op.equalIn (d+3) t (.agg xs) (.agg ys)).run P w=.ok r w:=by
 rcases hp with⟨fs,n,hu,iZ,hf⟩|⟨len,e,i,fs,n,l',hu,hi,hue,iZ,hf,aM,rfl⟩
 ·have hfo:P.fieldsOf t=fs:=by simp[Program.fieldsOf,hu]
  rw[show d+3=d+2+1 from rfl,run_equalIn_agg w (d+2) t xs ys (by rw[hfo];exact hu) iZ,hfo]
  exact Gn ho hx hy (d+1) n fs.toList l r hf h
 ·have hc:P.cellsOf e=i.size:=by simp[Program.cellsOf,hi]
  rw[show d+3=d+2+1 from rfl,run_equalIn_array w (d+2) xs ys hu hi,hc,List.range_eq_range']
  exact SZ ho hi hue iZ hf aM hx hy d len 0 r (by simpa using h)
end
end Go.Sx
/-
 SX: every operation that leaves memory alone. No condition.
-/
namespace Go.Sx
open Go.RowKit
section
variable{P:Program}{ρ:Nat→Int}{w0:W0}{w:World}{μ:Mu}{G:Key→Option ab}{nx:Nat}{orc:pF}{nt:Nat}{tm:T AV}{ev:Operand→Value}
theorem nC{lo:Option Operand}{plo:Option PX}(hp:ai9 P nt lo=some plo){amE l:Nat}(hb:sA tm amE plo=some l){xs:List Operand}(hE:Dp P ρ μ nt xs tm ev)
  (hx:∀ x,lo=some x→x∈xs):(lo=none∧l=amE)∨(∃ x k,lo=some x∧ev x=.int k (l:Int)):=by
 cases lo with
 |none=>
  simp only[ai9,dO] at hp;subst hp
  simp only[sA,dO] at hb
  exact .inl ⟨rfl,hb.symm⟩
 |some x=>
  right
  simp only[ai9] at hp
  split at hp
  ·rename_i a ha
   cases hp
   simp only[sA] at hb
   split at hb
   ·cases hb
   ·rename_i v hv
    obtain⟨k,hk⟩:=lV hb (hE x (hx x rfl) a v ha hv)
    exact⟨x,k,rfl,hk⟩
  ·cases hp
theorem xB{k:IntKind}{i y:Nat}(code:BoundsCode)(h:i≤y):(Instr.sliceBound (.int k (i:Int)) y code).run P w=.ok i w:=by
 simp only[Instr.sliceBound,asIntOf,uu,AP,pY]
 rw[if_pos (by omega)]
 simp
theorem vh{isSlice:Bool}{len cap l r:Nat}{lo hi:Option Value}(vj:(lo=none∧l=0)∨∃ k,lo=some (.int k (l:Int)))(hhi:(hi=none∧r=len)∨∃ k,hi=some (.int k (r:Int)))
  (h1:l≤r) (h2:r≤len) (h3:len≤cap):(Instr.sliceBounds isSlice len cap lo hi none).run P w=.ok (l,r,cap) w:=by
 rcases vj with⟨rfl,rfl⟩|⟨k,rfl⟩<;>rcases hhi with⟨rfl,rfl⟩|⟨k',rfl⟩<;>simp only[Instr.sliceBounds,uu,AP,pY]
 ·rw[xB _ (by omega)];rfl
 ·rw[xB _ (by omega)];rfl
 ·rw[xB _ (by omega),pY,xB _ (by omega)];rfl
def LX(P:Program)(kt:TypeId)(sk:Bool)(kd:TypeDesc):Prop:=P.underlying kt=some kd∧(if sk then kd=.string else ∃ k,kd=.int k)
theorem HT(ho:jt ρ orc){kt:TypeId}{kd:TypeDesc}{sk:Bool}(hu:LX P kt sk kd){k a:AV}{x y:Value}(hx:bn ρ μ k x)(hy:bn ρ μ a y){b:Bool}
  (hb:keyEq orc sk k a=some b):Instr.sameNow kd x y=some b:=by
 obtain⟨_,Ed⟩:=hu
 cases k<;>first|(simp[keyEq] at hb;done)|skip
 ·cases a<;>first|(simp[keyEq] at hb;done)|skip
  rename_i k1 s1 k2 s2
  simp only[keyEq] at hb
  cases hk:beqKind k1 k2 with
  |false=>rw[hk] at hb;cases hb
  |true=>
   rw[hk] at hb
   cases sk with
   |true=>cases hb
   |false=>
    have:=Ab hk
    subst this
    simp only[Bool.not_false,Bool.and_true,cond_true] at hb
    have hc:=Gk ho hb
    cases hx with|int _ _ n1 e1=>cases hy with|int _ _ n2 e2=>
    rw[e1,e2] at hc
    simp only[Gl,dO] at hc
    obtain⟨k',rfl⟩:∃ k,kd=.int k:=by simpa using Ed
    simp[Instr.sameNow,hc]
 ·cases a<;>first|(simp[keyEq] at hb;done)|skip
  cases sk with
  |false=>simp[keyEq] at hb
  |true=>
   simp only[keyEq,cond_true,dO] at hb
   cases hx with|str _ _ s1 e1 e1'=>cases hy with|str _ _ s2 e2 e2'=>
   subst e1 e1' e2 e2'
   rw[Yh] at hb
   have:kd=.string:=by simpa using Ed
   subst this
   simp only[Instr.sameNow,dO]
   rw[beq_toListBytes,ByteArray.toList_eq,ByteArray.toList_eq];exact hb
def alv(ρ:Nat→Int)(μ:Mu):Option AV→Option (Nat×Value)→Prop
 |none,none=>True
 |some a,some (_,v)=>bn ρ μ a v
 |_,_=>False
theorem QX(ho:jt ρ orc){kt:TypeId}{kd:TypeDesc}{sk:Bool}(hu:LX P kt sk kd){k:AV}{x:Value}(hx:bn ρ μ k x) :
  ∀ {l:List (AV×AV)} {es:List MapEntry} (i:Nat) {r:Option AV},tA ρ μ l es→findK orc sk k l=some r→
   ∃ f,Instr.findNow kd x es i=some f∧alv ρ μ r f
 | [],[],i,r,hp,h=>by
  simp only[findK,dO] at h;subst h
  exact⟨none,rfl,trivial⟩
 | [],_ ::_,i,r,hp,h=>hp.elim
 |(_,_) ::_,[],i,r,hp,h=>hp.elim
 |(a,v) ::l,e ::es,i,r,hp,h=>by
  obtain⟨h1,h2,h3⟩:=hp
  simp only[findK] at h
  split at h
  ·rename_i hk
   cases h
   refine⟨some (i,e.val),?_,h2⟩
   simp[Instr.findNow,HT ho hu hx h1 hk]
  ·rename_i hk
   obtain⟨f,hf,hr⟩:=QX ho hu hx (i+1) h3 h
   refine⟨f,?_,hr⟩
   simp[Instr.findNow,HT ho hu hx h1 hk,hf]
  ·cases h
theorem run_findKey{kt:TypeId}{kd:TypeDesc}(hu:P.underlying kt=some kd){x:Value}{es:List MapEntry}{f:Option (Nat×Value)}(h:Instr.findNow kd x es 0=some f) :
  (Instr.findKey kt x es).run P w=.ok f w:=by
 simp[Instr.findKey,ag hu,h]
theorem run_checkKey{kt:TypeId}{kd:TypeDesc}{sk:Bool}(hu:LX P kt sk kd)(e:Bool)(n:Nat)(x:Value):(Instr.checkKey e (n+1) kt x).run P w=.ok () w:=by
 obtain⟨hu,hk⟩:=hu
 cases sk with
 |true=>
  have:kd=.string:=by simpa using hk
  subst this
  simp[Instr.checkKey,ag hu]
 |false=>
  obtain⟨k,rfl⟩:∃ k,kd=.int k:=by simpa using hk
  simp[Instr.checkKey,ag hu]
end
end Go.Sx
/-
 SX: every operation that leaves memory alone: the theorem. No condition.
-/
namespace Go.Sx
open Go.RowKit
section
variable{P:Program}{ρ:Nat→Int}{w0:W0}{w:World}{μ:Mu}{G:Key→Option ab}{nx:Nat}{orc:pF}{nt:Nat}{tm:T AV}{H:T ab}{ev:Operand→Value}
theorem dM{s:Sem Value}{v:Value}{w':World}(h:s.run P w=.ok v w'):(do pure (Next.value (← s)):Sem Next).run P w=.ok (.value v) w':=by
 simp[h]
theorem bj{α:Type}{b:Bool}{x:Option α}{y:α}(h:(bif b then x else none)=some y):b=true∧x=some y:=by
 cases b with
 |true=>exact⟨rfl,h⟩
 |false=>cases h
theorem an3(k yk:IntKind)(a:Int)(n:Nat)(hle:n≤k.bits):(Op.shift .shl k a yk (n:Int)).run P w=.ok (.int k (k.wrap (a*2^n))) w:=by
 have h0:¬ ((n:Int)<0):=by omega
 have:min n k.bits=n:=by omega
 simp[Op.shift,h0,this]
theorem ahG(k yk:IntKind)(a:Int)(n:Nat)(hle:n≤k.bits):(Op.shift .shr k a yk (n:Int)).run P w=.ok (.int k (a.fdiv (2^n))) w:=by
 have h0:¬ ((n:Int)<0):=by omega
 have:min n k.bits=n:=by omega
 simp[Op.shift,h0,this]
theorem aiH(ho:jt ρ orc){op:BinOp}{t:TypeId}{X Y:Operand}{a b:AV}{x y:Value}(hx:bn ρ μ a x)(hy:bn ρ μ b y){r:AV}
  (h:lightOp orc (.bin op (.v a) (.v b)) tm H=some r) :
  ∃ v,(do eqGuard op t X Y x y;Go.binOp op t x y:Sem Value).run P w=.ok v w∧bn ρ μ r v:=by
 simp only[lightOp,PX.at] at h
 cases hx<;>first|(simp at h;done)|skip
 ·cases hy<;>first|(simp at h;done)|skip
  rename_i k1 s1 n1 e1 k2 s2 n2 e2
  have hg:(eqGuard op t X Y (.int k1 n1) (.int k2 n2)).run P w=.ok () w:=by
   cases op<;>simp[eqGuard]
  simp only[uu,hg,pY]
  have rest:(bif beqKind k1 k2 then(bif isCmp op then(match VK orc op s1 s2 with|some r=>some (AV.bool r)|none=>none) else(match arith op k1 s1 s2 with|some r=>some (AV.int k1 r)|none=>none)) else none)=some r→
    ∃ v,(Go.binOp op t (.int k1 n1) (.int k2 n2)).run P w=.ok v w∧bn ρ μ r v:=by
   intro hq
   obtain⟨hk,hq2⟩:=bj hq
   have:=Ab hk
   subst this
   clear hq h
   cases hc:isCmp op with
   |true=>
    rw[hc] at hq2
    simp only[cond_true] at hq2
    split at hq2
    ·rename_i r' hr'
     cases hq2
     have hd:=Gk ho hr'
     rw[e1,e2] at hd
     refine⟨.bool r',?_,.bool _⟩
     rw[← agp (P:=P) (w:=w) hd]
     cases op<;>simp[isCmp] at hc<;>simp[Go.binOp]
    ·cases hq2
   |false=>
    rw[hc] at hq2
    simp only[cond_false] at hq2
    split at hq2
    ·rename_i r' hr'
     cases hq2
     have:=WS (ρ:=ρ) (P:=P) (w:=w) t hr'
     rw[e1,e2] at this
     exact⟨_,this,.int _ _ _ rfl⟩
    ·cases hq2
  cases op<;>first|exact rest h|skip
  ·simp only at h
   split at h
   ·rename_i a n
    obtain⟨hsh,h2⟩:=bj h
    cases h2
    have e2':n2=(n:Int):=e2.symm
    have e1':n1=a:=e1.symm
    subst e2' e1'
    refine⟨_,an3 k1 k2 n1 n (acS hsh),.int _ _ _ ?_⟩
    simp only[SI.den,nu]
    apply congrArg
    show n1*((2^n:Nat):Int)=n1*2^n
    simp
   ·cases h
  ·simp only at h
   split at h
   ·rename_i a n
    obtain⟨hsh,h2⟩:=bj h
    cases h2
    have e2':n2=(n:Int):=e2.symm
    have e1':n1=(a:Int):=e1.symm
    subst e2' e1'
    refine⟨_,ahG k1 k2 a n (acS hsh),.int _ _ _ ?_⟩
    simp only[SI.den]
    show((a / 2^n:Nat):Int)=_
    have hp:(0:Int)≤2^n:=by
     have:((2^n:Nat):Int)=2^n:=by simp
     exact this ▸ Int.natCast_nonneg _
    rw[Int.fdiv_eq_ediv_of_nonneg _ hp]
    simp
   ·rename_i a n
    obtain⟨hsh,h2⟩:=bj h
    cases h2
    have e2':n2=(n:Int):=e2.symm
    have e1':n1=Int.negSucc a:=e1.symm
    subst e2' e1'
    refine⟨_,ahG k1 k2 (Int.negSucc a) n (acS hsh),.int _ _ _ ?_⟩
    simp only[SI.den]
    have hc:((2:Int)^n)=((2^n:Nat):Int):=by simp
    rw[hc]
    have Oc:0<2^n:=Nat.two_pow_pos n
    obtain⟨m,hm⟩:∃ m,2^n=m+1:=⟨2^n-1,by omega⟩
    show Int.negSucc (a / 2^n)=_
    rw[hm]
    rfl
   ·cases h
 ·cases hy<;>first|(simp at h;done)|skip
  rename_i n1 c1 s1 h1 Ix n2 c2 s2 h2 W9
  subst h1 Ix h2 W9
  have hg:(eqGuard op t X Y (.string s1) (.string s2)).run P w=.ok () w:=by
   cases op<;>simp[eqGuard]
  simp only[uu,hg,pY]
  obtain⟨v,hv,hr⟩:=aiR (P:=P) (w:=w) (ρ:=ρ) (μ:=μ) (x:=s1) (y:=s2) h
  refine⟨v,?_,hr⟩
  rw[← hv]
  cases op<;>simp[Go.binOp]
end
end Go.Sx
/-
 SX: every operation that leaves memory alone: the theorem. No condition.
-/
namespace Go.Sx
open Go.RowKit
section
variable{P:Program}{ρ:Nat→Int}{w0:W0}{w:World}{μ:Mu}{G:Key→Option ab}{nx:Nat}{orc:pF}{nt:Nat}{tm:T AV}{H:T ab}{ev:Operand→Value}
theorem Xn(op:BinOp)(t:TypeId){X Y:Operand}(h:oO X=true∨oO Y=true):(eqGuard op t X Y .nilIface .nilIface).run P w=.ok () w:=by
 rcases h with h|h
 ·cases X<;>simp[oO] at h
  cases op<;>simp[eqGuard]
 ·cases Y<;>simp[oO] at h
  cases op<;>simp[eqGuard]
theorem akA(ho:jt ρ orc){op:BinOp}{neg:Bool}(GG:op=if neg then .neq else .eql){t:TypeId}{p:Bu}(hp:Iv P t p)(hni:p≠.int)(hns:p≠.str)
  {X Y:Operand} {a b:AV} {x y:Value} (hx:bn ρ μ a x) (hy:bn ρ μ b y) {r:Bool} (h:nw orc p a b=some r)
  (hg:(∃ l,p=.parts l)→P.eqGuardType P.depth t=false) (hc:p=.iface→oO X=true∨oO Y=true) :
  (do eqGuard op t X Y x y;Go.binOp op t x y:Sem Value).run P w=.ok (.bool (bif neg then !r else r)) w:=by
 have fin:∀ (x y:Value),(eqGuard op t X Y x y).run P w=.ok () w→(Op.equalIn 10000 t x y).run P w=.ok r w→(∀ (k:IntKind) (n:Int),x≠.int k n)→(∀ s,x≠.string s)→(∀ k n,x≠.float k n)→(∀ k n m,x≠.complex k n m)→
   (do eqGuard op t X Y x y;Go.binOp op t x y:Sem Value).run P w=.ok (.bool (bif neg then !r else r)) w:=by
  intro x y hg he h1 h2 h3 h4
  simp only[uu,hg,pY]
  subst GG
  cases neg with
  |false=>
   simp only[Yz,if_false,cond_false]
   cases x<;>first|exact absurd rfl (h1 _ _)|exact absurd rfl (h2 _)|exact absurd rfl (h3 _ _)|exact absurd rfl (h4 _ _ _)|skip
   all_goals simp only[Go.binOp,Op.equal,Op.maxDepth,uu,he,pY,AP]
  |true=>
   simp only[if_true,cond_true]
   cases x<;>first|exact absurd rfl (h1 _ _)|exact absurd rfl (h2 _)|exact absurd rfl (h3 _ _)|exact absurd rfl (h4 _ _ _)|skip
   all_goals simp only[Go.binOp,Op.equal,Op.maxDepth,uu,he,pY,AP]
 have abb:∀ (x y:Value),(∀ v,x≠.agg v)→x≠.nilIface→(eqGuard op t X Y x y).run P w=.ok () w:=by
  intro x y h1 h2
  subst GG
  cases neg<;>cases x<;>first|exact absurd rfl (h1 _)|exact absurd rfl h2|simp[eqGuard]
 cases p with
 |int=>exact absurd rfl hni
 |str=>exact absurd rfl hns
 |bool=>
  have he:=vD (P:=P) (w:=w) ho hp (by intro l;simp) h hx hy 9999
  obtain⟨x',y',rfl,rfl,hr⟩:=ad2 h
  cases hx;cases hy
  exact fin _ _ (abb _ _ (by simp) (by simp)) he (by simp) (by simp) (by simp) (by simp)
 |ptr=>
  have he:=vD (P:=P) (w:=w) ho hp (by intro l;simp) h hx hy 9999
  have:∃ q,x=.pointer q:=by
   rcases ag2 h with⟨rfl,rfl,rfl⟩|⟨rfl,⟨_,_,rfl⟩|⟨_,rfl⟩,rfl⟩|⟨⟨_,_,rfl⟩|⟨_,rfl⟩,rfl,rfl⟩|⟨k,o1,o2,rfl,rfl,hr⟩<;>(cases hx;exact⟨_,rfl⟩)
  obtain⟨q,rfl⟩:=this
  exact fin _ _ (abb _ _ (by simp) (by simp)) he (by simp) (by simp) (by simp) (by simp)
 |iface=>
  have he:=vD (P:=P) (w:=w) ho hp (by intro l;simp) h hx hy 9999
  have aBp:=hc rfl
  have hgi:(eqGuard op t X Y .nilIface .nilIface).run P w=.ok () w:=Xn op t aBp
  rcases abc h with⟨rfl,rfl,rfl⟩|⟨rfl,⟨_,_,rfl⟩,rfl⟩|⟨⟨_,_,rfl⟩,rfl,rfl⟩
  ·cases hx;cases hy;exact fin _ _ hgi he (by simp) (by simp) (by simp) (by simp)
  ·cases hx;cases hy;exact fin _ _ (by subst GG;cases neg<;>simp[eqGuard]) he (by simp) (by simp) (by simp) (by simp)
  ·cases hx;cases hy;exact fin _ _ (abb _ _ (by simp) (by simp)) he (by simp) (by simp) (by simp) (by simp)
 |slice=>
  have he:=vD (P:=P) (w:=w) ho hp (by intro l;simp) h hx hy 9999
  have:∃ q l c,x=.slice q l c:=by
   rcases abd h with⟨rfl,rfl,rfl⟩|⟨rfl,⟨_,_,_,_,rfl⟩|⟨_,_,_,_,rfl⟩,rfl⟩|⟨⟨_,_,_,_,rfl⟩|⟨_,_,_,_,rfl⟩,rfl,rfl⟩<;>(cases hx;exact⟨_,_,_,rfl⟩)
  obtain⟨_,_,_,rfl⟩:=this
  exact fin _ _ (abb _ _ (by simp) (by simp)) he (by simp) (by simp) (by simp) (by simp)
 |func=>
  have he:=vD (P:=P) (w:=w) ho hp (by intro l;simp) h hx hy 9999
  rcases ad3 h with⟨rfl,rfl,rfl⟩|⟨rfl,⟨_,_,_,rfl⟩,rfl⟩|⟨⟨_,_,_,rfl⟩,rfl,rfl⟩<;>(cases hx;exact fin _ _ (abb _ _ (by simp) (by simp)) he (by simp) (by simp) (by simp) (by simp))
 |map=>
  have he:=vD (P:=P) (w:=w) ho hp (by intro l;simp) h hx hy 9999
  rcases ag3 h with⟨rfl,rfl,rfl⟩|⟨rfl,⟨_,rfl⟩,rfl⟩|⟨⟨_,rfl⟩,rfl,rfl⟩<;>(cases hx;exact fin _ _ (abb _ _ (by simp) (by simp)) he (by simp) (by simp) (by simp) (by simp))
 |parts l=>
  cases a<;>first|(simp[nw] at h;done)|skip
  cases b<;>first|(simp[nw] at h;done)|skip
  simp only[nw] at h
  cases hx with|agg _ xs hx=>cases hy with|agg _ ys hy=>
  have he:(Op.equalIn 10000 t (.agg xs) (.agg ys)).run P w=.ok r w:=WL ho hp hx hy h 9997
  exact fin _ _ (run_eqGuard_agg w op t X Y xs ys (hg ⟨l,rfl⟩)) he (by simp) (by simp) (by simp) (by simp)
end
end Go.Sx
