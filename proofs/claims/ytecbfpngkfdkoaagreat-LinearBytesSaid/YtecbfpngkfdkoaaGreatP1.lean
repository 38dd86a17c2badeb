/- A part of the proof. No condition. -/
import GoSem.Step
import Derived.Below
set_option linter.unusedSimpArgs false
set_option linter.unusedVariables false
set_option linter.unusedSectionVars false
namespace Go.Sx
theorem cI:type_of% @Nat.le_refl:=@Nat.le_refl
theorem zqb:type_of% @List.getElem?_eq_getElem:=@List.getElem?_eq_getElem
theorem Gj:type_of% @List.all_eq_true:=@List.all_eq_true
theorem mo:type_of% @Nat.eq_of_beq_eq_true:=@Nat.eq_of_beq_eq_true
theorem fa:type_of% @Bool.and_eq_true:=@Bool.and_eq_true
theorem fO:type_of% @List.length_append:=@List.length_append
theorem zk:type_of% @List.mem_cons:=@List.mem_cons
theorem Hf:type_of% @List.take_of_length_le:=@List.take_of_length_le
theorem Ci:type_of% @List.length_cons:=@List.length_cons
theorem Jn:type_of% @Array.getElem?_eq_none:=@Array.getElem?_eq_none
theorem zqk:type_of% @List.flatten_cons:=@List.flatten_cons
theorem GD:type_of% @Nat.lt_of_lt_of_le:=@Nat.lt_of_lt_of_le
theorem Gy:type_of% @Bool.false_eq_true:=@Bool.false_eq_true
theorem Px:type_of% @Array.getElem?_setIfInBounds_ne:=@Array.getElem?_setIfInBounds_ne
theorem JE:type_of% @List.getElem?_eq_none:=@List.getElem?_eq_none
theorem Lt:type_of% @List.getElem_mem:=@List.getElem_mem
theorem zqq:type_of% @List.drop_append:=@List.drop_append
theorem H8:type_of% @List.eq_nil_of_length_eq_zero:=@List.eq_nil_of_length_eq_zero
theorem zE:type_of% @Nat.lt_or_ge:=@Nat.lt_or_ge
theorem zqt:type_of% @List.drop_eq_getElem_cons:=@List.drop_eq_getElem_cons
theorem Th:type_of% @List.take_succ_eq_append_getElem:=@List.take_succ_eq_append_getElem
theorem Pu:type_of% @List.mem_map:=@List.mem_map
theorem zqw:type_of% @List.take_append:=@List.take_append
theorem Qi:type_of% @List.map_cons:=@List.map_cons
theorem LF:type_of% @List.length_take:=@List.length_take
theorem bB:type_of% @Option.some.injEq:=@Option.some.injEq
inductive Key where
 |z
 |o (k:Key)
 |e (k:Key)
def Key.toNat:Key→Nat
 |.z=>0
 |.o k=>2*k.toNat+1
 |.e k=>2*k.toNat+2
noncomputable def Key.succ(k:Key):Key:=
 Key.rec (.o .z) (fun k _=>.e k) (fun _ ih=>.o ih) k
def Key.dL:Nat→Nat→Key
 |0,_=>.z
 |f+1,n=>bif Nat.beq n 0 then .z else bif Nat.beq (n%2) 1 then .o (Key.dL f (n / 2))else .e (Key.dL f (n / 2-1))
def Key.beq:Key→Key→Bool
 |.z,.z=>true
 |.o a,.o b=>Key.beq a b
 |.e a,.e b=>Key.beq a b
 |_,_=>false
inductive T(α:Type) where
 |nil
 |node (v:Option α) (l r:T α)
noncomputable def ae{α:Type}(k:Key):T α→Option α:=
 Key.rec (fun t=>T.rec none (fun v _ _ _ _=>v) t) (fun _ ih t=>T.rec none (fun _ l _ _ _=>ih l) t)
  (fun _ ih t=>T.rec none (fun _ _ r _ _=>ih r) t) k
noncomputable def pw{α R:Type}(k:Key)(x:Option α):T α→(T α→R)→R:=
 Key.rec (fun t c=>T.rec (c (.node x .nil .nil)) (fun _ l r _ _=>c (.node x l r)) t)
  (fun _ ih t c=>T.rec (ih .nil fun l=>c (.node none l .nil)) (fun v l r _ _=>ih l fun l=>c (.node v l r)) t)
  (fun _ ih t c=>T.rec (ih .nil fun r=>c (.node none .nil r)) (fun v l r _ _=>ih r fun r=>c (.node v l r)) t) k
noncomputable def nth{α:Type}(n:Nat):List α→Option α:=
 Nat.rec (fun l=>List.rec none (fun x _ _=>some x) l) (fun _ ih l=>List.rec none (fun _ t _=>ih t) l) n
noncomputable def pB{α:Type}(n:Nat):List α→List α:=
 Nat.rec (fun l=>l) (fun _ ih l=>List.rec [] (fun _ t _=>ih t) l) n
noncomputable def sD{α R:Type}(n:Nat):List α→R→(List α→R)→R:=
 Nat.rec (fun _ _ c=>c []) (fun _ ih l bad c=>List.rec bad (fun x t _=>ih t bad fun r=>c (x ::r)) l) n
noncomputable def M5{α R:Type}(vs:List α):List α→R→(List α→R)→R:=
 List.rec (fun l _ c=>c l) (fun v _ ih l bad c=>List.rec bad (fun _ t _=>ih t bad fun r=>c (v ::r)) l) vs
noncomputable def JN{α R:Type}(vs:List α)(off:Nat):List α→R→(List α→R)→R:=
 Nat.rec (fun l bad c=>M5 vs l bad c) (fun _ ih l bad c=>List.rec bad (fun x t _=>ih t bad fun r=>c (x ::r)) l) off
noncomputable def GF{α R:Type}(a b:List α)(c:List α→R):R:=
 List.rec (motive:=fun _=>(List α→R)→R) (fun c=>c b) (fun x _ ih c=>ih fun r=>c (x ::r)) a c
noncomputable def lenL{α:Type}(l:List α):Nat:=List.rec 0 (fun _ _ ih=>Nat.succ ih) l
noncomputable def TX{α:Type}(n:Nat)(zs:List α):List α→List α:=
 Nat.rec (fun acc=>acc) (fun _ ih acc=>GF zs (ih acc) fun r=>r) n
inductive SI where
 |lit (n:Int)
 |var (i:Nat)
 |bin (op:BinOp) (k:IntKind) (a b:SI)
inductive SF where
 |any
 |tok (b:Key)
inductive AV where
 |bool (b:Bool)
 |int (k:IntKind) (n:SI)
 |str (n c:Nat)
 |ptr (b:Key) (off:Nat)
 |nilp
 |slice (b:Key) (off len sz:Nat)
 |nils
 |map (b:Key)
 |nilm
 |fn (f:Nat) (first cap:List AV)
 |yld (l:Key)
 |nilf
 |iface (t:Nat) (v:AV)
 |nili
 |agg (l:List AV)
 |tuple (l:List AV)
 |sl (l:List AV) (len sz:Nat) (fl:SF)
 |cref (l:List AV)
def AV.cells:AV→List AV
 |.agg l=>l
 |v=>[v]
def AV.bH:AV→Bool
 |.agg _=>false
 |.tuple _=>false
 |_=>true
def XZ:Int→Int→Bool
 |.ofNat a,.ofNat b=>Nat.beq a b
 |.negSucc a,.negSucc b=>Nat.beq a b
 |_,_=>false
def TY:Int→Int→Bool
 |.ofNat a,.ofNat b=>Nat.blt a b
 |.negSucc a,.negSucc b=>Nat.blt b a
 |.negSucc _,.ofNat _=>true
 |.ofNat _,.negSucc _=>false
def Cs:BinOp→BinOp→Bool
 |.add,.add|.sub,.sub|.mul,.mul|.quo,.quo|.rem,.rem|.lss,.lss|.leq,.leq|.gtr,.gtr|.geq,.geq|.eql,.eql|.neq,.neq=>true
 |_,_=>false
def beqKind:IntKind→IntKind→Bool
 |.i8,.i8|.i16,.i16|.i32,.i32|.i64,.i64|.u8,.u8|.u16,.u16|.u32,.u32|.u64,.u64=>true
 |_,_=>false
def SI.beq:SI→SI→Bool
 |.lit a,.lit b=>XZ a b
 |.var i,.var j=>Nat.beq i j
 |.bin o k a b,.bin o' k' a' b'=>Cs o o'&&beqKind k k'&&SI.beq a a'&&SI.beq b b'
 |_,_=>false
def SF.beq:SF→SF→Bool
 |.any,.any=>true
 |.tok a,.tok b=>Key.beq a b
 |_,_=>false
mutual
def AV.beq:AV→AV→Bool
 |.bool a,.bool b=>a==b
 |.int k a,.int k' b=>beqKind k k'&&SI.beq a b
 |.str n c,.str n' c'=>Nat.beq n n'&&Nat.beq c c'
 |.ptr b o,.ptr b' o'=>Key.beq b b'&&Nat.beq o o'
 |.nilp,.nilp=>true
 |.slice b o l s,.slice b' o' l' s'=>Key.beq b b'&&Nat.beq o o'&&Nat.beq l l'&&Nat.beq s s'
 |.nils,.nils=>true
 |.map b,.map b'=>Key.beq b b'
 |.nilm,.nilm=>true
 |.fn f a c,.fn f' a' c'=>Nat.beq f f'&&AV.AJ a a'&&AV.AJ c c'
 |.yld l,.yld l'=>Key.beq l l'
 |.nilf,.nilf=>true
 |.iface t v,.iface t' v'=>Nat.beq t t'&&AV.beq v v'
 |.nili,.nili=>true
 |.agg l,.agg l'=>AV.AJ l l'
 |.tuple l,.tuple l'=>AV.AJ l l'
 |.sl l n z f,.sl l' n' z' f'=>AV.AJ l l'&&Nat.beq n n'&&Nat.beq z z'&&SF.beq f f'
 |.cref l,.cref l'=>AV.AJ l l'
 |_,_=>false
def AV.AJ:List AV→List AV→Bool
 | [],[]=>true
 |a ::l,b ::m=>AV.beq a b&&AV.AJ l m
 |_,_=>false
end
def full:IntKind→Int
 |.i8|.u8=>256
 |.i16|.u16=>65536
 |.i32|.u32=>4294967296
 |.i64|.u64=>18446744073709551616
def half:IntKind→Int
 |.i8=>128
 |.i16=>32768
 |.i32=>2147483648
 |.i64=>9223372036854775808
 |.u8=>256
 |.u16=>65536
 |.u32=>4294967296
 |.u64=>18446744073709551616
def aX(k:IntKind)(n:Int):Int:=
 bif TY (Int.emod n (full k)) (half k)then Int.emod n (full k)else Int.sub (Int.emod n (full k)) (full k)
inductive PX where
 |t (k:Key)
 |v (a:AV)
inductive ql where
 |bool
 |int
 |str
 |ptr
 |iface
 |slice
 |func
 |map
 |parts (l:List (Nat×ql))
inductive Aw where
 |mov (x:PX)
 |pick (c a b:PX)
 |new (zs:List AV)
 |box (x:PX)
 |build (zs:List AV) (parts:List (Nat×Nat×PX))
 |bslice (sz len:Nat) (zs:List AV) (parts:List (Nat×Nat×PX))
 |load (agg:Bool) (n:Nat) (a:PX)
 |store (n:Nat) (a v:PX)
 |nilc (x:PX)
 |bin (op:BinOp) (x y:PX)
 |eq (neg:Bool) (p:ql) (x y:PX)
 |un (op:UnOp) (x:PX)
 |cint (k:IntKind) (x:PX)
 |cstr (x:PX)
 |cbytes (x:PX)
 |mkif (t:Nat) (x:PX)
 |mkfn (f:Nat) (first cap:List PX)
 |mkmap
 |mkslice (sz:Nat) (zs:List AV) (l c:PX)
 |sliceS (x:PX) (lo hi:Option PX)
 |sliceL (sz:Nat) (x:PX) (lo hi:Option PX)
 |sliceA (len sz:Nat) (x:PX) (lo hi:Option PX)
 |fieldA (off:Nat) (x:PX)
 |field (agg:Bool) (off n:Nat) (x:PX)
 |indexA (len sz:Nat) (x i:PX)
 |indexL (sz:Nat) (x i:PX)
 |indexS (x i:PX)
 |indexV (len:Nat) (agg:Bool) (sz:Nat) (x i:PX)
 |lookup (sk:Bool) (zero:AV) (ok:Bool) (m k:PX)
 |mapupd (sk:Bool) (m k v:PX)
 |mapupdP (p:ql) (m k v:PX)
 |delP (p:ql) (m k:PX)
 |rangeM (x:PX)
 |nextM (x:PX)
 |entryM (x:PX)
 |strb (x:PX)
 |assert (t:Nat) (zero:AV) (ok:Bool) (x:PX)
 |extract (x:PX) (i:Nat)
 |callF (f:Nat) (args:List PX)
 |callV (v:PX) (args:List PX)
 |lenS (x:PX)
 |lenL (x:PX)
 |lenM (x:PX)
 |append (sz:Nat) (s x:PX)
 |mx (isMax:Bool) (a b:PX)
 |dfr (v:PX) (args:List PX)
 |panic (x:PX)
 |recover
structure aq where
 dst:Option Key
 op:Aw
 guard:Option (Key×Bool)
inductive aT where
 |L (i:Nat) (o:aq)
 |A (i:Nat) (o:aq)
 |H (i:Nat) (o:aq) (xJ:List Nat)
 |R (os:List (Nat×aq))
structure SD where
 ds:List Key
 fQ:List (Nat×List Nat)
inductive av where
 |skip
 |ops (l:List aq)
 |staged (l:List aT) (fD:SD)
 |seq (a b:av)
 |cond (c:PX) (a b:av)
 |block (id:Nat) (c:av)
 |loop (c:av)
 |rangeF (f:PX) (params:List Key) (assign body:av)
 |exit (id:Nat)
 |ret
inductive RV where
 |tmp (k:Key)
 |cell (k:Key) (agg:Bool) (n:Nat)
structure dB where
 body:av
 res:List RV
inductive LS where
 |ready|busy|done|exhausted
inductive CK where
 |fix|ro|part
inductive ab where
 |cells (l:List AV) (k:CK)
 |map (l:List (AV×AV))
 |mapD (l:List (Nat×AV×AV)) (clock:Nat)
 |iter (m:Key) (n:Nat) (seen:List Nat)
 |loop (st:LS) (pending:Option av) (fn:Nat) (tm:T AV) (res:List RV) (params:List Key) (assign body:av) (dfs:Key)
 |dfs (taken:Bool)
 |tok
inductive cv where
 |code (c:av)
 |inBlock (id:Nat)
 |inLoop (c:av)
 |ops (l:List aq)
 |staged (l:List aT) (fD:SD) (ak:List (Nat×Key×ab))
 |inRF (l:Key)
 |endRF (l:Key)
 |beginRound
inductive PZ where
 |run
 |ret
 |pan (v:AV) (recovered:Bool)
inductive LM where
 |fn (f:Nat) (args:List AV)
 |coll (b:Key)
structure jL where
 fn:Nat
 tm:T AV
 todo:List cv
 dfs:List LM
 mode:PZ
 xP:Bool
 pz:Option Key
 res:List RV
structure AM where
 fr:jL
 cs:List jL
 h:T ab
 nx:Key
inductive OR where
 |val (v:AV) (h:T ab) (nx:Key)
 |call (f:Nat) (args:List AV)
 |yld (l:Key) (args:List AV)
 |pan (v:AV)
 |dfr (f:Nat) (args:List AV)
 |recover
 |alt (l:List (AV×T ab))
 |bad (why:Nat)
abbrev dP:=List (BinOp×SI×SI×Bool)
def dP.ask(op:BinOp)(a b:SI):dP→Option Bool
 | []=>none
 |(o,x,y,r) ::l=>bif Cs o op&&SI.beq x a&&SI.beq y b then some r else dP.ask op a b l
noncomputable def PX.at(x:PX)(tm:T AV):Option AV:=
 match x with
 |.t k=>ae k tm
 |.v a=>some a
noncomputable def atAll(tm:T AV):List PX→Option (List AV)
 | []=>some []
 |x ::l=>match x.at tm with
  |none=>none
  |some a=>match atAll tm l with
   |none=>none
   |some r=>some (a ::r)
def GG(k:IntKind)(n:Int):Nat:=Int.toNat (Int.emod n (full k))
def arith(op:BinOp)(k:IntKind)(a b:SI):Option SI:=
 match a,b with
 |.lit x,.lit y=>match op with
  |.add=>some (.lit (aX k (Int.add x y)))
  |.sub=>some (.lit (aX k (Int.sub x y)))
  |.mul=>some (.lit (aX k (Int.mul x y)))
  |.quo=>bif XZ y 0 then none else some (.lit (aX k (Int.tdiv x y)))
  |.rem=>bif XZ y 0 then none else some (.lit (Int.tmod x y))
  |.xor=>match k,x,y with
   |.u64,.ofNat m,.ofNat n=>some (.lit (Int.emod (.ofNat (Nat.xor m n)) 18446744073709551616))
   |k,x,y=>some (.lit (aX k (.ofNat (Nat.xor (GG k x) (GG k y)))))
  |.or=>match k,x,y with
   |.u64,.ofNat m,.ofNat n=>some (.lit (Int.emod (.ofNat (Nat.lor m n)) 18446744073709551616))
   |k,x,y=>some (.lit (aX k (.ofNat (Nat.lor (GG k x) (GG k y)))))
  |.and=>match k,x,y with
   |.u64,.ofNat m,.ofNat n=>some (.lit (Int.emod (.ofNat (Nat.land m n)) 18446744073709551616))
   |k,x,y=>some (.lit (aX k (.ofNat (Nat.land (GG k x) (GG k y)))))
  |_=>none
 |_,_=>match op with
  |.add|.sub|.mul=>some (.bin op k a b)
  |_=>none
def zl(orc:dP)(op:BinOp)(a b:SI):Option Bool:=
 match a,b with
 |.lit x,.lit y=>match op with
  |.eql=>some (XZ x y)
  |.neq=>some (!(XZ x y))
  |.lss=>some (TY x y)
  |.leq=>some (!(TY y x))
  |.gtr=>some (TY y x)
  |.geq=>some (!(TY x y))
  |_=>none
 |_,_=>bif SI.beq a b then(match op with
  |.eql|.leq|.geq=>some true
  |.neq|.lss|.gtr=>some false
  |_=>none)else orc.ask op a b
def isCmp:BinOp→Bool
 |.eql|.neq|.lss|.leq|.gtr|.geq=>true
 |_=>false
def TZ:Nat→Nat→Nat→Nat→Bool
 |0,_,m,_=>bif Nat.beq m 0 then false else true
 |n+1,c,m,d=>
  bif Nat.beq m 0 then false
  else bif Nat.blt (c%256) (d%256)then true
  else bif Nat.beq (c%256) (d%256)then TZ n (c / 256) (m-1) (d / 256)else false
def X0(op:BinOp)(n c m d:Nat):Option AV:=
 match op with
 |.add=>bif Nat.ble (n+m) 4611686018427387904 then some (.str (n+m) (c+Nat.shiftLeft d (8*n)))else none
 |.eql=>some (.bool (Nat.beq n m&&Nat.beq c d))
 |.neq=>some (.bool (!(Nat.beq n m&&Nat.beq c d)))
 |.lss=>some (.bool (TZ n c m d))
 |.leq=>some (.bool (!(TZ m d n c)))
 |.gtr=>some (.bool (TZ m d n c))
 |.geq=>some (.bool (!(TZ n c m d)))
 |_=>none
def afV(c lo hi:Nat):AV:=.str (hi-lo) (Nat.mod (Nat.shiftRight c (8*lo)) (Nat.pow 2 (8*(hi-lo))))
mutual
noncomputable def fq(orc:dP):ql→AV→AV→Option Bool
 |.bool,.bool a,.bool b=>some (a==b)
 |.int,.int k a,.int k' b=>bif beqKind k k' then zl orc .eql a b else none
 |.str,.str n c,.str m d=>some (Nat.beq n m&&Nat.beq c d)
 |.ptr,.nilp,.nilp=>some true
 |.ptr,.nilp,.ptr _ _=>some false
 |.ptr,.ptr _ _,.nilp=>some false
 |.ptr,.ptr b o,.ptr b' o'=>bif Key.beq b b' then some (Nat.beq o o')else none
 |.ptr,.nilp,.cref _=>some false
 |.ptr,.cref _,.nilp=>some false
 |.iface,.nili,.nili=>some true
 |.iface,.nili,.iface _ _=>some false
 |.iface,.iface _ _,.nili=>some false
 |.slice,.nils,.nils=>some true
 |.slice,.nils,.slice _ _ _ _=>some false
 |.slice,.slice _ _ _ _,.nils=>some false
 |.slice,.nils,.sl _ _ _ _=>some false
 |.slice,.sl _ _ _ _,.nils=>some false
 |.func,.nilf,.nilf=>some true
 |.func,.nilf,.fn _ _ _=>some false
 |.func,.fn _ _ _,.nilf=>some false
 |.map,.nilm,.nilm=>some true
 |.map,.nilm,.map _=>some false
 |.map,.map _,.nilm=>some false
 |.parts l,.agg a,.agg b=>bM orc l a b
 |_,_,_=>none
noncomputable def bM(orc:dP):List (Nat×ql)→List AV→List AV→Option Bool
 | [],_,_=>some true
 |(off,p) ::l,a,b=>
  match nth off a,nth off b with
  |some x,some y=>match fq orc p x y with
   |some true=>bM orc l a b
   |some false=>some false
   |none=>none
  |_,_=>none
end
noncomputable def BG(tm:T AV):List (Nat×Nat×PX)→List AV→Option (List AV)
 | [],cs=>some cs
 |(off,size,x) ::r,cs=>
  match x.at tm with
  |none=>none
  |some v=>bif Nat.beq (lenL v.cells) size then JN v.cells off cs none (fun cs=>BG tm r cs)else none
noncomputable def qJ(agg:Bool)(off n:Nat)(l:List AV):Option AV:=
 bif agg then sD n (pB off l) none (fun r=>some (.agg r))else nth off l
def keyEq(orc:dP)(sk:Bool):AV→AV→Option Bool
 |.int k a,.int k' b=>bif beqKind k k' && !sk then zl orc .eql a b else none
 |.str n c,.str m d=>bif sk then some (Nat.beq n m&&Nat.beq c d)else none
 |_,_=>none
def findK(orc:dP)(sk:Bool)(k:AV):List (AV×AV)→Option (Option AV)
 | []=>some none
 |(a,v) ::l=>match keyEq orc sk k a with
  |some true=>some (some v)
  |some false=>findK orc sk k l
  |none=>none
def setK(orc:dP)(sk:Bool)(k x:AV):List (AV×AV)→Option (List (AV×AV))
 | []=>some [(k,x)]
 |(a,v) ::l=>match keyEq orc sk k a with
  |some true=>some ((k,x) ::l)
  |some false=>match setK orc sk k x l with
   |some r=>some ((a,v) ::r)
   |none=>none
  |none=>none
def Qj:AV→Bool
 |.bool _|.int _ _|.str _ _=>true
 |_=>false
def yb:List AV→Bool
 | []=>true
 |a ::l=>Qj a&&yb l
noncomputable def Hp(a:List AV):List (Nat×ql)→Bool
 | []=>true
 |(o,_) ::l=>match nth o a with
  |some _=>Hp a l
  |none=>false
noncomputable def Hq:ql→AV→Bool
 |.parts l,.agg a=>yb a&&Hp a l
 |_,_=>false
noncomputable def T0(orc:dP)(p:ql)(k a:AV):Option Bool:=match fq orc p k a with
 |some true=>bif AV.beq k a then some true else none
 |r=>r
noncomputable def JO(orc:dP)(p:ql)(k x:AV):List (AV×AV)→Option (List (AV×AV))
 | []=>some [(k,x)]
 |(a,v) ::l=>match T0 orc p k a with
  |some true=>some ((k,x) ::l)
  |some false=>match JO orc p k x l with
   |some r=>some ((a,v) ::r)
   |none=>none
  |none=>none
def LX:Nat→List (AV×AV)→List (Nat×AV×AV)
 |_,[]=>[]
 |i,(a,v) ::l=>(i,a,v) ::LX (i+1) l
noncomputable def JP(orc:dP)(p:ql)(k:AV):List (Nat×AV×AV)→Option (List (Nat×AV×AV))
 | []=>some []
 |(s,a,v) ::l=>match T0 orc p k a with
  |some true=>some l
  |some false=>match JP orc p k l with
   |some r=>some ((s,a,v) ::r)
   |none=>none
  |none=>none
noncomputable def stamped(b:Key)(h:T ab):Option (List (Nat×AV×AV)×Nat):=match ae b h with
 |some (.map l)=>some (LX 0 l,lenL l)
 |some (.mapD l c)=>some (l,c)
 |_=>none
def TK(i:Nat):List Nat→Bool
 | []=>false
 |j ::l=>bif Nat.beq i j then true else TK i l
def BA(seen:List Nat):List (Nat×AV×AV)→List (Nat×AV×AV)
 | []=>[]
 |(s,a,v) ::l=>bif TK s seen then BA seen l else(s,a,v) ::BA seen l
def M6(s:Nat):List (Nat×AV×AV)→Option AV
 | []=>none
 |(t,k,v) ::l=>bif Nat.beq t s then some (.tuple [k,v])else M6 s l
def JQ:List Nat→Option Nat
 | []=>none
 |s ::l=>match l with
  | []=>some s
  |_ ::_=>JQ l
def Cl(n:Nat):List (Nat×AV×AV)→Bool
 | []=>true
 |(s,_,_) ::l=>Nat.blt s n&&Cl n l
noncomputable def JB(b m:Key)(n:Nat)(seen:List Nat)(h:T ab):List (Nat×AV×AV)→List (AV×T ab)
 | []=>[]
 |(s,k,v) ::l=>pw b (some (.iter m n (seen ++ [s]))) h fun h'=>(.tuple [.bool true,k,v],h') ::JB b m n seen h l
noncomputable def newB(v:Key→AV)(b:ab)(h:T ab)(nx:Key):OR:=
 pw nx (some b) h fun h=>.val (v nx) h nx.succ
def eL:AV→Option Nat
 |.int _ (.lit (.ofNat n))=>some n
 |_=>none
noncomputable def iV(tm:T AV)(T3:Nat):Option PX→Option Nat
 |none=>some T3
 |some x=>match x.at tm with
  |none=>none
  |some v=>eL v
def bytesOf:Nat→Nat→List AV
 |0,_=>[]
 |n+1,c=>.int .u8 (.lit (.ofNat (c%256))) ::bytesOf n (c / 256)
def ofBytes:List AV→Option (Nat×Nat)
 | []=>some (0,0)
 |.int .u8 (.lit (.ofNat b)) ::l=>match ofBytes l with
  |some (n,c)=>bif Nat.blt b 256 then some (n+1,b+256*c)else none
  |none=>none
 |_=>none
noncomputable def allocOp(op:Aw)(tm:T AV):Option ((Key→AV)×ab):=
 match op with
 |.new zs=>some (fun b=>.ptr b 0,.cells zs .fix)
 |.box x=>match x.at tm with
  |some v=>some (fun b=>.ptr b 0,.cells v.cells .fix)
  |none=>none
 |.bslice sz len zs parts=>match BG tm parts (TX len zs [])with
  |some cs=>some (fun b=>.slice b 0 len sz,.cells cs .fix)
  |none=>none
 |.mkmap=>some (fun b=>.map b,.map [])
 |.mkslice sz zs l c=>match l.at tm,c.at tm with
  |some l,some c=>match eL l,eL c with
   |some l,some c=>bif Nat.ble l c&&Nat.ble c 1048576 then some (fun b=>.slice b 0 l sz,.cells (TX c zs []) .fix)else none
   |_,_=>none
  |_,_=>none
 |_=>none
noncomputable def loadB(h:T ab)(b:Key)(agg:Bool)(off n:Nat):Option AV:=
 match ae b h with
 |some (.cells l _)=>qJ agg off n l
 |_=>none
def JR(k:IntKind)(n:Nat):Bool:=match k with
 |.i64|.u64=>Nat.ble n 64
 |.i32|.u32=>Nat.ble n 32
 |.i16|.u16=>Nat.ble n 16
 |.i8|.u8=>Nat.ble n 8
noncomputable def lightOp(orc:dP)(op:Aw)(tm:T AV)(h:T ab):Option AV:=
 match op with
 |.mov x=>x.at tm
 |.pick c a b=>match c.at tm with
  |some (.bool true)=>a.at tm
  |some (.bool false)=>b.at tm
  |_=>none
 |.build zs parts=>match BG tm parts zs with
  |some cs=>some (.agg cs)
  |none=>none
 |.load agg n a=>match a.at tm with
  |some (.ptr b off)=>loadB h b agg off n
  |some (.cref l)=>qJ agg 0 n l
  |_=>none
 |.nilc x=>match x.at tm with
  |some (.ptr b o)=>some (.ptr b o)
  |some (.cref l)=>some (.cref l)
  |some (.fn f a c)=>some (.fn f a c)
  |some (.yld l)=>some (.yld l)
  |some (.iface t v)=>some (.iface t v)
  |_=>none
 |.bin op x y=>match x.at tm,y.at tm with
  |some (.int k a),some (.int k' b)=>
   match op with
   |.shl=>match a,b with
    |.lit a,.lit (.ofNat n)=>bif JR k n then some (.int k (.lit (aX k (Int.mul a (.ofNat (Nat.pow 2 n))))))else none
    |_,_=>none
   |.shr=>match a,b with
    |.lit (.ofNat a),.lit (.ofNat n)=>bif JR k n then some (.int k (.lit (.ofNat (Nat.div a (Nat.pow 2 n)))))else none
    |.lit (.negSucc a),.lit (.ofNat n)=>bif JR k n then some (.int k (.lit (.negSucc (Nat.div a (Nat.pow 2 n)))))else none
    |_,_=>none
   |op=>bif beqKind k k' then
     (bif isCmp op then(match zl orc op a b with|some r=>some (.bool r)|none=>none)
     else(match arith op k a b with|some r=>some (.int k r)|none=>none))
    else none
  |some (.str n c),some (.str m d)=>X0 op n c m d
  |_,_=>none
 |.eq neg p x y=>match x.at tm,y.at tm with
  |some a,some b=>match fq orc p a b with
   |some r=>some (.bool (bif neg then !r else r))
   |none=>none
  |_,_=>none
 |.un op x=>match op,x.at tm with
  |.not,some (.bool b)=>some (.bool (!b))
  |.neg,some (.int k a)=>match arith .sub k (.lit 0) a with
   |some r=>some (.int k r)
   |none=>none
  |_,_=>none
 |.cint k x=>match x.at tm with
  |some (.int _ (.lit n))=>some (.int k (.lit (aX k n)))
  |_=>none
 |.cstr x=>match x.at tm with
  |some (.str n c)=>some (.str n c)
  |_=>none
 |.cbytes x=>match x.at tm with
  |some .nils=>some (.str 0 0)
  |some (.slice b off len sz)=>bif Nat.beq sz 1 then(match ae b h with
   |some (.cells l _)=>sD len (pB off l) none (fun r=>match ofBytes r with
    |some (n,c)=>some (.str n c)
    |none=>none)
   |_=>none)else none
  |some (.sl l _ sz _)=>bif Nat.beq sz 1 then(match ofBytes l with
   |some (n,c)=>some (.str n c)
   |none=>none)else none
  |_=>none
 |.mkif t x=>match x.at tm with
  |some v=>some (.iface t v)
  |none=>none
 |.mkfn f first cap=>match atAll tm first,atAll tm cap with
  |some a,some c=>some (.fn f a c)
  |_,_=>none
 |.sliceS x lo hi=>match x.at tm with
  |some (.str n c)=>match iV tm 0 lo,iV tm n hi with
   |some l,some r=>bif Nat.ble l r&&Nat.ble r n then some (afV c l r)else none
   |_,_=>none
  |_=>none
 |.sliceL sz x lo hi=>match x.at tm with
  |some (.slice b off len Bj)=>match iV tm 0 lo,iV tm len hi with
   |some l,some r=>bif Nat.ble l r&&Nat.ble r len&&Nat.beq sz Bj then some (.slice b (off+l*sz) (r-l) sz)else none
   |_,_=>none
  |some .nils=>match iV tm 0 lo,iV tm 0 hi with
   |some l,some r=>bif Nat.beq l 0&&Nat.beq r 0 then some .nils else none
   |_,_=>none
  |some (.sl cs len Bj fl)=>match iV tm 0 lo,iV tm len hi with
   |some l,some r=>bif Nat.ble l r&&Nat.ble r len&&Nat.beq sz Bj then
     sD ((r-l)*sz) (pB (l*sz) cs) none (fun cs=>some (.sl cs (r-l) sz (bif Nat.beq r len then fl else .any)))else none
   |_,_=>none
  |_=>none
 |.fieldA off x=>match x.at tm with
  |some (.ptr b o)=>some (.ptr b (o+off))
  |some (.cref l)=>some (.cref (pB off l))
  |_=>none
 |.field agg off n x=>match x.at tm with
  |some (.agg l)=>qJ agg off n l
  |_=>none
 |.indexA len sz x i=>match x.at tm,i.at tm with
  |some (.ptr b o),some v=>match eL v with
   |some j=>bif Nat.blt j len then some (.ptr b (o+j*sz))else none
   |none=>none
  |some (.cref l),some v=>match eL v with
   |some j=>bif Nat.blt j len then some (.cref (pB (j*sz) l))else none
   |none=>none
  |_,_=>none
 |.indexL sz x i=>match x.at tm,i.at tm with
  |some (.slice b off len Bj),some v=>match eL v with
   |some j=>bif Nat.blt j len&&Nat.beq sz Bj then some (.ptr b (off+j*sz))else none
   |none=>none
  |some (.sl l len Bj _),some v=>match eL v with
   |some j=>bif Nat.blt j len&&Nat.beq sz Bj then sD sz (pB (j*sz) l) none (fun r=>some (.cref r))else none
   |none=>none
  |_,_=>none
 |.indexS x i=>match x.at tm,i.at tm with
  |some (.str n c),some v=>match eL v with
   |some j=>bif Nat.blt j n then some (.int .u8 (.lit (.ofNat (Nat.mod (Nat.shiftRight c (8*j)) 256))))else none
   |none=>none
  |_,_=>none
 |.indexV len agg sz x i=>match x.at tm,i.at tm with
  |some (.agg l),some v=>match eL v with
   |some j=>bif Nat.blt j len then qJ agg (j*sz) sz l else none
   |none=>none
  |_,_=>none
 |.lookup sk zero ok m k=>match m.at tm,k.at tm with
  |some (.map b),some k=>match ae b h with
   |some (.map l)=>match findK orc sk k l with
    |some (some v)=>some (bif ok then .tuple [v,.bool true]else v)
    |some none=>some (bif ok then .tuple [zero,.bool false]else zero)
    |none=>none
   |_=>none
  |_,_=>none
 |.entryM x=>match x.at tm with
  |some (.ptr b 0)=>match ae b h with
   |some (.iter m n seen)=>match stamped m h,JQ seen with
    |some (l,c),some s=>bif Nat.beq c n then M6 s l else none
    |_,_=>none
   |_=>none
  |_=>none
 |.assert t zero ok x=>match x.at tm with
  |some (.iface t' v)=>bif ok then(bif Nat.beq t t' then some (.tuple [v,.bool true])else some (.tuple [zero,.bool false]))
    else(bif Nat.beq t t' then some v else none)
  |_=>none
 |.extract x i=>match x.at tm with
  |some (.tuple l)=>nth i l
  |_=>none
 |.lenS x=>match x.at tm with
  |some (.str n _)=>some (.int .i64 (.lit (.ofNat n)))
  |_=>none
 |.lenL x=>match x.at tm with
  |some (.slice _ _ n _)=>some (.int .i64 (.lit (.ofNat n)))
  |some (.sl _ n _ _)=>some (.int .i64 (.lit (.ofNat n)))
  |some .nils=>some (.int .i64 (.lit (.ofNat 0)))
  |_=>none
 |.lenM x=>match x.at tm with
  |some (.map b)=>match ae b h with
   |some (.map l)=>some (.int .i64 (.lit (.ofNat (lenL l))))
   |some (.mapD l _)=>some (.int .i64 (.lit (.ofNat (lenL l))))
   |_=>none
  |_=>none
 |.mx isMax a b=>match a.at tm,b.at tm with
  |some (.int k x),some (.int k' y)=>bif beqKind k k' then(match zl orc (bif isMax then .gtr else .lss) y x with
   |some true=>some (.int k y)
   |some false=>some (.int k x)
   |none=>none)else none
  |_,_=>none
 |_=>none
noncomputable def Cj{R:Type}(g:AV→T ab→(AV→T ab→R)→R)(l:List AV):T ab→(List AV→T ab→R)→R:=
 List.rec (fun h c=>c [] h) (fun v _ ih h c=>g v h fun v h=>ih h fun r h=>c (v ::r) h) l
noncomputable def T4{R:Type}(ih:AV→T ab→(AV→T ab→R)→R)(v:AV)(h:T ab)(c:AV→T ab→R):R:=
 match v with
 |.slice b off len sz=>match ae b h with
  |some (.cells l .fix)=>sD (len*sz) (pB off l) (c v h) fun cs=>pw b (some (.cells l .ro)) h fun h=>Cj ih cs h fun cs h=>c (.sl cs len sz .any) h
  |some (.cells l .ro)=>sD (len*sz) (pB off l) (c v h) fun cs=>Cj ih cs h fun cs h=>c (.sl cs len sz .any) h
  |some (.cells l .part)=>sD (len*sz) (pB off l) (c v h) fun cs=>pw b none h fun h=>Cj ih cs h fun cs h=>c (.sl cs len sz .any) h
  |_=>c v h
 |.sl l len sz _=>c (.sl l len sz .any) h
 |.agg cs=>Cj ih cs h fun cs h=>c (.agg cs) h
 |v=>c v h
noncomputable def TH{R:Type}(n:Nat):AV→T ab→(AV→T ab→R)→R:=
 Nat.rec (fun v h c=>c v h) (fun _ ih v h c=>T4 ih v h c) n
def Dg(sz:Nat):Bool:=Nat.beq sz 10
noncomputable def appendTo(sz:Nat)(s:AV)(new:List AV)(m:Nat)(h:T ab)(nx:Key):OR:=
 match s with
 |.nils=>bif Nat.beq m 0 then .val .nils h nx else bif Nat.ble m 1048576 then pw nx (some (.cells new .part)) h fun h=>.val (.slice nx 0 m sz) h nx.succ else .bad 25
 |.sl l len Bj fl=>bif Nat.beq m 0 then .val (.sl l len Bj fl) h nx else bif Nat.beq sz Bj&&Nat.ble (len+m) 1048576&&new.all AV.bH then
  (match fl with
  |.any=>.bad 11
  |.tok b=>match ae b h with
   |some .tok=>GF l new fun r=>pw b none h fun h=>pw nx (some .tok) h fun h=>.val (.sl r (len+m) sz (.tok nx)) h nx.succ
   |_=>.bad 15)else .bad 11
 |.slice b off len Bj=>bif Nat.beq sz Bj&&Nat.ble (len+m) 1048576&&new.all AV.bH then
  (match ae b h with
  |some (.cells l .fix)=>
   bif Nat.ble (off+(len+m)*sz) (lenL l)then
    JN new (off+len*sz) l (.bad 12) (fun l=>pw b (some (.cells l .fix)) h fun h=>.val (.slice b off (len+m) sz) h nx)
   else sD (len*sz) (pB off l) (.bad 14) (fun Qk=>Cj (TH 9999) Qk h fun Qk h=>GF Qk new (fun r=>pw nx (some (.cells r .part)) h fun h=>.val (.slice nx 0 (len+m) sz) h nx.succ))
  |some (.cells l .ro)=>
   bif Nat.ble (off+(len+m)*sz) (lenL l)then .bad 13
   else sD (len*sz) (pB off l) (.bad 14) (fun Qk=>Cj (TH 9999) Qk h fun Qk h=>GF Qk new (fun r=>pw nx (some (.cells r .part)) h fun h=>.val (.slice nx 0 (len+m) sz) h nx.succ))
  |some (.cells l .part)=>
   bif Nat.beq m 0 then .val (.slice b off len Bj) h nx
   else bif (Nat.beq off 0 || !Dg sz)&&Nat.beq (off+len*sz) (lenL l)then
    (bif Dg sz then GF l new fun r=>pw b none h fun h=>pw nx (some (.cells r .part)) h fun h=>.val (.slice nx 0 (len+m) sz) h nx.succ
    else GF (pB off l) new fun r=>pw b none h fun h=>pw nx (some .tok) h fun h=>.val (.sl r (len+m) sz (.tok nx)) h nx.succ)
   else .bad 26
  |_=>.bad 15)else .bad 11
 |_=>.bad 16
def okV(h:T ab)(nx:Key):Option AV→OR
 |some v=>.val v h nx
 |none=>.bad 1
noncomputable def aOp(orc:dP)(op:Aw)(tm:T AV)(h:T ab)(nx:Key):OR:=
 match op with
 |.new _|.box _|.bslice _ _ _ _|.mkmap|.mkslice _ _ _ _=>match allocOp op tm with
  |some (v,b)=>newB v b h nx
  |none=>.bad 2
 |.store n a v=>match a.at tm,v.at tm with
  |some (.ptr b off),some v=>bif Nat.beq (lenL v.cells) n&&v.cells.all AV.bH then
    (match ae b h with
    |some (.cells _ .ro)=>.bad 4
    |some (.cells l g)=>JN v.cells off l (.bad 4) (fun l=>pw b (some (.cells l g)) h fun h=>.val (.tuple []) h nx)
    |_=>.bad 5)
   else .bad 6
  |_,_=>.bad 3
 |.mapupd sk m k v=>match m.at tm,k.at tm,v.at tm with
  |some (.map b),some k,some v=>match ae b h with
   |some (.map l)=>match setK orc sk k v l with
    |some l=>pw b (some (.map l)) h fun h=>.val (.tuple []) h nx
    |none=>.bad 7
   |_=>.bad 8
  |_,_,_=>.bad 9
 |.mapupdP p m k v=>match m.at tm,k.at tm,v.at tm with
  |some (.map b),some k,some v=>match ae b h with
   |some (.map l)=>bif Hq p k then(match JO orc p k v l with
    |some l=>pw b (some (.map l)) h fun h=>.val (.tuple []) h nx
    |none=>.bad 57)else .bad 56
   |_=>.bad 58
  |_,_,_=>.bad 59
 |.delP p m k=>match m.at tm,k.at tm with
  |some (.map b),some k=>match stamped b h with
   |some (l,c)=>bif Hq p k then(match JP orc p k l with
    |some l=>pw b (some (.mapD l c)) h fun h=>.val (.tuple []) h nx
    |none=>.bad 60)else .bad 56
   |none=>.bad 61
  |_,_=>.bad 62
 |.rangeM x=>match x.at tm with
  |some (.map m)=>match stamped m h with
   |some (_,n)=>newB (fun b=>.ptr b 0) (.iter m n []) h nx
   |none=>.bad 63
  |_=>.bad 64
 |.nextM x=>match x.at tm with
  |some (.ptr b 0)=>match ae b h with
   |some (.iter m n seen)=>match stamped m h with
    |some (l,c)=>bif Nat.beq c n&&Cl n l then(match BA seen l with
     | []=>.alt [(.tuple [.bool false],h)]
     |x ::r=>.alt (JB b m n seen h (x ::r)))else .bad 65
    |none=>.bad 66
   |_=>.bad 67
  |_=>.bad 68
 |.strb x=>match x.at tm with
  |some (.str n c)=>.val (.sl (bytesOf n c) n 1 .any) h nx
  |_=>.bad 69
 |.append sz s x=>match s.at tm,x.at tm with
  |some s,some .nils=>appendTo sz s [] 0 h nx
  |some s,some (.slice b off len Bj)=>bif Nat.beq sz Bj then(match ae b h with
   |some (.cells l _)=>sD (len*sz) (pB off l) (.bad 17) (fun new=>Cj (TH 9999) new h fun new h=>appendTo sz s new len h nx)
   |_=>.bad 18)else .bad 19
  |some s,some (.sl l len Bj _)=>bif Nat.beq sz Bj then appendTo sz s l len h nx else .bad 19
  |some s,some (.str n c)=>bif Nat.beq sz 1 then appendTo sz s (bytesOf n c) n h nx else .bad 20
  |_,_=>.bad 10
 |.callF f args=>match atAll tm args with
  |some l=>.call f l
  |none=>.bad 21
 |.callV v args=>match v.at tm,atAll tm args with
  |some (.fn f first cap),some l=>.call f (first++l++cap)
  |some (.yld k),some l=>.yld k l
  |_,_=>.bad 22
 |.dfr v args=>match v.at tm,atAll tm args with
  |some (.fn f first cap),some l=>.dfr f (first++l++cap)
  |_,_=>.bad 23
 |.panic x=>match x.at tm with
  |some (.iface t v)=>.pan (.iface t v)
  |_=>.bad 24
 |.recover=>.recover
 |op=>okV h nx (lightOp orc op tm h)
noncomputable def bJ(g:Option (Key×Bool))(tm:T AV):Option Bool:=
 match g with
 |none=>some true
 |some (k,want)=>match ae k tm with
  |some (.bool b)=>some (b==want)
  |some (.tuple [])=>some false
  |_=>none
noncomputable def qK{R:Type}(d:Option Key)(v:Option AV)(tm:T AV)(c:T AV→R):R:=
 match d with
 |none=>c tm
 |some k=>pw k v tm c
inductive SR where
 |next (m:AM)
 |alt (l:List AM)
 |done (f:Nat) (v:AV) (h:T ab) (nx:Key)
 |pan (v:AV) (h:T ab) (nx:Key)
 |bad (why:Nat) (m:AM)
structure cX where
 orc:dP
 fns:T dB
 sum:Nat→List AV→T ab→Key→Option (AV×T ab×Key)
 raw:Nat→Bool
 lL:Nat→Bool
inductive RR where
 |fin (tm:T AV) (h:T ab) (nx:Key)
 |ev (r:OR) (rest:List aq) (tm:T AV) (h:T ab) (nx:Key)
noncomputable def fX(orc:dP)(l:List aq):T AV→T ab→Key→RR:=
 List.rec (fun tm h nx=>.fin tm h nx)
  (fun o rest ih tm h nx=>match bJ o.guard tm with
   |none=>.ev (.bad 30) (o ::rest) tm h nx
   |some false=>qK o.dst (some (.tuple [])) tm fun tm=>ih tm h nx
   |some true=>match aOp orc o.op tm h nx with
    |.val v h nx=>qK o.dst (some v) tm fun tm=>ih tm h nx
    |r=>.ev r (o ::rest) tm h nx) l
def memN(i:Nat):List Nat→Bool
 | []=>false
 |j ::l=>bif Nat.beq i j then true else memN i l
noncomputable def xJ{R:Type}(l:List Nat)(p:List (Nat×Key×ab)):T ab→(List (Nat×Key×ab)→T ab→R)→R:=
 List.rec (fun h c=>c [] h)
  (fun x _ ih h c=>bif memN x.1 l then pw x.2.1 (some x.2.2) h fun h=>ih h c else ih h fun p h=>c (x ::p) h) p
noncomputable def yc{R:Type}(p:List (Nat×Key×ab)):T ab→(T ab→R)→R:=
 List.rec (fun h c=>c h) (fun x _ ih h c=>pw x.2.1 (some x.2.2) h fun h=>ih h c) p
def xm(i:Nat):List (Nat×List Nat)→List Nat
 | []=>[]
 |(j,l) ::r=>bif Nat.beq i j then l else xm i r
noncomputable def qL(l:List Nat)(ak:List (Nat×Key×ab))(h:T ab):T ab:=match l with
 | []=>h
 |l=>xJ l ak h fun _ h=>h
noncomputable def recheck(orc:dP)(fQ:List (Nat×List Nat))(ak:List (Nat×Key×ab))(tm:T AV)(h:T ab):List (Nat×aq)→Bool
 | []=>true
 |(i,o) ::l=>match bJ o.guard tm with
  |some false=>match o.dst with
   |none=>false
   |some d=>match ae d tm with
    |some (.tuple [])=>recheck orc fQ ak tm h l
    |_=>false
  |some true=>match o.dst with
   |none=>false
   |some d=>match ae d tm,lightOp orc o.op tm (qL (xm i fQ) ak h)with
    |some v,some u=>bif AV.beq v u then recheck orc fQ ak tm h l else false
    |_,_=>false
  |none=>false
inductive RS where
 |fin (tm:T AV) (h:T ab) (nx:Key)
 |ev (r:OR) (rest:List aT) (ak:List (Nat×Key×ab)) (tm:T AV) (h:T ab) (nx:Key)
noncomputable def eJ(orc:dP)(fQ:List (Nat×List Nat))(l:List aT):List (Nat×Key×ab)→T AV→T ab→Key→RS:=
 List.rec (fun ak tm h nx=>yc ak h fun h=>.fin tm h nx)
  (fun x rest ih ak tm h nx=>match x with
  |.L i o=>match bJ o.guard tm with
   |none=>.ev (.bad 31) (x ::rest) ak tm h nx
   |some false=>qK o.dst (some (.tuple [])) tm fun tm=>ih ak tm h nx
   |some true=>match lightOp orc o.op tm (qL (xm i fQ) ak h)with
    |some v=>qK o.dst (some v) tm fun tm=>ih ak tm h nx
    |none=>.ev (.bad 32) (x ::rest) ak tm h nx
  |.A i o=>match bJ o.guard tm with
   |none=>.ev (.bad 33) (x ::rest) ak tm h nx
   |some false=>qK o.dst (some (.tuple [])) tm fun tm=>ih ak tm h nx
   |some true=>match allocOp o.op tm with
    |some (v,b)=>qK o.dst (some (v nx)) tm fun tm=>ih ((i,nx,b) ::ak) tm h nx.succ
    |none=>.ev (.bad 34) (x ::rest) ak tm h nx
  |.H _ o l=>xJ l ak h fun ak h=>match bJ o.guard tm with
   |none=>.ev (.bad 35) (x ::rest) ak tm h nx
   |some false=>qK o.dst (some (.tuple [])) tm fun tm=>ih ak tm h nx
   |some true=>match aOp orc o.op tm h nx with
    |.val v h nx=>qK o.dst (some v) tm fun tm=>ih ak tm h nx
    |r=>.ev r (x ::rest) ak tm h nx
  |.R os=>bif recheck orc fQ ak tm h os then ih ak tm h nx else .ev (.bad 36) (x ::rest) ak tm h nx) l
noncomputable def AD{R:Type}(l:List Key):T AV→(T AV→R)→R:=
 List.rec (fun tm c=>c tm) (fun k _ ih tm c=>pw k none tm fun tm=>ih tm c) l
noncomputable def Ip{R:Type}(l:List AV):Key→T AV→(T AV→R)→R:=
 List.rec (fun _ tm c=>c tm) (fun v _ ih k tm c=>pw k (some v) tm fun tm=>ih k.succ tm c) l
noncomputable def Iq{R:Type}:List Key→List AV→T AV→R→(T AV→R)→R
 | [],[],tm,_,c=>c tm
 |k ::l,v ::m,tm,bad,c=>pw k (some v) tm fun tm=>Iq l m tm bad c
 |_,_,_,bad,_=>bad
def lM(id:Nat):List cv→Option (List cv)
 | []=>none
 |.inBlock id' ::k=>bif Nat.beq id' id then some k else lM id k
 |_ ::k=>lM id k
noncomputable def bc(v:AV)(fr:jL):Option jL:=
 match fr.todo with
 |.ops (o ::rest) ::k=>qK o.dst (some v) fr.tm fun tm=>some {fr with tm,todo:=.ops rest ::k}
 |.staged (.H _ o _ ::rest) fD ak ::k=>qK o.dst (some v) fr.tm fun tm=>some {fr with tm,todo:=.staged rest fD ak ::k}
 |.inRF l ::k=>some {fr with todo:=.endRF l ::k}
 |_=>none
noncomputable def resultsA(h:T ab)(tm:T AV):List RV→Option (List AV)
 | []=>some []
 |.tmp k ::l=>match ae k tm,resultsA h tm l with
  |some v,some r=>some (v ::r)
  |_,_=>none
 |.cell k agg n ::l=>match ae k tm,resultsA h tm l with
  |some (.ptr b off),some r=>match loadB h b agg off n with
   |some v=>some (v ::r)
   |none=>none
  |_,_=>none
def lN:List AV→AV
 | [v]=>v
 |l=>.tuple l
noncomputable def AA(C:cX)(f:Nat)(args:List AV)(xP:Bool)(bad:SR)(c:jL→SR):SR:=
 match (bif Nat.beq (Key.dL 12 f).toNat f then ae (Key.dL 12 f) C.fns else none)with
 |some p=>Ip args .z .nil fun tm=>c {fn:=f,tm,todo:=[.code p.body],dfs:=[],mode:=.run,xP,pz:=none,res:=p.res}
 |none=>bad
noncomputable def PQ{R:Type}(raw:Bool)(l:List AV)(h:T ab)(c:List AV→T ab→R):R:=bif raw then c l h else Cj (TH 9999) l h c
noncomputable def LG(fr:jL)(cs:List jL)(nx:Key):List (AV×T ab)→List AM
 | []=>[]
 |(v,h) ::l=>(match bc v fr with
  |some fr=>⟨fr,cs,h,nx⟩
  |none=>⟨fr,cs,h,nx⟩) ::LG fr cs nx l
noncomputable def ez(C:cX)(r:OR)(fr:jL)(panicked:jL)(cs:List jL)(h:T ab)(nx:Key):SR:=
 match r with
 |.call f args=>PQ (C.raw f) args h fun args h=>match C.sum f args h nx with
  |some (v,h,nx)=>match bc v fr with
   |some fr=>.next ⟨fr,cs,h,nx⟩
   |none=>.bad 39 ⟨fr,cs,h,nx⟩
  |none=>AA C f args false (.bad 40 ⟨fr,cs,h,nx⟩) fun dG=>.next ⟨dG,fr ::cs,h,nx⟩
 |.yld l args=>match ae l h with
  |some (.loop _ _ fn tm res params assign body _)=>
   Iq params args tm (.bad 41 ⟨fr,cs,h,nx⟩) fun tm=>.next ⟨{fn,tm,todo:=[.code assign,.beginRound,.code body],dfs:=[],mode:=.run,xP:=false,pz:=some l,res},fr ::cs,h,nx⟩
  |_=>.bad 42 ⟨fr,cs,h,nx⟩
 |.pan v=>.next ⟨{panicked with mode:=.pan v false},cs,h,nx⟩
 |.dfr f args=>match fr.pz with
  |none=>match bc (.tuple []) fr with
   |some fr=>.next ⟨{fr with dfs:=.fn f args ::fr.dfs},cs,h,nx⟩
   |none=>.bad 43 ⟨fr,cs,h,nx⟩
  |some _=>.bad 44 ⟨fr,cs,h,nx⟩
 |.recover=>match fr.pz,fr.xP,cs with
  |none,true,c ::vQ=>match c.mode with
   |.pan v false=>match bc v fr with
    |some fr=>.next ⟨fr,{c with mode:=.pan v true} ::vQ,h,nx⟩
    |none=>.bad 45 ⟨fr,cs,h,nx⟩
   |.ret=>match bc .nili fr with
    |some fr=>.next ⟨fr,cs,h,nx⟩
    |none=>.bad 46 ⟨fr,cs,h,nx⟩
   |_=>.bad 47 ⟨fr,cs,h,nx⟩
  |_,_,_=>.bad 48 ⟨fr,cs,h,nx⟩
 |.alt l=>match bc .nili fr with
  |none=>.bad 56 ⟨fr,cs,h,nx⟩
  |some _=>.alt (LG fr cs nx l)
 |.val _ _ _=>.bad 49 ⟨fr,cs,h,nx⟩
 |.bad w=>.bad w ⟨fr,cs,h,nx⟩
noncomputable def Eu(v:AV)(fr:jL)(cs:List jL)(h:T ab)(nx:Key):SR:=
 match cs with
 | []=>bif fr.xP then .bad 55 ⟨fr,[],h,nx⟩else .done fr.fn v h nx
 |c ::cs=>bif fr.xP then
   (match c.mode with
   |.pan _ true=>.next ⟨{c with mode:=.ret},cs,h,nx⟩
   |.run=>.bad 50 ⟨c,cs,h,nx⟩
   |_=>.next ⟨c,cs,h,nx⟩)
  else match bc v c with
   |some c=>.next ⟨c,cs,h,nx⟩
   |none=>.bad 51 ⟨c,cs,h,nx⟩
noncomputable def AL(jump:Option av)(fr:jL)(cs:List jL)(h:T ab)(nx:Key):SR:=
 match fr.pz with
 |none=>match jump with
  |none=>.next ⟨{fr with mode:=.ret},cs,h,nx⟩
  |some .ret=>.next ⟨{fr with mode:=.ret},cs,h,nx⟩
  |_=>.bad 52 ⟨fr,cs,h,nx⟩
 |some l=>match cs with
  | []=>.bad 54 ⟨fr,cs,h,nx⟩
  |c ::cs=>match ae l h with
   |some (.loop _ _ fn tm res params assign body dfs)=>
    pw l (some (.loop (match jump with|none=>.ready|some _=>.done) jump fn tm res params assign body dfs)) h fun h=>
     match bc (.bool (match jump with|none=>true|some _=>false)) c with
     |some c=>.next ⟨c,cs,h,nx⟩
     |none=>.bad 51 ⟨c,cs,h,nx⟩
   |_=>.bad 53 ⟨fr,c ::cs,h,nx⟩
noncomputable def bD(C:cX)(fr:jL)(cs:List jL)(h:T ab)(nx:Key):SR:=
 match fr.todo with
 | []=>AL none fr cs h nx
 |x ::k=>match x with
  |.code c=>match c with
   |.skip=>.next ⟨{fr with todo:=k},cs,h,nx⟩
   |.ops l=>.next ⟨{fr with todo:=.ops l ::k},cs,h,nx⟩
   |.staged l d=>.next ⟨{fr with todo:=.staged l d [] ::k},cs,h,nx⟩
   |.seq a b=>.next ⟨{fr with todo:=.code a ::.code b ::k},cs,h,nx⟩
   |.cond x a b=>match x.at fr.tm with
    |some (.bool true)=>.next ⟨{fr with todo:=.code a ::k},cs,h,nx⟩
    |some (.bool false)=>.next ⟨{fr with todo:=.code b ::k},cs,h,nx⟩
    |_=>.bad 60 ⟨fr,cs,h,nx⟩
   |.block id c=>.next ⟨{fr with todo:=.code c ::.inBlock id ::k},cs,h,nx⟩
   |.loop c=>.next ⟨{fr with todo:=.code c ::.inLoop c ::k},cs,h,nx⟩
   |.exit id=>match lM id k with
    |some k=>.next ⟨{fr with todo:=k},cs,h,nx⟩
    |none=>AL (some (.exit id)) fr cs h nx
   |.ret=>AL (some .ret) fr cs h nx
   |.rangeF f params assign body=>match fr.pz,f.at fr.tm with
    |none,some (.fn g first cap)=>
     pw nx (some (.dfs false)) h fun h=>
     pw nx.succ (some (.loop .ready none fr.fn fr.tm fr.res params assign body nx)) h fun h=>
     AA C g (first ++ .yld nx.succ ::cap) false (.bad 61 ⟨fr,cs,h,nx⟩) fun dG=>
      .next ⟨dG,{fr with todo:=.inRF nx.succ ::k,dfs:=.coll nx ::fr.dfs} ::cs,h,nx.succ.succ⟩
    |_,_=>.bad 62 ⟨fr,cs,h,nx⟩
  |.inBlock _=>.next ⟨{fr with todo:=k},cs,h,nx⟩
  |.inLoop c=>.next ⟨{fr with todo:=.code c ::.inLoop c ::k},cs,h,nx⟩
  |.ops l=>match fX C.orc l fr.tm h nx with
   |.fin tm h nx=>.next ⟨{fr with tm,todo:=k},cs,h,nx⟩
   |.ev r rest tm h nx=>ez C r {fr with tm,todo:=.ops rest ::k} {fr with tm,todo:=[]} cs h nx
  |.staged l d ak=>match eJ C.orc d.fQ l ak fr.tm h nx with
   |.fin tm h nx=>.next ⟨{fr with tm,todo:=k},cs,h,nx⟩
   |.ev r rest ak tm h nx=>AD d.ds tm fun aD=>ez C r {fr with tm,todo:=.staged rest d ak ::k} {fr with tm:=aD,todo:=[]} cs h nx
  |.inRF _=>.bad 63 ⟨fr,cs,h,nx⟩
  |.endRF l=>match ae l h with
   |some (.loop st pending fn tm res params assign body dfs)=>match st with
    |.busy=>.bad 64 ⟨fr,cs,h,nx⟩
    |_=>pw l (some (.loop .exhausted pending fn tm res params assign body dfs)) h fun h=>
     .next ⟨{fr with todo:=match pending with|none=>k|some c=>.code c ::k},cs,h,nx⟩
   |_=>.bad 65 ⟨fr,cs,h,nx⟩
  |.beginRound=>match fr.pz with
   |none=>.bad 66 ⟨fr,cs,h,nx⟩
   |some l=>match ae l h with
    |some (.loop .ready pending fn tm res params assign body dfs)=>
     pw l (some (.loop .busy pending fn tm res params assign body dfs)) h fun h=>.next ⟨{fr with todo:=k},cs,h,nx⟩
    |_=>.bad 67 ⟨fr,cs,h,nx⟩
noncomputable def y0(C:cX)(fr:jL)(cs:List jL)(h:T ab)(nx:Key):SR:=
 match fr.dfs with
 |.coll b ::ds=>match ae b h with
  |some (.dfs false)=>pw b (some (.dfs true)) h fun h=>.next ⟨{fr with dfs:=ds},cs,h,nx⟩
  |_=>.bad 70 ⟨fr,cs,h,nx⟩
 |.fn f args ::ds=>AA C f args true (.bad 71 ⟨fr,cs,h,nx⟩) fun dG=>.next ⟨dG,{fr with dfs:=ds} ::cs,h,nx⟩
 | []=>match fr.mode with
  |.run=>.bad 72 ⟨fr,cs,h,nx⟩
  |.ret=>match resultsA h fr.tm fr.res with
   |some l=>PQ (C.lL fr.fn) l h fun l h=>Eu (lN l) fr cs h nx
   |none=>.bad 73 ⟨fr,cs,h,nx⟩
  |.pan v false=>match cs with
   | []=>.pan v h nx
   |c ::cs=>match c.mode with
    |.run=>.next ⟨{c with mode:=.pan v false,todo:=[],tm:=(match c.todo with|.staged _ d _ ::_=>AD d.ds c.tm (fun t=>t)|_=>c.tm)},cs,h,nx⟩
    |_=>.bad 74 ⟨fr,c ::cs,h,nx⟩
  |.pan _ true=>.bad 75 ⟨fr,cs,h,nx⟩
noncomputable def fU(C:cX)(m:AM):SR:=
 match m.fr.mode with
 |.run=>bD C m.fr m.cs m.h m.nx
 |_=>y0 C m.fr m.cs m.h m.nx
noncomputable def ou(C:cX)(n:Nat):AM→SR:=
 Nat.rec (fun m=>.next m) (fun _ ih m=>match fU C m with
  |.next m=>ih m
  |r=>r) n
def zD(nt i:Nat):Option Key:=
 bif Nat.blt i nt&&Nat.beq (Key.dL 12 i).toNat i then some (Key.dL 12 i)else none
def enc:List UInt8→Nat
 | []=>0
 |b ::l=>b.toNat+256*enc l
mutual
def gZ:Nat→Value→Option AV
 |0,_=>none
 |n+1,v=>match v with
  |.bool b=>some (.bool b)
  |.int k i=>some (.int k (.lit i))
  |.string s=>some (.str s.data.toList.length (enc s.data.toList))
  |.pointer none=>some .nilp
  |.slice none 0 0=>some .nils
  |.map none=>some .nilm
  |.nilFunc=>some .nilf
  |.nilIface=>some .nili
  |.iface t v=>match gZ n v with
   |some a=>some (.iface t a)
   |none=>none
  |.agg cs=>match Au n cs.toList with
   |some l=>some (.agg l)
   |none=>none
  |.tuple cs=>match Au n cs.toList with
   |some l=>some (.tuple l)
   |none=>none
  |_=>none
def Au:Nat→List Value→Option (List AV)
 |_,[]=>some []
 |0,_ ::_=>none
 |n+1,v ::l=>match gZ n v,Au n l with
  |some a,some r=>some (a ::r)
  |_,_=>none
end
def ot:=400
def pX(P:Program)(nt:Nat):Operand→Option PX
 |.tmp t=>match zD nt t with
  |some k=>some (.t k)
  |none=>none
 |.const v=>match gZ ot v with
  |some a=>some (.v a)
  |none=>none
 |.global g=>match zD P.globals.size g with
  |some k=>some (.v (.ptr k 0))
  |none=>none
 |.func f=>some (.v (.fn f [] []))
def EE(P:Program)(nt:Nat):List Operand→Option (List PX)
 | []=>some []
 |x ::l=>match pX P nt x,EE P nt l with
  |some a,some r=>some (a ::r)
  |_,_=>none
def PL(P:Program)(nt:Nat):Option Operand→Option (Option PX)
 |none=>some none
 |some x=>match pX P nt x with
  |some a=>some (some a)
  |none=>none
structure TI where
 size:Nat
 agg:Bool
 zero:AV
def Lo(P:Program)(t:TypeId):Option TI:=
 match P.info? t,P.underlying t with
 |some i,some d=>match i.zero with
  |some z=>match gZ ot z with
   |some a=>some ⟨i.size,(match d with|.struct _=>true|.array _ _=>true|_=>false),a⟩
   |none=>none
  |none=>none
 |_,_=>none
def Av(P:Program)(nt:Nat)(place:Nat→Option (Nat×Nat)):List (Nat×Operand)→Option (List (Nat×Nat×PX))
 | []=>some []
 |(i,x) ::l=>match place i,pX P nt x,Av P nt place l with
  |some (off,size),some a,some r=>some ((off,size,a) ::r)
  |_,_,_=>none
def nG(P:Program):List Field→Option (List (Nat×Nat))
 | []=>some []
 |f ::l=>match P.info? f.type,nG P l with
  |some i,some r=>some ((f.offset,i.size) ::r)
  |_,_=>none
def xH(l:List (Nat×ql))(sz:Nat):Nat→Nat→List (Nat×ql)
 |0,_=>[]
 |n+1,off=>l.map (fun x=>(off+x.1,x.2))++xH l sz n (off+sz)
mutual
def He(P:Program):Nat→TypeId→Option ql
 |0,_=>none
 |n+1,t=>match P.underlying t with
  |some .bool=>some .bool
  |some (.int _)=>some .int
  |some .string=>some .str
  |some (.pointer e)=>match P.info? e with
   |some i=>bif Nat.beq i.size 0 then none else some .ptr
   |none=>none
  |some (.interface _)=>some .iface
  |some (.slice _)=>some .slice
  |some (.func _ _ _)=>some .func
  |some (.map _ _)=>some .map
  |some (.struct fs)=>bif P.stoodInHeld t then none else match eqFields P n fs.toList with
   |some l=>some (.parts l)
   |none=>none
  |some (.array len e)=>match P.underlying e,He P n e,P.info? e with
   |some (.struct _),some (.parts l),some i=>bif l.all (fun x=>Nat.blt x.1 i.size)then some (.parts (xH l i.size len 0))else none
   |_,_,_=>none
  |_=>none
def eqFields(P:Program):Nat→List Field→Option (List (Nat×ql))
 |_,[]=>some []
 |0,_ ::_=>none
 | n + 1, f :: l => bif f.name == "_" then none else match He P n f.type, eqFields P n l with
  |some .bool,some r=>some ((f.offset,.bool) ::r)
  |some .int,some r=>some ((f.offset,.int) ::r)
  |some .str,some r=>some ((f.offset,.str) ::r)
  |_,_=>none
end
def H5:ql→Bool
 |.parts _=>true
 |.int=>true
 |.str=>true
 |_=>false
def gj:Operand→Bool
 |.const _=>true
 |_=>false
def eZ(P:Program)(nt:Nat)(o:Oper):Option Aw:=
 match o.op with
 |.move x|.assign x=>(pX P nt x).map .mov
 |.pick c a b=>match pX P nt c,pX P nt a,pX P nt b with
  |some c,some a,some b=>some (.pick c a b)
  |_,_,_=>none
 |.alloc t=>match Lo P t with
  |some i=>some (.new i.zero.cells)
  |none=>none
 |.box _ x=>(pX P nt x).map .box
 |.build t parts=>match Lo P t,P.underlying t with
  |some i,some (.struct fs)=>match nG P fs.toList with
   |some pl=>match Av P nt (pl[·]?) parts.toList with
    |some ps=>some (.build i.zero.cells ps)
    |none=>none
   |none=>none
  |some i,some (.array _ e)=>match P.info? e with
   |some ie=>match Av P nt (fun j=>some (j*ie.size,ie.size)) parts.toList with
    |some ps=>some (.build i.zero.cells ps)
    |none=>none
   |none=>none
  |_,_=>none
 |.buildSlice t len parts=>match P.underlying t with
  |some (.slice e)=>match Lo P e with
   |some ie=>bif Nat.ble (len*ie.size) 16777216&&Nat.blt 0 ie.size&&Nat.beq ie.zero.cells.length ie.size then(match Av P nt (fun j=>some (j*ie.size,ie.size)) parts.toList with
    |some ps=>some (.bslice ie.size len ie.zero.cells ps)
    |none=>none)else none
   |none=>none
  |_=>none
 |.load t a=>match Lo P t,pX P nt a with
  |some i,some a=>some (.load i.agg i.size a)
  |_,_=>none
 |.store t a v=>match P.info? t,pX P nt a,pX P nt v with
  |some i,some a,some v=>some (.store i.size a v)
  |_,_,_=>none
 |.nilCheck x=>(pX P nt x).map .nilc
 |.binOp op t x y _=>match pX P nt x,pX P nt y with
  |some a,some b=>match P.underlying t with
   |some (.int _)=>some (.bin op a b)
   |some .string=>some (.bin op a b)
   |some (.interface _)=>bif gj x||gj y then(match op with
    |.eql=>some (.eq false .iface a b)
    |.neq=>some (.eq true .iface a b)
    |_=>none)else none
   |some (.struct _)=>bif P.eqGuardType P.depth t then none else(match op,He P 100 t with
    |.eql,some p=>some (.eq false p a b)
    |.neq,some p=>some (.eq true p a b)
    |_,_=>none)
   |some (.array _ _)=>bif P.eqGuardType P.depth t then none else(match op,He P 100 t with
    |.eql,some p=>some (.eq false p a b)
    |.neq,some p=>some (.eq true p a b)
    |_,_=>none)
   |some _=>match op,He P 100 t with
    |.eql,some p=>bif H5 p then none else some (.eq false p a b)
    |.neq,some p=>bif H5 p then none else some (.eq true p a b)
    |_,_=>none
   |none=>none
  |_,_=>none
 |.unOp op _ x=>(pX P nt x).map (.un op)
 |.convert src dst x=>match pX P nt x,P.underlying src,P.underlying dst with
  |some a,some (.int _),some (.int k)=>some (.cint k a)
  |some a,some .string,some .string=>some (.cstr a)
  |some a,some (.slice e),some .string=>match P.underlying e with
   |some (.int .u8)=>some (.cbytes a)
   |_=>none
  |some a,some .string,some (.slice e)=>match P.underlying e with
   |some (.int .u8)=>some (.strb a)
   |_=>none
  |_,_,_=>none
 |.makeInterface t x=>match P.underlying t with
  |some (.interface _)=>none
  |none=>none
  |some _=>(pX P nt x).map (.mkif t)
 |.makeFunc (.func f) first cap=>match EE P nt first.toList,EE P nt cap.toList with
  |some a,some c=>some (.mkfn f a c)
  |_,_=>none
 |.makeMap _ none=>some .mkmap
 |.makeSlice t l c=>match P.underlying t with
  |some (.slice e)=>match Lo P e,pX P nt l,pX P nt c with
   |some ie,some l,some c=>match P.info? e with
    |some i=>bif Nat.blt 0 ie.size&&Nat.beq ie.zero.cells.length ie.size&&Nat.ble i.bytes 65536 then some (.mkslice ie.size ie.zero.cells l c)else none
    |none=>none
   |_,_,_=>none
  |_=>none
 |.slice t x lo hi none=>match pX P nt x,PL P nt lo,PL P nt hi with
  |some a,some lo,some hi=>match P.underlying t with
   |some .string=>some (.sliceS a lo hi)
   |some (.slice e)=>match P.info? e with
    |some i=>bif Nat.blt 0 i.size then some (.sliceL i.size a lo hi)else none
    |none=>none
   |_=>none
  |_,_,_=>none
 |.fieldAddr s x f=>match P.underlying s with
  |some (.struct fs)=>match fs[f]? with
   |some fd=>match P.info? fd.type,pX P nt x with
    |some i,some a=>bif Nat.beq i.size 0 then none else some (.fieldA fd.offset a)
    |_,_=>none
   |none=>none
  |_=>none
 |.field t x f=>match P.underlying t with
  |some (.struct fs)=>match fs[f]? with
   |some fd=>match Lo P fd.type,pX P nt x with
    |some i,some a=>some (.field i.agg fd.offset i.size a)
    |_,_=>none
   |none=>none
  |_=>none
 |.indexAddr t x i=>match P.underlying t,pX P nt x,pX P nt i with
  |some (.array len e),some a,some b=>match P.info? e with
   |some ie=>bif Nat.blt 0 ie.size then some (.indexA len ie.size a b)else none
   |none=>none
  |some (.slice e),some a,some b=>match P.info? e with
   |some ie=>bif Nat.blt 0 ie.size then some (.indexL ie.size a b)else none
   |none=>none
  |_,_,_=>none
 |.index t x i=>match P.underlying t,pX P nt x,pX P nt i with
  |some .string,some a,some b=>some (.indexS a b)
  |some (.array len e),some a,some b=>match Lo P e with
   |some ie=>some (.indexV len ie.agg ie.size a b)
   |none=>none
  |_,_,_=>none
 |.lookup t m k ok=>match P.underlying t with
  |some (.map kt e)=>match P.underlying kt,Lo P e,pX P nt m,pX P nt k with
   |some (.int _),some i,some a,some b=>some (.lookup false i.zero ok a b)
   |some .string,some i,some a,some b=>some (.lookup true i.zero ok a b)
   |_,_,_,_=>none
  |_=>none
 |.mapUpdate t m k v|.insert t m k v=>match P.underlying t with
  |some (.map kt _)=>match P.underlying kt,pX P nt m,pX P nt k,pX P nt v with
   |some (.int _),some a,some b,some c=>some (.mapupd false a b c)
   |some .string,some a,some b,some c=>some (.mapupd true a b c)
   |some (.struct _),some a,some b,some c=>match He P 100 kt with
    |some p=>some (.mapupdP p a b c)
    |none=>none
   |some (.array _ _),some a,some b,some c=>match He P 100 kt with
    |some p=>some (.mapupdP p a b c)
    |none=>none
   |_,_,_,_=>none
  |_=>none
 |.range t x=>match P.underlying t with
  |some (.map _ _)=>(pX P nt x).map .rangeM
  |_=>none
 |.next x false=>(pX P nt x).map .nextM
 |.entry x=>(pX P nt x).map .entryM
 |.typeAssert x _ t ok=>match P.underlying t,Lo P t,pX P nt x with
  |some (.interface _),_,_=>none
  |some _,some i,some a=>some (.assert t i.zero ok a)
  |_,_,_=>none
 |.extract x i=>match pX P nt x with
  |some a=>some (.extract a i)
  |none=>none
 |.call c=>match c.callee with
  |.value (.func f)=>match EE P nt c.args.toList,P.funcs[f]? with
   | some l, some fn => bif fn.body.isSome && !(fn.name == "runtime.NumGoroutine") then some (.callF f l) else none
   |_,_=>none
  |.value x=>match pX P nt x,EE P nt c.args.toList with
   |some a,some l=>some (.callV a l)
   |_,_=>none
  |.invoke _ _=>none
  |.builtin b=>match b,EE P nt c.args.toList with
   |.len,some [x]=>match c.argTypes.toList with
    | [t]=>match P.underlying t with
     |some .string=>some (.lenS x)
     |some (.slice _)=>some (.lenL x)
     |some (.map _ _)=>some (.lenM x)
     |_=>none
    |_=>none
   |.append,some [s,x]=>match c.argTypes.toList with
    | [t,u]=>match P.underlying t,P.underlying u with
     |some (.slice e),some (.slice _)=>match Lo P e,P.info? e with
      |some ie,some i=>bif Nat.blt 0 ie.size&&Nat.beq ie.zero.cells.length ie.size&&Nat.ble i.bytes 65536 then some (.append ie.size s x)else none
      |_,_=>none
     |some (.slice e),some .string=>match Lo P e,P.info? e with
      |some ie,some i=>bif Nat.blt 0 ie.size&&Nat.beq ie.zero.cells.length ie.size&&Nat.ble i.bytes 65536 then some (.append ie.size s x)else none
      |_,_=>none
     |_,_=>none
    |_=>none
   |.max,some [x,y]=>some (.mx true x y)
   |.min,some [x,y]=>some (.mx false x y)
   |.recover,some []=>some .recover
   |.delete,some [m,k]=>match c.argTypes.toList with
    |t ::_=>match P.underlying t with
     |some (.map kt _)=>match P.underlying kt,He P 100 kt with
      |some (.struct _),some p=>some (.delP p m k)
      |some (.array _ _),some p=>some (.delP p m k)
      |_,_=>none
     |_=>none
    |_=>none
   |_,_=>none
 |.defer c=>match c.callee with
  |.value x=>match pX P nt x,EE P nt c.args.toList with
   |some a,some l=>some (.dfr a l)
   |_,_=>none
  |_=>none
 |.panic x=>(pX P nt x).map .panic
 |_=>none
def EF(nt:Nat)(ops:Array Oper):Option (Nat×Bool)→Option (Option (Key×Bool))
 |none=>some none
 |some (j,want)=>match ops[j]? with
  |some o=>match o.dst with
   |some d=>match zD nt d with
    |some k=>some (some (k,want))
    |none=>none
   |none=>none
  |none=>none
def C8(P:Program)(nt:Nat)(ops:Array Oper)(o:Oper):Option aq:=
 match eZ P nt o,EF nt ops o.guard with
 |some op,some g=>match o.dst with
  |none=>some ⟨none,op,g⟩
  |some d=>match zD nt d with
   |some k=>some ⟨some k,op,g⟩
   |none=>none
 |_,_=>none
def jw(P:Program)(nt:Nat)(ops:Array Oper):List Nat→Option (List aq)
 | []=>some []
 |i ::l=>match ops[i]? with
  |none=>none
  |some o=>match C8 P nt ops o,jw P nt ops l with
   |some a,some r=>some (a ::r)
   |_,_=>none
def Bn:Aw→Bool
 |.store _ _ _|.mapupd _ _ _ _|.mapupdP _ _ _ _|.delP _ _ _|.rangeM _|.nextM _|.strb _|.append _ _ _|.callF _ _|.callV _ _|.dfr _ _|.panic _|.recover=>true
 |_=>false
def Ek:Aw→Bool
 |.new _|.box _|.bslice _ _ _ _|.mkmap|.mkslice _ _ _ _=>true
 |_=>false
def Ch:Aw→Bool
 |.load _ _ _|.lookup _ _ _ _ _|.cbytes _|.lenM _|.entryM _=>true
 |_=>false
def lB(ops:Array Oper):List Nat:=(Region.before ops).toList
def H6:List aq→Nat→List Nat
 | [],_=>[]
 |o ::l,i=>bif Bn o.op then i ::H6 l (i+1)else H6 l (i+1)
def El(b:Nat):List Nat→Nat
 | []=>0
 |h ::l=>bif Nat.testBit b h then El b l+1 else El b l
def Bo(hs:List Nat)(s:Nat):List (aq×Nat)→Nat→List aT
 | [],_=>[]
 |(o,b) ::l,i=>bif Bn o.op || !(Nat.beq (El b hs) s)then Bo hs s l (i+1)
   else(bif Ek o.op then .A i o else .L i o) ::Bo hs s l (i+1)
def Bp(bh:Nat):List (aq×Nat)→Nat→List Nat
 | [],_=>[]
 |(o,_) ::l,i=>bif Ek o.op&&Nat.testBit bh i then i ::Bp bh l (i+1)else Bp bh l (i+1)
def Ax(hs:List Nat)(s bh:Nat):List (aq×Nat)→Nat→List (Nat×aq)
 | [],_=>[]
 |(o,b) ::l,i=>bif Ch o.op&&Nat.ble (El b hs) s && !(Nat.testBit bh i)then(i,o) ::Ax hs s bh l (i+1)else Ax hs s bh l (i+1)
def afq(l:List (aq×Nat))(i:Nat):Option (aq×Nat):=l[i]?
def EG(hs:List Nat)(all:List (aq×Nat)):Nat→List Nat→Option (List aT)
 |s,[]=>some (Bo hs s all 0)
 |s,h ::rest=>match afq all h,EG hs all (s+1) rest with
  |some (o,b),some r=>some (Bo hs s all 0 ++ .H h o (Bp b all 0) ::.R (Ax hs s b all 0) ::r)
  |_,_=>none
def dstsOf:List aq→List Key
 | []=>[]
 |o ::l=>match o.dst with
  |some d=>d ::dstsOf l
  |none=>dstsOf l
def yS(TE:List (aq×Nat)):List (aq×Nat)→Nat→List (Nat×List Nat)
 | [],_=>[]
 |(o,b) ::l,i=>bif Ch o.op then(match Bp b TE 0 with
   | []=>yS TE l (i+1)
   |ad=>(i,ad) ::yS TE l (i+1))else yS TE l (i+1)
def hasB(m j:Nat):Bool:=Nat.testBit m j
def LC(n a b:Nat):Bool:=(List.range n).all fun j=>!(hasB a j)||hasB b j
def dF(bf:List Nat)(i:Nat):Nat:=(bf[i]?).getD 0
def iq(ops:Array Oper)(o:Oper):List Nat:=
 o.op.operands.toList.filterMap (fun|.tmp t=>some t|_=>none)++(match o.guard with|some (j,_)=>((ops[j]?).bind (·.dst)).toList|none=>[])
def jx(ops:Array Oper)(i:Nat):Option Nat:=(ops[i]?).bind (·.dst)
def Em(ops:Array Oper)(bf:List Nat):Bool:=
 (List.range ops.size).all fun i=>match ops[i]? with
  |none=>false
  |some o=>(o.after.toList.all fun e=>!(Region.binds .any e)||(Nat.blt e.on i&&hasB (dF bf i) e.on)) &&
   (List.range ops.size).all fun j=>!(hasB (dF bf i) j)||o.after.toList.any fun e=>Region.binds .any e&&(Nat.beq e.on j||hasB (dF bf e.on) j)
def H7(ops:Array Oper)(bf:List Nat):Bool:=
 (List.range ops.size).all fun i=>match ops[i]? with
  |none=>false
  |some o=>(List.range ops.size).all fun j=>match jx ops j with
   |none=>true
   |some t=>bif Nat.beq i j then !(iq ops o).contains t else
     !(o.dst==some t)&&(!(iq ops o).contains t||hasB (dF bf i) j||hasB (dF bf j) i)
def xI(ops:Array Oper)(bf:List Nat)(i:Nat):Bool:=match ops[i]? with
 |none=>false
 |some o=>(List.range ops.size).all fun j=>match jx ops j with
  |none=>true
  |some t=>!(iq ops o).contains t||hasB (dF bf i) j
inductive Oa where
 |L (i:Nat)
 |A (i:Nat)
 |H (i:Nat) (xJ:List Nat)
 |R (os:List Nat)
def iOf:aT→Oa
 |.L i _=>.L i
 |.A i _=>.A i
 |.H i _ l=>.H i l
 |.R os=>.R (os.map (·.1))
def xK(pl:List aq):Oa→Option aT
 |.L i=>(pl[i]?).map (.L i)
 |.A i=>(pl[i]?).map (.A i)
 |.H i l=>(pl[i]?).map (fun o=>.H i o l)
 |.R os=>(os.mapM fun i=>(pl[i]?).map fun o=>(i,o)).map .R
def mJ(pl:List aq)(i:Nat):Nat:=match pl[i]? with
 |none=>9
 |some o=>bif Bn o.op then 2 else bif Ek o.op then 1 else 0
def dQ(pl:List aq)(i:Nat):Bool:=match pl[i]? with
 |none=>false
 |some o=>Ch o.op
def Bq(m i:Nat):Nat:=m ||| 2^i
def tn(ops:Array Oper)(pl:List aq)(bf:List Nat):Nat→List Oa→Bool
 |m,[]=>(List.range ops.size).all (hasB m)
 |m,.L i ::r=>Nat.blt i ops.size&&Nat.beq (mJ pl i) 0 && !(hasB m i)&&LC ops.size (dF bf i) m&&tn ops pl bf (Bq m i) r
 |m,.A i ::r=>Nat.blt i ops.size&&Nat.beq (mJ pl i) 1 && !(hasB m i)&&LC ops.size (dF bf i) m&&tn ops pl bf (Bq m i) r
 |m,.H i l ::.R os ::r=>Nat.blt i ops.size&&Nat.beq (mJ pl i) 2 && !(hasB m i)&&LC ops.size (dF bf i) m &&
   ((List.range ops.size).all fun j=>hasB m j||Nat.beq j i || !(LC ops.size (dF bf j) m)) &&
   (l.all fun j=>hasB (dF bf i) j) &&
   ((List.range ops.size).all fun j=>!(hasB m j) || !(dQ pl j)||hasB (dF bf i) j||os.contains j) &&
   (os.all fun j=>Nat.blt j ops.size&&hasB m j&&Nat.beq (mJ pl j) 0&&xI ops bf j) &&
   tn ops pl bf (Bq m i) r
 |_,_=>false
def tT(bf:List Nat):List (Nat×List Nat)→Bool
 | []=>true
 |(i,l) ::r=>(l.all fun j=>hasB (dF bf i) j)&&tT bf r
def XM(ops:Array Oper)(pl:List aq)(bf:List Nat)(l:List Oa):Bool:=Em ops bf&&H7 ops bf&&tn ops pl bf 0 l
def Br(P:Program)(nt:Nat)(ops:Array Oper)(draw:Bool):Option av:=
 match jw P nt ops (List.range ops.size)with
 |none=>none
 |some l=>bif draw then
   (let all:=l.zip (lB ops)
   let hs:=H6 l 0
   match EG hs all 0 hs with
   |some st=>match (st.map iOf).mapM (xK l)with
    |some st=>bif XM ops l (lB ops) (st.map iOf)&&tT (lB ops) (yS all all 0)then some (.staged st ⟨dstsOf l,yS all all 0⟩)else none
    |none=>none
   |none=>none)
  else some (.ops l)
def eu(P:Program)(nt:Nat):Code→Option av
 |.skip=>some .skip
 |.region _ ops draw=>Br P nt ops draw
 |.seq a b=>match eu P nt a,eu P nt b with
  |some a,some b=>some (.seq a b)
  |_,_=>none
 |.cond c a b=>match pX P nt c,eu P nt a,eu P nt b with
  |some c,some a,some b=>some (.cond c a b)
  |_,_,_=>none
 |.block id c=>match eu P nt c with
  |some c=>some (.block id c)
  |none=>none
 |.loop c=>match eu P nt c with
  |some c=>some (.loop c)
  |none=>none
 |.rangeFunc f params a b=>match pX P nt f,params.toList.mapM (zD nt),eu P nt a,eu P nt b with
  |some f,some ps,some a,some b=>some (.rangeF f ps a b)
  |_,_,_,_=>none
 |.exit id=>some (.exit id)
 |.ret=>some .ret
 |.scope c=>match eu P nt c with
  |some c=>some (.seq c .skip)
  |none=>none
 |.label _=>some .skip
 |_=>none
def Gt(P:Program)(nt:Nat):List ResultVar→Option (List RV)
 | []=>some []
 |.tmp t ::l=>match zD nt t,Gt P nt l with
  |some k,some r=>some (.tmp k ::r)
  |_,_=>none
 |.cell a t ::l=>match zD nt a,Lo P t,Gt P nt l with
  |some k,some i,some r=>some (.cell k i.agg i.size ::r)
  |_,_,_=>none
def Ay(P:Program)(f:Nat):Option dB:=
 match P.funcs[f]? with
 |none=>none
 |some fn=>match fn.body with
  |none=>none
  | some c => bif fn.name == "runtime.NumGoroutine" then none else match eu P fn.ntmps c, Gt P fn.ntmps fn.results.toList with
   |some b,some r=>some ⟨b,r⟩
   |_,_=>none
theorem Key.toNat_inj:∀{a b:Key},a.toNat=b.toNat→a=b
 |.z,.z,_=>rfl
 |.z,.o b,h=>by simp[Key.toNat]at h
 |.z,.e b,h=>by simp[Key.toNat]at h
 |.o a,.z,h=>by simp[Key.toNat]at h
 |.e a,.z,h=>by simp[Key.toNat]at h
 |.o a,.o b,h=>by rw[Key.toNat_inj (a:=a) (b:=b) (by simp only[Key.toNat]at h;omega)]
 |.e a,.e b,h=>by rw[Key.toNat_inj (a:=a) (b:=b) (by simp only[Key.toNat]at h;omega)]
 |.o a,.e b,h=>by simp only[Key.toNat]at h;omega
 |.e a,.o b,h=>by simp only[Key.toNat]at h;omega
theorem kTSu:∀(k:Key),k.succ.toNat=k.toNat+1
 |.z=>rfl
 |.o k=>by show(Key.e k).toNat=_;simp only[Key.toNat]
 |.e k=>by show(Key.o k.succ).toNat=_;simp only[Key.toNat,kTSu k];omega
theorem Key.eq_of_beq:∀{a b:Key},Key.beq a b=true→a=b
 |.z,.z,_=>rfl
 |.o a,.o b,h=>by rw[Key.eq_of_beq (a:=a) (b:=b) h]
 |.e a,.e b,h=>by rw[Key.eq_of_beq (a:=a) (b:=b) h]
 |.z,.o _,h=>by cases h
 |.z,.e _,h=>by cases h
 |.o _,.z,h=>by cases h
 |.e _,.z,h=>by cases h
 |.o _,.e _,h=>by cases h
 |.e _,.o _,h=>by cases h
noncomputable def ar{α:Type}(k:Key)(x:Option α)(t:T α):T α:=pw k x t fun t=>t
section
variable{α R:Type}
@[simp] theorem T.get_nil(k:Key):ae k (T.nil:T α)=none:=by cases k<;>rfl
@[simp] theorem T.amg(v:Option α)(l r:T α):ae .z (.node v l r)=v:=rfl
@[simp] theorem T.Sr(k:Key)(v:Option α)(l r:T α):ae (.o k) (.node v l r)=ae k l:=rfl
@[simp] theorem T.Ss(k:Key)(v:Option α)(l r:T α):ae (.e k) (.node v l r)=ae k r:=rfl
theorem sTCe(x:Option α):∀{R:Type} (k:Key) (t:T α) (c:T α→R),pw k x t c=c (ar k x t)
 |_,.z,.nil,c=>rfl
 |_,.z,.node v l r,c=>rfl
 |_,.o k,.nil,c=>by show pw k x .nil (fun l=>c (.node none l .nil))=c (pw k x .nil fun l=>.node none l .nil);rw[sTCe x k .nil,sTCe x k .nil (fun l=>T.node none l .nil)]
 |_,.e k,.nil,c=>by show pw k x .nil (fun r=>c (.node none .nil r))=c (pw k x .nil fun r=>.node none .nil r);rw[sTCe x k .nil,sTCe x k .nil (fun r=>T.node none .nil r)]
 |_,.o k,.node v l r,c=>by show pw k x l (fun l=>c (.node v l r))=c (pw k x l fun l=>.node v l r);rw[sTCe x k l,sTCe x k l (fun l=>T.node v l r)]
 |_,.e k,.node v l r,c=>by show pw k x r (fun r=>c (.node v l r))=c (pw k x r fun r=>.node v l r);rw[sTCe x k r,sTCe x k r (fun r=>T.node v l r)]
theorem T.Cz(k:Key)(x:Option α):ar (.o k) x .nil=.node none (ar k x .nil) .nil:=sTCe x k .nil _
theorem T.CA(k:Key)(x:Option α):ar (.e k) x .nil=.node none .nil (ar k x .nil):=sTCe x k .nil _
theorem T.Rh(k:Key)(x v:Option α)(l r:T α):ar (.o k) x (.node v l r)=.node v (ar k x l) r:=sTCe x k l _
theorem T.Ri(k:Key)(x v:Option α)(l r:T α):ar (.e k) x (.node v l r)=.node v l (ar k x r):=sTCe x k r _
theorem gTSm(x:Option α):∀(k:Key) (t:T α),ae k (ar k x t)=x
 |.z,.nil=>rfl
 |.z,.node v l r=>rfl
 |.o k,.nil=>by rw[T.Cz];exact gTSm x k .nil
 |.e k,.nil=>by rw[T.CA];exact gTSm x k .nil
 |.o k,.node v l r=>by rw[T.Rh];exact gTSm x k l
 |.e k,.node v l r=>by rw[T.Ri];exact gTSm x k r
theorem bQ(x:Option α):∀(k k':Key) (t:T α),k'≠k→ae k' (ar k x t)=ae k' t
 |.z,k',.nil,h=>by
  cases k' with
  |z=>exact absurd rfl h
  |o k'=>show ae k' T.nil=_;simp
  |e k'=>show ae k' T.nil=_;simp
 |.z,k',.node v l r,h=>by
  cases k' with
  |z=>exact absurd rfl h
  |o k'=>rfl
  |e k'=>rfl
 |.o k,k',.nil,h=>by
  rw[T.Cz];cases k' with
  |z=>rfl
  |o k'=>rw[T.Sr,bQ x k k' .nil (fun e=>h (by rw[e]))];simp
  |e k'=>simp
 |.e k,k',.nil,h=>by
  rw[T.CA];cases k' with
  |z=>rfl
  |o k'=>simp
  |e k'=>rw[T.Ss,bQ x k k' .nil (fun e=>h (by rw[e]))];simp
 |.o k,k',.node v l r,h=>by
  rw[T.Rh];cases k' with
  |z=>rfl
  |o k'=>rw[T.Sr,T.Sr];exact bQ x k k' l (fun e=>h (by rw[e]))
  |e k'=>rfl
 |.e k,k',.node v l r,h=>by
  rw[T.Ri];cases k' with
  |z=>rfl
  |o k'=>rfl
  |e k'=>rw[T.Ss,T.Ss];exact bQ x k k' r (fun e=>h (by rw[e]))
theorem nth_eq:∀(n:Nat) (l:List α),nth n l=l[n]?
 |0,[]=>rfl
 |0,x ::l=>rfl
 |n+1,[]=>rfl
 |n+1,x ::l=>by show nth n l=_;rw[nth_eq n l];simp
theorem dropL_eq:∀(n:Nat) (l:List α),pB n l=l.drop n
 |0,l=>rfl
 |n+1,[]=>by simp;rfl
 |n+1,x ::l=>by show pB n l=_;rw[dropL_eq n l];simp
theorem takeC_eq:∀(n:Nat) (l:List α) (bad:R) (c:List α→R),sD n l bad c=if n≤l.length then c (l.take n)else bad
 |0,l,bad,c=>by simp;rfl
 |n+1,[],bad,c=>by simp;rfl
 |n+1,x ::l,bad,c=>by show sD n l bad (fun r=>c (x ::r))=_;rw[takeC_eq n l];simp
theorem KW:∀(vs l:List α) (bad:R) (c:List α→R),M5 vs l bad c=if vs.length≤l.length then c (vs++l.drop vs.length)else bad
 | [],l,bad,c=>by simp;rfl
 |v ::vs,[],bad,c=>by simp;rfl
 |v ::vs,x ::l,bad,c=>by show M5 vs l bad (fun r=>c (v ::r))=_;rw[KW vs l];simp
theorem putC_eq(vs:List α):∀(off:Nat) (l:List α) (bad:R) (c:List α→R),
  JN vs off l bad c=if off+vs.length≤l.length then c (l.take off++vs++l.drop (off+vs.length))else bad
 |0,l,bad,c=>by show M5 vs l bad c=_;rw[KW];simp
 |off+1,[],bad,c=>by
  have:¬(off+1+vs.length≤([]:List α).length):=by simp
  rw[if_neg this];rfl
 |off+1,x ::l,bad,c=>by
  show JN vs off l bad (fun r=>c (x ::r))=_;rw[putC_eq vs off l];have e:(off+1+vs.length≤(x ::l).length)↔(off+vs.length≤l.length):=by simp;omega
  by_cases h:off+vs.length≤l.length
  ·rw[if_pos h,if_pos (e.2 h)];have:off+1+vs.length=(off+vs.length)+1:=by omega
   rw[this];simp
  ·rw[if_neg h,if_neg (fun h'=>h (e.1 h'))]
theorem appC_eq:∀(a b:List α) (c:List α→R),GF a b c=c (a++b)
 | [],b,c=>rfl
 |x ::a,b,c=>by show GF a b (fun r=>c (x ::r))=_;rw[appC_eq a b];simp
theorem lenL_eq:∀(l:List α),lenL l=l.length
 | []=>rfl
 |x ::l=>by show Nat.succ (lenL l)=_;rw[lenL_eq l];simp
theorem repL_eq(zs:List α):∀(n:Nat) (acc:List α),TX n zs acc=(List.replicate n zs).flatten++acc
 |0,acc=>by simp;rfl
 |n+1,acc=>by show GF zs (TX n zs acc) (fun r=>r)=_;rw[appC_eq,repL_eq zs n acc];simp[List.replicate_succ]
end
theorem beqN_eq(a b:Nat):Nat.beq a b=decide (a=b):=by
 by_cases h:a=b
 ·subst h;simp
 ·have:Nat.beq a b=false:=by
   cases e:Nat.beq a b with
   |false=>rfl
   |true=>exact absurd (mo e) h
  rw[this];simp[h]
theorem eqI_eq(a b:Int):XZ a b=(a==b):=by
 cases a with
 |ofNat a=>cases b with
  |ofNat b=>show Nat.beq a b=_;rw[beqN_eq,Bool.eq_iff_iff];simp;omega
  |negSucc b=>show false=_;symm;rw[beq_eq_false_iff_ne];intro h;cases h
 |negSucc a=>cases b with
  |ofNat b=>show false=_;symm;rw[beq_eq_false_iff_ne];intro h;cases h
  |negSucc b=>show Nat.beq a b=_;rw[beqN_eq,Bool.eq_iff_iff];simp
theorem bltN_eq(a b:Nat):Nat.blt a b=decide (a<b):=by rw[Bool.eq_iff_iff,decide_eq_true_iff];unfold Nat.blt;rw[Nat.ble_eq];omega
theorem CT(a b:Int):TY a b=decide (a<b):=by
 cases a with
 |ofNat a=>cases b with
  |ofNat b=>show Nat.blt a b=_;rw[bltN_eq,decide_eq_decide];show a<b↔(a:Int)<(b:Int);omega
  |negSucc b=>show false=_;symm;rw[decide_eq_false_iff_not];have:=Int.negSucc_lt_zero b;show ¬((a:Int)<_);omega
 |negSucc a=>cases b with
  |ofNat b=>show true=_;symm;rw[decide_eq_true_iff];have:=Int.negSucc_lt_zero a;show _<(b:Int);omega
  |negSucc b=>show Nat.blt b a=_;rw[bltN_eq,decide_eq_decide,Int.negSucc_eq,Int.negSucc_eq];omega
theorem NU(k:IntKind):full k=(2^k.bits:Int):=by cases k<;>decide
theorem dV(k:IntKind)(n:Int):aX k n=k.wrap n:=by
 have hm:Int.emod n (full k)=n%(2^k.bits:Int):=by rw[NU];rfl
 have h0:0≤n%(2^k.bits:Int)∧n%(2^k.bits:Int)<(2^k.bits:Int):=
  ⟨Int.emod_nonneg _ (by cases k<;>decide),Int.emod_lt_of_pos _ (by cases k<;>decide)⟩
 unfold aX IntKind.wrap;rw[hm,CT];generalize n%(2^k.bits:Int)=m at h0;by_cases h:m<half k
 ·rw[decide_eq_true h];have:(k.signed&&decide (m≥(2^(k.bits-1):Int)))=false:=by cases k<;>simp[half,IntKind.signed,IntKind.bits]at h h0 ⊢<;>omega
  simp[this]
 ·rw[decide_eq_false h];have:(k.signed&&decide (m≥(2^(k.bits-1):Int)))=true:=by cases k<;>simp[half,IntKind.signed,IntKind.bits]at h h0 ⊢<;>omega
  simp only[this,cond_false,if_true,NU];rfl
theorem nd{a b:IntKind}(h:beqKind a b=true):a=b:=by cases a<;>cases b<;>first|rfl|cases h
theorem HQ{a b:BinOp}(h:Cs a b=true):a=b:=by cases a<;>cases b<;>first|rfl|cases h
theorem SI.eq_of_beq:∀{a b:SI},SI.beq a b=true→a=b
 |.lit a,.lit b,h=>by simp only[SI.beq,eqI_eq,beq_iff_eq]at h;rw[h]
 |.var i,.var j,h=>by rw[mo (n:=i) (m:=j) h]
 |.bin o k a b,.bin o' k' a' b',h=>by simp only[SI.beq,fa]at h;rw[HQ h.1.1.1,nd h.1.1.2,SI.eq_of_beq h.1.2,SI.eq_of_beq h.2]
 |.lit _,.var _,h=>by cases h
 |.lit _,.bin ..,h=>by cases h
 |.var _,.lit _,h=>by cases h
 |.var _,.bin ..,h=>by cases h
 |.bin ..,.lit _,h=>by cases h
 |.bin ..,.var _,h=>by cases h
theorem SF.eq_of_beq:∀{a b:SF},SF.beq a b=true→a=b
 |.any,.any,_=>rfl
 |.tok a,.tok b,h=>by simp only[SF.beq]at h;rw[Key.eq_of_beq h]
 |.any,.tok _,h=>by cases h
 |.tok _,.any,h=>by cases h
mutual
theorem AV.eq_of_beq:∀(a b:AV),AV.beq a b=true→a=b:=by
 intro a b h;cases a with
 |bool b1=>
  cases b with
  |bool b2=>simp only[AV.beq,beq_iff_eq]at h;rw[h]
  |_=>exact absurd h (by simp[AV.beq])
 |int k1 n1=>
  cases b with
  |int k2 n2=>simp only[AV.beq,fa]at h;rw[nd h.1,SI.eq_of_beq h.2]
  |_=>exact absurd h (by simp[AV.beq])
 |str n1 c1=>
  cases b with
  |str n2 c2=>simp only[AV.beq,fa]at h;rw[mo h.1,mo h.2]
  |_=>exact absurd h (by simp[AV.beq])
 |ptr b1 o1=>
  cases b with
  |ptr b2 o2=>simp only[AV.beq,fa]at h;rw[Key.eq_of_beq h.1,mo h.2]
  |_=>exact absurd h (by simp[AV.beq])
 |nilp=>
  cases b with
  |nilp=>rfl
  |_=>exact absurd h (by simp[AV.beq])
 |slice b1 o1 l1 s1=>
  cases b with
  |slice b2 o2 l2 s2=>simp only[AV.beq,fa]at h;rw[Key.eq_of_beq h.1.1.1,mo h.1.1.2,mo h.1.2,mo h.2]
  |_=>exact absurd h (by simp[AV.beq])
 |nils=>
  cases b with
  |nils=>rfl
  |_=>exact absurd h (by simp[AV.beq])
 |map b1=>
  cases b with
  |map b2=>simp only[AV.beq]at h;rw[Key.eq_of_beq h]
  |_=>exact absurd h (by simp[AV.beq])
 |nilm=>
  cases b with
  |nilm=>rfl
  |_=>exact absurd h (by simp[AV.beq])
 |fn f1 a1 c1=>
  cases b with
  |fn f2 a2 c2=>simp only[AV.beq,fa]at h;rw[mo h.1.1,AV.fV _ _ h.1.2,AV.fV _ _ h.2]
  |_=>exact absurd h (by simp[AV.beq])
 |yld l1=>
  cases b with
  |yld l2=>simp only[AV.beq]at h;rw[Key.eq_of_beq h]
  |_=>exact absurd h (by simp[AV.beq])
 |nilf=>
  cases b with
  |nilf=>rfl
  |_=>exact absurd h (by simp[AV.beq])
 |iface t1 v1=>
  cases b with
  |iface t2 v2=>simp only[AV.beq,fa]at h;rw[mo h.1,AV.eq_of_beq _ _ h.2]
  |_=>exact absurd h (by simp[AV.beq])
 |nili=>
  cases b with
  |nili=>rfl
  |_=>exact absurd h (by simp[AV.beq])
 |agg l1=>
  cases b with
  |agg l2=>simp only[AV.beq]at h;rw[AV.fV _ _ h]
  |_=>exact absurd h (by simp[AV.beq])
 |tuple l1=>
  cases b with
  |tuple l2=>simp only[AV.beq]at h;rw[AV.fV _ _ h]
  |_=>exact absurd h (by simp[AV.beq])
 |sl l1 n1 z1 f1=>
  cases b with
  |sl l2 n2 z2 f2=>simp only[AV.beq,fa]at h;rw[AV.fV _ _ h.1.1.1,mo h.1.1.2,mo h.1.2,SF.eq_of_beq h.2]
  |_=>exact absurd h (by simp[AV.beq])
 |cref l1=>
  cases b with
  |cref l2=>simp only[AV.beq]at h;rw[AV.fV _ _ h]
  |_=>exact absurd h (by simp[AV.beq])
theorem AV.fV:∀(a b:List AV),AV.AJ a b=true→a=b
 | [],[],_=>rfl
 |x ::a,y ::b,h=>by simp only[AV.AJ,fa]at h;rw[AV.eq_of_beq x y h.1,AV.fV a b h.2]
 | [],_ ::_,h=>by cases h
 |_ ::_,[],h=>by cases h
end
end Go.Sx
namespace Go.Sx
open Go.RowKit
structure Loc where
 c:Nat
 base:Nat
 ext:Nat
structure Mu where
 loc:Key→Option Loc
 fz:Nat→Nat→Option Value
instance:CoeFun Mu (fun _=>Key→Option Loc):=⟨Mu.loc⟩
structure Mu.le(μ μ':Mu):Prop where
 l:∀b l,μ b=some l→μ' b=some l
 f:∀c i v,μ.fz c i=some v→μ'.fz c i=some v
theorem Mu.le_refl(μ:Mu):μ.le μ:=⟨fun _ _ h=>h,fun _ _ _ h=>h⟩
theorem Mu.le_trans{a b c:Mu}(h:a.le b)(k:b.le c):a.le c:=⟨fun x l e=>k.l x l (h.l x l e),fun x i v e=>k.f x i v (h.f x i v e)⟩
def Ff(μ:Mu)(c o len cap sz:Nat):SF→Prop
 |.any=>True
 |.tok b=>μ b=some ⟨c,o+len*sz,(cap-len)*sz⟩
theorem Ff.mono{μ μ':Mu}(hm:μ.le μ'){c o len cap sz:Nat}{fl:SF}(h:Ff μ c o len cap sz fl):Ff μ' c o len cap sz fl:=by
 cases fl with
 |any=>trivial
 |tok b=>exact hm.l _ _ h
def SI.den(ρ:Nat→Int):SI→Int
 |.lit n=>n
 |.var i=>ρ i
 |.bin .add k a b=>k.wrap (a.den ρ+b.den ρ)
 |.bin .sub k a b=>k.wrap (a.den ρ-b.den ρ)
 |.bin .mul k a b=>k.wrap (a.den ρ*b.den ρ)
 |.bin _ _ _ _=>0
mutual
inductive aA(ρ:Nat→Int)(μ:Mu):AV→Value→Prop
 |bool (b:Bool):aA ρ μ (.bool b) (.bool b)
 |int (k:IntKind) (s:SI) (n:Int) (h:s.den ρ=n):aA ρ μ (.int k s) (.int k n)
 |str (n c:Nat) (s:ByteArray) (h:s.data.toList.length=n) (h':enc s.data.toList=c):aA ρ μ (.str n c) (.string s)
 |ptr (b:Key) (off:Nat) (l:Loc) (a:Addr) (h:μ b=some l) (ha:a=⟨l.c,l.base+off,none⟩):aA ρ μ (.ptr b off) (.pointer (some a))
 |nilp:aA ρ μ .nilp (.pointer none)
 |slice (b:Key) (off len sz cap:Nat) (l:Loc) (a:Addr) (h:μ b=some l) (hc:off+cap*sz=l.ext) (hl:len≤cap)
   (ha:cap=0∨a=⟨l.c,l.base+off,none⟩):aA ρ μ (.slice b off len sz) (.slice (some a) len cap)
 |nils:aA ρ μ .nils (.slice none 0 0)
 |map (b:Key) (l:Loc) (r:Nat) (h:μ b=some l) (hr:r=l.c):aA ρ μ (.map b) (.map (some r))
 |nilm:aA ρ μ .nilm (.map none)
 |fn (f:Nat) (first cap:List AV) (vs ws:Array Value) (h:ao ρ μ first vs.toList) (h':ao ρ μ cap ws.toList):aA ρ μ (.fn f first cap) (.func (.func f) vs ws)
 |yld (b:Key) (l:Loc) (r:Nat) (h:μ b=some l) (hr:r=l.c):aA ρ μ (.yld b) (.func (.yield r) #[] #[])
 |nilf:aA ρ μ .nilf .nilFunc
 |iface (t:Nat) (a:AV) (v:Value) (h:aA ρ μ a v):aA ρ μ (.iface t a) (.iface t v)
 |nili:aA ρ μ .nili .nilIface
 |agg (l:List AV) (vs:Array Value) (h:ao ρ μ l vs.toList):aA ρ μ (.agg l) (.agg vs)
 |tuple (l:List AV) (vs:Array Value) (h:ao ρ μ l vs.toList):aA ρ μ (.tuple l) (.tuple vs)
 |sl (l:List AV) (len sz:Nat) (fl:SF) (cap c o:Nat) (a:Addr) (vs:List Value) (h:ao ρ μ l vs) (hn:l.length=len*sz) (hl:len≤cap) (ha:cap=0∨a=⟨c,o,none⟩)
   (hf:∀i v,vs[i]?=some v→μ.fz c (o+i)=some v) (hg:Ff μ c o len cap sz fl):aA ρ μ (.sl l len sz fl) (.slice (some a) len cap)
 |cref (l:List AV) (c o:Nat) (a:Addr) (vs:List Value) (h:ao ρ μ l vs) (ha:a=⟨c,o,none⟩) (hf:∀i v,vs[i]?=some v→μ.fz c (o+i)=some v):aA ρ μ (.cref l) (.pointer (some a))
inductive ao(ρ:Nat→Int)(μ:Mu):List AV→List Value→Prop
 |nil:ao ρ μ [] []
 |cons (a:AV) (l:List AV) (v:Value) (vs:List Value) (h:aA ρ μ a v) (h':ao ρ μ l vs):ao ρ μ (a ::l) (v ::vs)
end
mutual
theorem aA.mono{ρ:Nat→Int}{μ μ':Mu}(hm:μ.le μ'):∀{a:AV} {v:Value},aA ρ μ a v→aA ρ μ' a v
 |_,_,.bool b=>.bool b
 |_,_,.int k s n h=>.int k s n h
 |_,_,.str n c s h h'=>.str n c s h h'
 |_,_,.ptr b off l a h ha=>.ptr b off l a (hm.l _ _ h) ha
 |_,_,.nilp=>.nilp
 |_,_,.slice b off len sz cap l a h hc hl ha=>.slice b off len sz cap l a (hm.l _ _ h) hc hl ha
 |_,_,.nils=>.nils
 |_,_,.map b l r h hr=>.map b l r (hm.l _ _ h) hr
 |_,_,.nilm=>.nilm
 |_,_,.fn f first cap vs ws h h'=>.fn f first cap vs ws (ao.mono hm h) (ao.mono hm h')
 |_,_,.yld b l r h hr=>.yld b l r (hm.l _ _ h) hr
 |_,_,.nilf=>.nilf
 |_,_,.iface t a v h=>.iface t a v (aA.mono hm h)
 |_,_,.nili=>.nili
 |_,_,.agg l vs h=>.agg l vs (ao.mono hm h)
 |_,_,.tuple l vs h=>.tuple l vs (ao.mono hm h)
 |_,_,.sl l len sz fl cap c o a vs h hn hl ha hf hg=>.sl l len sz fl cap c o a vs (ao.mono hm h) hn hl ha (fun i v e=>hm.f _ _ _ (hf i v e)) (hg.mono hm)
 |_,_,.cref l c o a vs h ha hf=>.cref l c o a vs (ao.mono hm h) ha (fun i v e=>hm.f _ _ _ (hf i v e))
theorem ao.mono{ρ:Nat→Int}{μ μ':Mu}(hm:μ.le μ'):∀{l:List AV} {vs:List Value},ao ρ μ l vs→ao ρ μ' l vs
 |_,_,.nil=>.nil
 |_,_,.cons a l v vs h h'=>.cons a l v vs (aA.mono hm h) (ao.mono hm h')
end
section
variable{ρ:Nat→Int}{μ:Mu}
theorem ao.length{l:List AV}{vs:List Value}(h:ao ρ μ l vs):l.length=vs.length:=by
 induction l generalizing vs with
 |nil=>cases h;rfl
 |cons a l ih=>cases h with|cons _ _ v vs h h'=>simp[ih h']
theorem ao.get{l:List AV}{vs:List Value}(h:ao ρ μ l vs):∀(i:Nat) (a:AV),l[i]?=some a→∃v,vs[i]?=some v∧aA ρ μ a v:=by
 induction l generalizing vs with
 |nil=>intro i a h';simp at h'
 |cons x l ih=>
  cases h with
  |cons _ _ v vs h h'=>
   intro i a hi;cases i with
   |zero=>simp at hi;subst hi;exact⟨v,by simp,h⟩
   |succ i=>simpa using ih h' i a (by simpa using hi)
theorem ao.EP:∀{l:List AV} {vs:List Value},l.length=vs.length→(∀(i:Nat) (a:AV),l[i]?=some a→∃v,vs[i]?=some v∧aA ρ μ a v)→ao ρ μ l vs
 | [],[],_,_=>.nil
 | [],_ ::_,h,_=>by simp at h
 |_ ::_,[],h,_=>by simp at h
 |a ::l,v ::vs,h,hg=>by
  refine .cons a l v vs ?_ (ao.EP (by simpa using h) fun i b hb=>?_)
  ·obtain⟨v',hv,hr⟩:=hg 0 a (by simp);simp at hv;subst hv;exact hr
  ·obtain⟨v',hv,hr⟩:=hg (i+1) b (by simpa using hb);exact⟨v',by simpa using hv,hr⟩
theorem ao.append{a b:List AV}{va vb:List Value}(h:ao ρ μ a va)(h':ao ρ μ b vb):ao ρ μ (a++b) (va++vb):=by
 induction a generalizing va with
 |nil=>cases h;exact h'
 |cons x a ih=>cases h with|cons _ _ v vs h1 h2=>exact .cons _ _ _ _ h1 (ih h2)
theorem ao.take{l:List AV}{vs:List Value}(h:ao ρ μ l vs)(n:Nat):ao ρ μ (l.take n) (vs.take n):=by
 induction n generalizing l vs with
 |zero=>simp;exact .nil
 |succ n ih=>cases h with
  |nil=>exact .nil
  |cons a l v vs h h'=>exact .cons _ _ _ _ h (ih h')
theorem ao.drop{l:List AV}{vs:List Value}(h:ao ρ μ l vs)(n:Nat):ao ρ μ (l.drop n) (vs.drop n):=by
 induction n generalizing l vs with
 |zero=>exact h
 |succ n ih=>cases h with
  |nil=>exact .nil
  |cons a l v vs h h'=>exact ih h'
theorem ao.one{a:AV}{v:Value}(h:aA ρ μ a v):ao ρ μ [a] [v]:=.cons _ _ _ _ h .nil
theorem ao.replicate{zs:List AV}{vs:List Value}(h:ao ρ μ zs vs):∀(n:Nat),ao ρ μ (List.replicate n zs).flatten (List.replicate n vs).flatten
 |0=>.nil
 |n+1=>by simp only[List.replicate_succ,zqk];exact h.append (ao.replicate h n)
theorem aA.cells{a:AV}{v:Value}(h:aA ρ μ a v):ao ρ μ a.cells v.cells.toList:=by
 cases h with
 |agg l vs h=>exact h
 |_=>first|exact ao.one (.bool _)|exact ao.one (.int _ _ _ ‹_›)|exact ao.one (.str _ _ _ ‹_› ‹_›)|exact ao.one (.ptr _ _ _ _ ‹_› ‹_›)|exact ao.one .nilp|exact ao.one (.slice _ _ _ _ _ _ _ ‹_› ‹_› ‹_› ‹_›)|exact ao.one .nils|exact ao.one (.map _ _ _ ‹_› ‹_›)|exact ao.one .nilm|exact ao.one (.fn _ _ _ _ _ ‹_› ‹_›)|exact ao.one (.yld _ _ _ ‹_› ‹_›)|exact ao.one .nilf|exact ao.one (.iface _ _ _ ‹_›)|exact ao.one .nili|exact ao.one (.tuple _ _ ‹_›)|exact ao.one (.sl _ _ _ _ _ _ _ _ _ ‹_› ‹_› ‹_› ‹_› ‹_› ‹_›)|exact ao.one (.cref _ _ _ _ _ ‹_› ‹_› ‹_›)
theorem aA.Uj{a:AV}{v:Value}(h:aA ρ μ a v)(hc:a.bH=true):(∀vs,v≠.agg vs)∧(∀vs,v≠.tuple vs):=by cases h<;>simp_all [AV.bH]
end
mutual
theorem eD{ρ:Nat→Int}{μ:Mu}:∀(n:Nat) (v:Value) (a:AV),gZ n v=some a→aA ρ μ a v:=by
 intro n v a h;cases n with
 |zero=>simp[gZ]at h
 |succ n=>
  cases v with
  |bool b=>simp only[gZ,bB]at h;subst h;exact .bool b
  |int k i=>simp only[gZ,bB]at h;subst h;exact .int k _ _ rfl
  |string s=>simp only[gZ,bB]at h;subst h;exact .str _ _ _ rfl rfl
  |pointer p=>cases p with
   |none=>simp only[gZ,bB]at h;subst h;exact .nilp
   |some p=>simp[gZ]at h
  |slice p len cap=>
   unfold gZ at h;split at h<;>first|(cases h)|skip
   all_goals first|(simp at h;done)|skip
   all_goals simp_all
   all_goals first|exact .nils|skip
  |map r=>cases r with
   |none=>simp only[gZ,bB]at h;subst h;exact .nilm
   |some p=>simp[gZ]at h
  |nilFunc=>simp only[gZ,bB]at h;subst h;exact .nilf
  |nilIface=>simp only[gZ,bB]at h;subst h;exact .nili
  |iface t v=>
   simp only[gZ]at h;split at h
   ·rename_i b hb;cases h;exact .iface _ _ _ (eD n v b hb)
   ·simp at h
  |agg cs=>
   simp only[gZ]at h;split at h
   ·rename_i b hb;cases h;exact .agg _ _ (AO n cs.toList b hb)
   ·simp at h
  |tuple cs=>
   simp only[gZ]at h;split at h
   ·rename_i b hb;cases h;exact .tuple _ _ (AO n cs.toList b hb)
   ·simp at h
  |float k b=>simp[gZ]at h
  |complex k a b=>simp[gZ]at h
  |chan r=>simp[gZ]at h
  |func f a b=>simp[gZ]at h
theorem AO{ρ:Nat→Int}{μ:Mu}:∀(n:Nat) (vs:List Value) (l:List AV),Au n vs=some l→ao ρ μ l vs:=by
 intro n vs l h;cases vs with
 |nil=>cases n<;>(simp only[Au,bB]at h;subst h;exact .nil)
 |cons v vs=>
  cases n with
  |zero=>simp[Au]at h
  |succ n=>
   simp only[Au]at h;split at h
   ·rename_i a r ha hr;cases h;exact .cons _ _ _ _ (eD n v a ha) (AO n vs r hr)
   ·simp at h
end
def gG(ρ:Nat→Int)(μ:Mu)(nt:Nat)(tm:T AV)(tmps:Array Value):Prop:=
 nt≤tmps.size∧∀k a,ae k tm=some a→∃v,tmps[k.toNat]?=some v∧aA ρ μ a v
def ju(ρ:Nat→Int)(μ:Mu):List (AV×AV)→List MapEntry→Prop
 | [],[]=>True
 |(k,a) ::l,e ::es=>aA ρ μ k e.key∧aA ρ μ a e.val∧ju ρ μ l es
 |_,_=>False
def fc(ρ:Nat→Int)(μ:Mu):List (Nat×AV×AV)→List MapEntry→Prop
 | [],[]=>True
 |(s,k,a) ::l,e ::es=>e.born=s∧aA ρ μ k e.key∧aA ρ μ a e.val∧fc ρ μ l es
 |_,_=>False
def MQ:LS→LoopState→Prop
 |.ready,.ready|.busy,.busy|.done,.done|.exhausted,.exhausted=>True
 |_,_=>False
def PR(P:Program)(nt:Nat)(pc:av)(c:Code):Prop:=eu P nt c=some pc
def Hh(P:Program)(nt:Nat):Option av→Option Code→Prop
 |none,none=>True
 |some pc,some c=>PR P nt pc c
 |_,_=>False
def Ic(ks:List Key)(ts:List Nat):Prop:=ks.map Key.toNat=ts
structure PS(P:Program)(f:Nat)(nt:Nat)(res:List RV):Prop where
 ex:∃fn,P.funcs[f]?=some fn∧fn.ntmps=nt∧Gt P fn.ntmps fn.results.toList=some res
inductive zn(P:Program)(ρ:Nat→Int)(μ:Mu):ab→Loc→Obj→Prop
 |cells (L:List AV) (k:CK) (l:Loc) (arr:Array Value) (elem:TypeId) (fz:Nat×Nat)
   (hc:∀i a,L[i]?=some a→∃v,arr[l.base+i]?=some v∧aA ρ μ a v)
   (hs:l.base+l.ext≤arr.size) (hl:L.length≤l.ext) (hf:k≠.ro→fz=(0,0)) (he:k≠.part→L.length=l.ext) :
   zn P ρ μ (.cells L k) l (.cells arr elem fz)
 |map (L:List (AV×AV)) (l:Loc) (es:Array MapEntry) (clock:Nat) (h:ju ρ μ L es.toList) (hb:∀(i:Nat) (e:MapEntry),es.toList[i]?=some e→e.born=i) (hc:clock=L.length):zn P ρ μ (.map L) l (.map es clock)
 |mapD (L:List (Nat×AV×AV)) (l:Loc) (es:Array MapEntry) (clock:Nat) (h:fc ρ μ L es.toList):zn P ρ μ (.mapD L clock) l (.map es clock)
 |iter (m:Key) (n:Nat) (seen:List Nat) (l lm:Loc) (sa:Array Nat) (h:μ m=some lm) (hs:sa.toList=seen) (hz:l.base=0):zn P ρ μ (.iter m n seen) l (.mapIter (some lm.c) n sa n)
 |loop (st:LS) (pd:Option av) (fn nt:Nat) (tm:T AV) (res:List RV) (params:List Key) (as bd:av) (dfs:Key) (ld:Loc) (l:Loc) (L:Loop)
   (h1:MQ st L.state) (h2:∀n,Hh P n pd L.pending) (h3:L.fn=fn) (h4:gG ρ μ nt tm L.tmps) (h5:Ic params L.params.toList)
   (We:∀k∈params,k.toNat<nt) (h6:PR P nt as L.assign) (h7:PR P nt bd L.body) (h8:μ dfs=some ld) (h9:L.defers=ld.c) (h10:PS P fn nt res) :
   zn P ρ μ (.loop st pd fn tm res params as bd dfs) l (.loop L)
 |dfs (taken:Bool) (l:Loc):zn P ρ μ (.dfs taken) l (.deferred (if taken then none else some []))
 |tok (l:Loc) (arr:Array Value) (elem:TypeId) (hs:l.base+l.ext≤arr.size):zn P ρ μ .tok l (.cells arr elem (0,0))
theorem gG.mono{ρ:Nat→Int}{μ μ':Mu}(hm:μ.le μ'){nt:Nat}{tm:T AV}{tmps:Array Value}(h:gG ρ μ nt tm tmps):gG ρ μ' nt tm tmps:=
 ⟨h.1,fun k a ha=>let ⟨v,hv,hr⟩:=h.2 k a ha;⟨v,hv,hr.mono hm⟩⟩
theorem ju.mono{ρ:Nat→Int}{μ μ':Mu}(hm:μ.le μ'):∀{l:List (AV×AV)} {es:List MapEntry},ju ρ μ l es→ju ρ μ' l es
 | [],[],_=>trivial
 |(_,_) ::_,_ ::_,h=>⟨h.1.mono hm,h.2.1.mono hm,ju.mono hm h.2.2⟩
 | [],_ ::_,h=>h.elim
 |(_,_) ::_,[],h=>h.elim
theorem fc.mono{ρ:Nat→Int}{μ μ':Mu}(hm:μ.le μ'):∀{l:List (Nat×AV×AV)} {es:List MapEntry},fc ρ μ l es→fc ρ μ' l es
 | [],[],_=>trivial
 |(_,_,_) ::_,_ ::_,h=>⟨h.1,h.2.1.mono hm,h.2.2.1.mono hm,fc.mono hm h.2.2.2⟩
 | [],_ ::_,h=>h.elim
 |(_,_,_) ::_,[],h=>h.elim
theorem ju.length{ρ:Nat→Int}{μ:Mu}:∀{l:List (AV×AV)} {es:List MapEntry},ju ρ μ l es→l.length=es.length
 | [],[],_=>rfl
 |(_,_) ::_,_ ::_,h=>by simp[ju.length h.2.2]
 | [],_ ::_,h=>h.elim
 |(_,_) ::_,[],h=>h.elim
theorem ju.stamps{ρ:Nat→Int}{μ:Mu}:∀{l:List (AV×AV)} {es:List MapEntry} (n:Nat),ju ρ μ l es→(∀(i:Nat) (e:MapEntry),es[i]?=some e→e.born=n+i)→fc ρ μ (LX n l) es
 | [],[],_,_,_=>trivial
 |(_,_) ::_,e ::es,n,h,hb=>⟨by simpa using hb 0 e (by simp),h.1,h.2.1,ju.stamps (n+1) h.2.2 fun i e' he=>by have:=hb (i+1) e' (by simpa using he);omega⟩
 | [],_ ::_,_,h,_=>h.elim
 |(_,_) ::_,[],_,h,_=>h.elim
theorem zn.mono{P:Program}{ρ:Nat→Int}{μ μ':Mu}(hm:μ.le μ'){B:ab}{l:Loc}{o:Obj}(h:zn P ρ μ B l o):zn P ρ μ' B l o:=by
 cases h with
 |cells L k l arr elem fz hc hs hl hf he=>exact .cells L k l arr elem fz (fun i a ha=>let ⟨v,hv,hr⟩:=hc i a ha;⟨v,hv,hr.mono hm⟩) hs hl hf he
 |map L l es clock h hb hc=>exact .map L l es clock (h.mono hm) hb hc
 |mapD L l es clock h=>exact .mapD L l es clock (h.mono hm)
 |iter m n seen l lm sa h hs hz=>exact .iter m n seen l lm sa (hm.l _ _ h) hs hz
 |loop st pd fn nt tm res params as bd dfs ld l L h1 h2 h3 h4 h5 We h6 h7 h8 h9 h10=>exact .loop st pd fn nt tm res params as bd dfs ld l L h1 h2 h3 (h4.mono hm) h5 We h6 h7 (hm.l _ _ h8) h9 h10
 |dfs taken l=>exact .dfs taken l
 |tok l arr elem hs=>exact .tok l arr elem hs
def ab.ro:ab→Prop
 |.cells _ .ro=>True
 |_=>False
def ab.lo(l:Loc):ab→Option Nat
 |.cells _ .ro=>none
 |.tok=>some l.base
 |_=>some 0
structure W0 extends World where
 z:Nat→Nat→Option Value
structure aL(P:Program)(ρ:Nat→Int)(w0:W0)(μ:Mu)(G:Key→Option ab)(nx:Nat)(w:World):Prop where
 DI:∀b B,G b=some B→∃l o,μ b=some l∧w.heap[l.c]?=some o∧zn P ρ μ B l o
 sep:∀b b' B B' l l',G b=some B→G b'=some B'→μ b=some l→μ b'=some l'→b≠b'→l.c≠l'.c
 Dc:∀b l,μ b=some l→l.c<w.heap.size
 own:∀b B l,G b=some B→μ b=some l→B.ro∨w0.heap.size≤l.c
 GH:∀k:Key,k.toNat<P.globals.size→∃ext,μ k=some ⟨k.toNat,0,ext⟩
 new:∀b l,μ b=some l→b.toNat<nx
 below:Below w0.heap.size w0.toWorld w
 LQ:∀c i v,μ.fz c i=some v→∃arr elem f,w.heap[c]?=some (.cells arr elem f)∧arr[i]?=some v
 Qv:∀b B l n,G b=some B→μ b=some l→B.lo l=some n→∀i,n≤i→μ.fz l.c i=none
 Tj:∀c i v,w0.z c i=some v→μ.fz c i=some v
 Tk:∀c i v,μ.fz c i=some v→w0.heap.size≤c∨w0.z c i=some v
 Tl:∀b L l,G b=some (.cells L .ro)→μ b=some l→w0.heap.size≤l.c∨∀arr e f i v,w.heap[l.c]?=some (.cells arr e f)→arr[i]?=some v→μ.fz l.c i=some v
 dr:w0.drawn≤w.drawn
def HSub(h:T ab)(G:Key→Option ab):Prop:=∀b B,ae b h=some B→G b=some B
end Go.Sx
