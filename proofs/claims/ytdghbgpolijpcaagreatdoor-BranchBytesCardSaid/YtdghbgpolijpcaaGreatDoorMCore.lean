/-
  SX: an abstract machine for Go programs of the model, made to be run by the kernel on closed data. This text: the data, the prepared code, the machine. No condition.
-/
import GoSem.Step
set_option linter.unusedSimpArgs false
set_option linter.unusedVariables false
set_option linter.unusedSectionVars false
namespace Go.Sx

/- ================= numbers as paths; tries ================= -/
inductive Key where
  | z
  | o (k : Key)
  | e (k : Key)

def Key.toNat : Key → Nat
  | .z => 0
  | .o k => 2 * k.toNat + 1
  | .e k => 2 * k.toNat + 2

noncomputable def Key.succ (k : Key) : Key :=
  Key.rec (.o .z) (fun k _ => .e k) (fun _ ih => .o ih) k

def Key.ofNatF : Nat → Nat → Key
  | 0, _ => .z
  | f + 1, n => bif Nat.beq n 0 then .z else bif Nat.beq (n % 2) 1 then .o (Key.ofNatF f (n / 2)) else .e (Key.ofNatF f (n / 2 - 1))

def Key.beq : Key → Key → Bool
  | .z, .z => true
  | .o a, .o b => Key.beq a b
  | .e a, .e b => Key.beq a b
  | _, _ => false

inductive T (α : Type) where
  | nil
  | node (v : Option α) (l r : T α)

noncomputable def T.get {α : Type} (k : Key) : T α → Option α :=
  Key.rec (fun t => T.rec none (fun v _ _ _ _ => v) t) (fun _ ih t => T.rec none (fun _ l _ _ _ => ih l) t)
    (fun _ ih t => T.rec none (fun _ _ r _ _ => ih r) t) k

noncomputable def T.setC {α R : Type} (k : Key) (x : Option α) : T α → (T α → R) → R :=
  Key.rec (fun t c => T.rec (c (.node x .nil .nil)) (fun _ l r _ _ => c (.node x l r)) t)
    (fun _ ih t c => T.rec (ih .nil fun l => c (.node none l .nil)) (fun v l r _ _ => ih l fun l => c (.node v l r)) t)
    (fun _ ih t c => T.rec (ih .nil fun r => c (.node none .nil r)) (fun v l r _ _ => ih r fun r => c (.node v l r)) t) k

/- ================= lists ================= -/
noncomputable def nth {α : Type} (n : Nat) : List α → Option α :=
  Nat.rec (fun l => List.rec none (fun x _ _ => some x) l) (fun _ ih l => List.rec none (fun _ t _ => ih t) l) n

noncomputable def dropL {α : Type} (n : Nat) : List α → List α :=
  Nat.rec (fun l => l) (fun _ ih l => List.rec [] (fun _ t _ => ih t) l) n

/- the first n; none where there are fewer -/
noncomputable def takeC {α R : Type} (n : Nat) : List α → R → (List α → R) → R :=
  Nat.rec (fun _ _ c => c []) (fun _ ih l bad c => List.rec bad (fun x t _ => ih t bad fun r => c (x :: r)) l) n

/- l with its cells from off on replaced by vs; bad where they reach beyond -/
noncomputable def overC {α R : Type} (vs : List α) : List α → R → (List α → R) → R :=
  List.rec (fun l _ c => c l) (fun v _ ih l bad c => List.rec bad (fun _ t _ => ih t bad fun r => c (v :: r)) l) vs
noncomputable def putC {α R : Type} (vs : List α) (off : Nat) : List α → R → (List α → R) → R :=
  Nat.rec (fun l bad c => overC vs l bad c) (fun _ ih l bad c => List.rec bad (fun x t _ => ih t bad fun r => c (x :: r)) l) off

noncomputable def appC {α R : Type} (a b : List α) (c : List α → R) : R :=
  List.rec (motive := fun _ => (List α → R) → R) (fun c => c b) (fun x _ ih c => ih fun r => c (x :: r)) a c

noncomputable def lenL {α : Type} (l : List α) : Nat := List.rec 0 (fun _ _ ih => Nat.succ ih) l

noncomputable def repL {α : Type} (n : Nat) (zs : List α) : List α → List α :=
  Nat.rec (fun acc => acc) (fun _ ih acc => appC zs (ih acc) fun r => r) n

/- ================= values ================= -/
inductive SI where
  | lit (n : Int)
  | var (i : Nat)
  | bin (op : BinOp) (k : IntKind) (a b : SI)

/- where a slice's row goes on behind its end: not known; it is the one whose end is its end (a mark in the heap) -/
inductive SF where
  | any
  | tok (b : Key)

inductive AV where
  | bool (b : Bool)
  | int (k : IntKind) (n : SI)
  | str (n c : Nat)
  | ptr (b : Key) (off : Nat)
  | nilp
  | slice (b : Key) (off len sz : Nat)
  | nils
  | map (b : Key)
  | nilm
  | fn (f : Nat) (first cap : List AV)
  | yld (l : Key)
  | nilf
  | iface (t : Nat) (v : AV)
  | nili
  | agg (l : List AV)
  | tuple (l : List AV)
  | sl (l : List AV) (len sz : Nat) (fl : SF)
  | cref (l : List AV)

def AV.cells : AV → List AV
  | .agg l => l
  | v => [v]

def AV.isCell : AV → Bool
  | .agg _ => false
  | .tuple _ => false
  | _ => true

def eqI : Int → Int → Bool
  | .ofNat a, .ofNat b => Nat.beq a b
  | .negSucc a, .negSucc b => Nat.beq a b
  | _, _ => false
def ltI : Int → Int → Bool
  | .ofNat a, .ofNat b => Nat.blt a b
  | .negSucc a, .negSucc b => Nat.blt b a
  | .negSucc _, .ofNat _ => true
  | .ofNat _, .negSucc _ => false

def beqBin : BinOp → BinOp → Bool
  | .add, .add | .sub, .sub | .mul, .mul | .quo, .quo | .rem, .rem | .lss, .lss | .leq, .leq | .gtr, .gtr | .geq, .geq | .eql, .eql | .neq, .neq => true
  | _, _ => false
def beqKind : IntKind → IntKind → Bool
  | .i8, .i8 | .i16, .i16 | .i32, .i32 | .i64, .i64 | .u8, .u8 | .u16, .u16 | .u32, .u32 | .u64, .u64 => true
  | _, _ => false

def SI.beq : SI → SI → Bool
  | .lit a, .lit b => eqI a b
  | .var i, .var j => Nat.beq i j
  | .bin o k a b, .bin o' k' a' b' => beqBin o o' && beqKind k k' && SI.beq a a' && SI.beq b b'
  | _, _ => false

def SF.beq : SF → SF → Bool
  | .any, .any => true
  | .tok a, .tok b => Key.beq a b
  | _, _ => false

mutual
def AV.beq : AV → AV → Bool
  | .bool a, .bool b => a == b
  | .int k a, .int k' b => beqKind k k' && SI.beq a b
  | .str n c, .str n' c' => Nat.beq n n' && Nat.beq c c'
  | .ptr b o, .ptr b' o' => Key.beq b b' && Nat.beq o o'
  | .nilp, .nilp => true
  | .slice b o l s, .slice b' o' l' s' => Key.beq b b' && Nat.beq o o' && Nat.beq l l' && Nat.beq s s'
  | .nils, .nils => true
  | .map b, .map b' => Key.beq b b'
  | .nilm, .nilm => true
  | .fn f a c, .fn f' a' c' => Nat.beq f f' && AV.beqs a a' && AV.beqs c c'
  | .yld l, .yld l' => Key.beq l l'
  | .nilf, .nilf => true
  | .iface t v, .iface t' v' => Nat.beq t t' && AV.beq v v'
  | .nili, .nili => true
  | .agg l, .agg l' => AV.beqs l l'
  | .tuple l, .tuple l' => AV.beqs l l'
  | .sl l n z f, .sl l' n' z' f' => AV.beqs l l' && Nat.beq n n' && Nat.beq z z' && SF.beq f f'
  | .cref l, .cref l' => AV.beqs l l'
  | _, _ => false
def AV.beqs : List AV → List AV → Bool
  | [], [] => true
  | a :: l, b :: m => AV.beq a b && AV.beqs l m
  | _, _ => false
end

/- the width 2 ^ bits, as a numeral -/
def full : IntKind → Int
  | .i8 | .u8 => 256
  | .i16 | .u16 => 65536
  | .i32 | .u32 => 4294967296
  | .i64 | .u64 => 18446744073709551616
def half : IntKind → Int
  | .i8 => 128
  | .i16 => 32768
  | .i32 => 2147483648
  | .i64 => 9223372036854775808
  | .u8 => 256
  | .u16 => 65536
  | .u32 => 4294967296
  | .u64 => 18446744073709551616
def wrapF (k : IntKind) (n : Int) : Int :=
  bif ltI (Int.emod n (full k)) (half k) then Int.emod n (full k) else Int.sub (Int.emod n (full k)) (full k)

/- ================= prepared code ================= -/
inductive PX where
  | t (k : Key)
  | v (a : AV)

inductive EqP where
  | bool
  | int
  | str
  | ptr
  | iface
  | slice
  | func
  | map
  | parts (l : List (Nat × EqP))

inductive POp where
  | mov (x : PX)
  | pick (c a b : PX)
  | new (zs : List AV)
  | box (x : PX)
  | build (zs : List AV) (parts : List (Nat × Nat × PX))
  | bslice (sz len : Nat) (zs : List AV) (parts : List (Nat × Nat × PX))
  | load (agg : Bool) (n : Nat) (a : PX)
  | store (n : Nat) (a v : PX)
  | nilc (x : PX)
  | bin (op : BinOp) (x y : PX)
  | eq (neg : Bool) (p : EqP) (x y : PX)
  | un (op : UnOp) (x : PX)
  | cint (k : IntKind) (x : PX)
  | cstr (x : PX)
  | cbytes (x : PX)
  | mkif (t : Nat) (x : PX)
  | mkfn (f : Nat) (first cap : List PX)
  | mkmap
  | mkslice (sz : Nat) (zs : List AV) (l c : PX)
  | sliceS (x : PX) (lo hi : Option PX)
  | sliceL (sz : Nat) (x : PX) (lo hi : Option PX)
  | sliceA (len sz : Nat) (x : PX) (lo hi : Option PX)
  | fieldA (off : Nat) (x : PX)
  | field (agg : Bool) (off n : Nat) (x : PX)
  | indexA (len sz : Nat) (x i : PX)
  | indexL (sz : Nat) (x i : PX)
  | indexS (x i : PX)
  | indexV (len : Nat) (agg : Bool) (sz : Nat) (x i : PX)
  | lookup (sk : Bool) (zero : AV) (ok : Bool) (m k : PX)
  | mapupd (sk : Bool) (m k v : PX)
  | mapupdP (p : EqP) (m k v : PX)
  | delP (p : EqP) (m k : PX)
  | rangeM (x : PX)
  | nextM (x : PX)
  | entryM (x : PX)
  | strb (x : PX)
  | assert (t : Nat) (zero : AV) (ok : Bool) (x : PX)
  | extract (x : PX) (i : Nat)
  | callF (f : Nat) (args : List PX)
  | callV (v : PX) (args : List PX)
  | lenS (x : PX)
  | lenL (x : PX)
  | lenM (x : PX)
  | append (sz : Nat) (s x : PX)
  | mx (isMax : Bool) (a b : PX)
  | dfr (v : PX) (args : List PX)
  | panic (x : PX)
  | recover

structure POper where
  dst : Option Key
  op : POp
  guard : Option (Key × Bool)

inductive SItem where
  | L (i : Nat) (o : POper)
  | A (i : Nat) (o : POper)
  | H (i : Nat) (o : POper) (adopt : List Nat)
  | R (os : List (Nat × POper))

/- a drawn region's slots; which reads may look into blocks that the region itself makes -/
structure SD where
  ds : List Key
  ads : List (Nat × List Nat)

inductive PCode where
  | skip
  | ops (l : List POper)
  | staged (l : List SItem) (dsts : SD)
  | seq (a b : PCode)
  | cond (c : PX) (a b : PCode)
  | block (id : Nat) (c : PCode)
  | loop (c : PCode)
  | rangeF (f : PX) (params : List Key) (assign body : PCode)
  | exit (id : Nat)
  | ret

inductive RV where
  | tmp (k : Key)
  | cell (k : Key) (agg : Bool) (n : Nat)

structure PFn where
  body : PCode
  res : List RV

/- ================= memory, frames ================= -/
inductive LS where
  | ready | busy | done | exhausted

/- a row of cells: written; only read; written, and of more cells than are known -/
inductive CK where
  | fix | ro | part

inductive Blk where
  | cells (l : List AV) (k : CK)
  | map (l : List (AV × AV))
  | mapD (l : List (Nat × AV × AV)) (clock : Nat)
  | iter (m : Key) (n : Nat) (seen : List Nat)
  | loop (st : LS) (pending : Option PCode) (fn : Nat) (tm : T AV) (res : List RV) (params : List Key) (assign body : PCode) (dfs : Key)
  | dfs (taken : Bool)
  | tok

inductive AItem where
  | code (c : PCode)
  | inBlock (id : Nat)
  | inLoop (c : PCode)
  | ops (l : List POper)
  | staged (l : List SItem) (dsts : SD) (pend : List (Nat × Key × Blk))
  | inRF (l : Key)
  | endRF (l : Key)
  | beginRound

inductive AMode where
  | run
  | ret
  | pan (v : AV) (recovered : Bool)

inductive ADef where
  | fn (f : Nat) (args : List AV)
  | coll (b : Key)

structure AFr where
  fn : Nat
  tm : T AV
  todo : List AItem
  dfs : List ADef
  mode : AMode
  dfd : Bool
  rnd : Option Key
  res : List RV

structure AM where
  fr : AFr
  cs : List AFr
  h : T Blk
  nx : Key

/- what one operation comes to -/
inductive OR where
  | val (v : AV) (h : T Blk) (nx : Key)
  | call (f : Nat) (args : List AV)
  | yld (l : Key) (args : List AV)
  | pan (v : AV)
  | dfr (f : Nat) (args : List AV)
  | recover
  | alt (l : List (AV × T Blk))
  | bad (why : Nat)

/- the oracle: comparisons of integers that the numbers do not decide -/
abbrev Orc := List (BinOp × SI × SI × Bool)
def Orc.ask (op : BinOp) (a b : SI) : Orc → Option Bool
  | [] => none
  | (o, x, y, r) :: l => bif beqBin o op && SI.beq x a && SI.beq y b then some r else Orc.ask op a b l

noncomputable def PX.at (x : PX) (tm : T AV) : Option AV :=
  match x with
  | .t k => T.get k tm
  | .v a => some a

noncomputable def atAll (tm : T AV) : List PX → Option (List AV)
  | [] => some []
  | x :: l => match x.at tm with
    | none => none
    | some a => match atAll tm l with
      | none => none
      | some r => some (a :: r)

/- a number's lowest bits -/
def loB (k : IntKind) (n : Int) : Nat := Int.toNat (Int.emod n (full k))
/- integers -/
def arith (op : BinOp) (k : IntKind) (a b : SI) : Option SI :=
  match a, b with
  | .lit x, .lit y => match op with
    | .add => some (.lit (wrapF k (Int.add x y)))
    | .sub => some (.lit (wrapF k (Int.sub x y)))
    | .mul => some (.lit (wrapF k (Int.mul x y)))
    | .quo => bif eqI y 0 then none else some (.lit (wrapF k (Int.tdiv x y)))
    | .rem => bif eqI y 0 then none else some (.lit (Int.tmod x y))
    | .xor => match k, x, y with
      | .u64, .ofNat m, .ofNat n => some (.lit (Int.emod (.ofNat (Nat.xor m n)) 18446744073709551616))
      | k, x, y => some (.lit (wrapF k (.ofNat (Nat.xor (loB k x) (loB k y)))))
    | .or => match k, x, y with
      | .u64, .ofNat m, .ofNat n => some (.lit (Int.emod (.ofNat (Nat.lor m n)) 18446744073709551616))
      | k, x, y => some (.lit (wrapF k (.ofNat (Nat.lor (loB k x) (loB k y)))))
    | .and => match k, x, y with
      | .u64, .ofNat m, .ofNat n => some (.lit (Int.emod (.ofNat (Nat.land m n)) 18446744073709551616))
      | k, x, y => some (.lit (wrapF k (.ofNat (Nat.land (loB k x) (loB k y)))))
    | _ => none
  | _, _ => match op with
    | .add | .sub | .mul => some (.bin op k a b)
    | _ => none

def cmpI (orc : Orc) (op : BinOp) (a b : SI) : Option Bool :=
  match a, b with
  | .lit x, .lit y => match op with
    | .eql => some (eqI x y)
    | .neq => some (!(eqI x y))
    | .lss => some (ltI x y)
    | .leq => some (!(ltI y x))
    | .gtr => some (ltI y x)
    | .geq => some (!(ltI x y))
    | _ => none
  | _, _ => bif SI.beq a b then (match op with
    | .eql | .leq | .geq => some true
    | .neq | .lss | .gtr => some false
    | _ => none) else orc.ask op a b

def isCmp : BinOp → Bool
  | .eql | .neq | .lss | .leq | .gtr | .geq => true
  | _ => false

/- strings: n bytes, the first the lowest digit of c to the base 256 -/
def ltS : Nat → Nat → Nat → Nat → Bool
  | 0, _, m, _ => bif Nat.beq m 0 then false else true
  | n + 1, c, m, d =>
    bif Nat.beq m 0 then false
    else bif Nat.blt (c % 256) (d % 256) then true
    else bif Nat.beq (c % 256) (d % 256) then ltS n (c / 256) (m - 1) (d / 256) else false

def opS (op : BinOp) (n c m d : Nat) : Option AV :=
  match op with
  | .add => bif Nat.ble (n + m) 4611686018427387904 then some (.str (n + m) (c + Nat.shiftLeft d (8 * n))) else none
  | .eql => some (.bool (Nat.beq n m && Nat.beq c d))
  | .neq => some (.bool (!(Nat.beq n m && Nat.beq c d)))
  | .lss => some (.bool (ltS n c m d))
  | .leq => some (.bool (!(ltS m d n c)))
  | .gtr => some (.bool (ltS m d n c))
  | .geq => some (.bool (!(ltS n c m d)))
  | _ => none

def cutS (c lo hi : Nat) : AV := .str (hi - lo) (Nat.mod (Nat.shiftRight c (8 * lo)) (Nat.pow 2 (8 * (hi - lo))))

mutual
noncomputable def eqV (orc : Orc) : EqP → AV → AV → Option Bool
  | .bool, .bool a, .bool b => some (a == b)
  | .int, .int k a, .int k' b => bif beqKind k k' then cmpI orc .eql a b else none
  | .str, .str n c, .str m d => some (Nat.beq n m && Nat.beq c d)
  | .ptr, .nilp, .nilp => some true
  | .ptr, .nilp, .ptr _ _ => some false
  | .ptr, .ptr _ _, .nilp => some false
  | .ptr, .ptr b o, .ptr b' o' => bif Key.beq b b' then some (Nat.beq o o') else none
  | .ptr, .nilp, .cref _ => some false
  | .ptr, .cref _, .nilp => some false
  | .iface, .nili, .nili => some true
  | .iface, .nili, .iface _ _ => some false
  | .iface, .iface _ _, .nili => some false
  | .slice, .nils, .nils => some true
  | .slice, .nils, .slice _ _ _ _ => some false
  | .slice, .slice _ _ _ _, .nils => some false
  | .slice, .nils, .sl _ _ _ _ => some false
  | .slice, .sl _ _ _ _, .nils => some false
  | .func, .nilf, .nilf => some true
  | .func, .nilf, .fn _ _ _ => some false
  | .func, .fn _ _ _, .nilf => some false
  | .map, .nilm, .nilm => some true
  | .map, .nilm, .map _ => some false
  | .map, .map _, .nilm => some false
  | .parts l, .agg a, .agg b => eqParts orc l a b
  | _, _, _ => none
noncomputable def eqParts (orc : Orc) : List (Nat × EqP) → List AV → List AV → Option Bool
  | [], _, _ => some true
  | (off, p) :: l, a, b =>
    match nth off a, nth off b with
    | some x, some y => match eqV orc p x y with
      | some true => eqParts orc l a b
      | some false => some false
      | none => none
    | _, _ => none
end

/- parts laid into cells -/
noncomputable def fillP (tm : T AV) : List (Nat × Nat × PX) → List AV → Option (List AV)
  | [], cs => some cs
  | (off, size, x) :: r, cs =>
    match x.at tm with
    | none => none
    | some v => bif Nat.beq (lenL v.cells) size then putC v.cells off cs none (fun cs => fillP tm r cs) else none

noncomputable def partV (agg : Bool) (off n : Nat) (l : List AV) : Option AV :=
  bif agg then takeC n (dropL off l) none (fun r => some (.agg r)) else nth off l

/- maps: keys are strings or integers -/
def keyEq (orc : Orc) (sk : Bool) : AV → AV → Option Bool
  | .int k a, .int k' b => bif beqKind k k' && !sk then cmpI orc .eql a b else none
  | .str n c, .str m d => bif sk then some (Nat.beq n m && Nat.beq c d) else none
  | _, _ => none
def findK (orc : Orc) (sk : Bool) (k : AV) : List (AV × AV) → Option (Option AV)
  | [] => some none
  | (a, v) :: l => match keyEq orc sk k a with
    | some true => some (some v)
    | some false => findK orc sk k l
    | none => none
def setK (orc : Orc) (sk : Bool) (k x : AV) : List (AV × AV) → Option (List (AV × AV))
  | [] => some [(k, x)]
  | (a, v) :: l => match keyEq orc sk k a with
    | some true => some ((k, x) :: l)
    | some false => match setK orc sk k x l with
      | some r => some ((a, v) :: r)
      | none => none
    | none => none

/- keys of several cells, all of them without parts -/
def flatC : AV → Bool
  | .bool _ | .int _ _ | .str _ _ => true
  | _ => false
def flatL : List AV → Bool
  | [] => true
  | a :: l => flatC a && flatL l
noncomputable def inAll (a : List AV) : List (Nat × EqP) → Bool
  | [] => true
  | (o, _) :: l => match nth o a with
    | some _ => inAll a l
    | none => false
noncomputable def keyIn : EqP → AV → Bool
  | .parts l, .agg a => flatL a && inAll a l
  | _, _ => false
noncomputable def eqKP (orc : Orc) (p : EqP) (k a : AV) : Option Bool := match eqV orc p k a with
  | some true => bif AV.beq k a then some true else none
  | r => r
noncomputable def setKP (orc : Orc) (p : EqP) (k x : AV) : List (AV × AV) → Option (List (AV × AV))
  | [] => some [(k, x)]
  | (a, v) :: l => match eqKP orc p k a with
    | some true => some ((k, x) :: l)
    | some false => match setKP orc p k x l with
      | some r => some ((a, v) :: r)
      | none => none
    | none => none
/- entries with their stamps -/
def stampL : Nat → List (AV × AV) → List (Nat × AV × AV)
  | _, [] => []
  | i, (a, v) :: l => (i, a, v) :: stampL (i + 1) l
noncomputable def delKP (orc : Orc) (p : EqP) (k : AV) : List (Nat × AV × AV) → Option (List (Nat × AV × AV))
  | [] => some []
  | (s, a, v) :: l => match eqKP orc p k a with
    | some true => some l
    | some false => match delKP orc p k l with
      | some r => some ((s, a, v) :: r)
      | none => none
    | none => none
noncomputable def stamped (b : Key) (h : T Blk) : Option (List (Nat × AV × AV) × Nat) := match T.get b h with
  | some (.map l) => some (stampL 0 l, lenL l)
  | some (.mapD l c) => some (l, c)
  | _ => none
def memS (i : Nat) : List Nat → Bool
  | [] => false
  | j :: l => bif Nat.beq i j then true else memS i l
def leftL (seen : List Nat) : List (Nat × AV × AV) → List (Nat × AV × AV)
  | [] => []
  | (s, a, v) :: l => bif memS s seen then leftL seen l else (s, a, v) :: leftL seen l
/- the entry with a stamp -/
def findS (s : Nat) : List (Nat × AV × AV) → Option AV
  | [] => none
  | (t, k, v) :: l => bif Nat.beq t s then some (.tuple [k, v]) else findS s l
def lastS : List Nat → Option Nat
  | [] => none
  | s :: l => match l with
    | [] => some s
    | _ :: _ => lastS l
def underL (n : Nat) : List (Nat × AV × AV) → Bool
  | [] => true
  | (s, _, _) :: l => Nat.blt s n && underL n l

/- each entry that may come next, and memory behind it -/
noncomputable def altsL (b m : Key) (n : Nat) (seen : List Nat) (h : T Blk) : List (Nat × AV × AV) → List (AV × T Blk)
  | [] => []
  | (s, k, v) :: l => T.setC b (some (.iter m n (seen ++ [s]))) h fun h' => (.tuple [.bool true, k, v], h') :: altsL b m n seen h l

noncomputable def newB (v : Key → AV) (b : Blk) (h : T Blk) (nx : Key) : OR :=
  T.setC nx (some b) h fun h => .val (v nx) h nx.succ

def natOf : AV → Option Nat
  | .int _ (.lit (.ofNat n)) => some n
  | _ => none

noncomputable def boundOf (tm : T AV) (dflt : Nat) : Option PX → Option Nat
  | none => some dflt
  | some x => match x.at tm with
    | none => none
    | some v => natOf v

def bytesOf : Nat → Nat → List AV
  | 0, _ => []
  | n + 1, c => .int .u8 (.lit (.ofNat (c % 256))) :: bytesOf n (c / 256)
def ofBytes : List AV → Option (Nat × Nat)
  | [] => some (0, 0)
  | .int .u8 (.lit (.ofNat b)) :: l => match ofBytes l with
    | some (n, c) => bif Nat.blt b 256 then some (n + 1, b + 256 * c) else none
    | none => none
  | _ => none

/- allocations: what they hand back, and the new block -/
noncomputable def allocOp (op : POp) (tm : T AV) : Option ((Key → AV) × Blk) :=
  match op with
  | .new zs => some (fun b => .ptr b 0, .cells zs .fix)
  | .box x => match x.at tm with
    | some v => some (fun b => .ptr b 0, .cells v.cells .fix)
    | none => none
  | .bslice sz len zs parts => match fillP tm parts (repL len zs []) with
    | some cs => some (fun b => .slice b 0 len sz, .cells cs .fix)
    | none => none
  | .mkmap => some (fun b => .map b, .map [])
  | .mkslice sz zs l c => match l.at tm, c.at tm with
    | some l, some c => match natOf l, natOf c with
      | some l, some c => bif Nat.ble l c && Nat.ble c 65536 then some (fun b => .slice b 0 l sz, .cells (repL c zs []) .fix) else none
      | _, _ => none
    | _, _ => none
  | _ => none

noncomputable def loadB (h : T Blk) (b : Key) (agg : Bool) (off n : Nat) : Option AV :=
  match T.get b h with
  | some (.cells l _) => partV agg off n l
  | _ => none

/- a shift by at most the width -/
def shOk (k : IntKind) (n : Nat) : Bool := match k with
  | .i64 | .u64 => Nat.ble n 64
  | .i32 | .u32 => Nat.ble n 32
  | .i16 | .u16 => Nat.ble n 16
  | .i8 | .u8 => Nat.ble n 8

/- operations that hand back a value and leave memory alone -/
noncomputable def lightOp (orc : Orc) (op : POp) (tm : T AV) (h : T Blk) : Option AV :=
  match op with
  | .mov x => x.at tm
  | .pick c a b => match c.at tm with
    | some (.bool true) => a.at tm
    | some (.bool false) => b.at tm
    | _ => none
  | .build zs parts => match fillP tm parts zs with
    | some cs => some (.agg cs)
    | none => none
  | .load agg n a => match a.at tm with
    | some (.ptr b off) => loadB h b agg off n
    | some (.cref l) => partV agg 0 n l
    | _ => none
  | .nilc x => match x.at tm with
    | some (.ptr b o) => some (.ptr b o)
    | some (.cref l) => some (.cref l)
    | some (.fn f a c) => some (.fn f a c)
    | some (.yld l) => some (.yld l)
    | some (.iface t v) => some (.iface t v)
    | _ => none
  | .bin op x y => match x.at tm, y.at tm with
    | some (.int k a), some (.int k' b) =>
      match op with
      | .shl => match a, b with
        | .lit a, .lit (.ofNat n) => bif shOk k n then some (.int k (.lit (wrapF k (Int.mul a (.ofNat (Nat.pow 2 n)))))) else none
        | _, _ => none
      | .shr => match a, b with
        | .lit (.ofNat a), .lit (.ofNat n) => bif shOk k n then some (.int k (.lit (.ofNat (Nat.div a (Nat.pow 2 n))))) else none
        | .lit (.negSucc a), .lit (.ofNat n) => bif shOk k n then some (.int k (.lit (.negSucc (Nat.div a (Nat.pow 2 n))))) else none
        | _, _ => none
      | op => bif beqKind k k' then
          (bif isCmp op then (match cmpI orc op a b with | some r => some (.bool r) | none => none)
          else (match arith op k a b with | some r => some (.int k r) | none => none))
        else none
    | some (.str n c), some (.str m d) => opS op n c m d
    | _, _ => none
  | .eq neg p x y => match x.at tm, y.at tm with
    | some a, some b => match eqV orc p a b with
      | some r => some (.bool (bif neg then !r else r))
      | none => none
    | _, _ => none
  | .un op x => match op, x.at tm with
    | .not, some (.bool b) => some (.bool (!b))
    | .neg, some (.int k a) => match arith .sub k (.lit 0) a with
      | some r => some (.int k r)
      | none => none
    | _, _ => none
  | .cint k x => match x.at tm with
    | some (.int _ (.lit n)) => some (.int k (.lit (wrapF k n)))
    | _ => none
  | .cstr x => match x.at tm with
    | some (.str n c) => some (.str n c)
    | _ => none
  | .cbytes x => match x.at tm with
    | some .nils => some (.str 0 0)
    | some (.slice b off len sz) => bif Nat.beq sz 1 then (match T.get b h with
      | some (.cells l _) => takeC len (dropL off l) none (fun r => match ofBytes r with
        | some (n, c) => some (.str n c)
        | none => none)
      | _ => none) else none
    | some (.sl l _ sz _) => bif Nat.beq sz 1 then (match ofBytes l with
      | some (n, c) => some (.str n c)
      | none => none) else none
    | _ => none
  | .mkif t x => match x.at tm with
    | some v => some (.iface t v)
    | none => none
  | .mkfn f first cap => match atAll tm first, atAll tm cap with
    | some a, some c => some (.fn f a c)
    | _, _ => none
  | .sliceS x lo hi => match x.at tm with
    | some (.str n c) => match boundOf tm 0 lo, boundOf tm n hi with
      | some l, some r => bif Nat.ble l r && Nat.ble r n then some (cutS c l r) else none
      | _, _ => none
    | _ => none
  | .sliceL sz x lo hi => match x.at tm with
    | some (.slice b off len sz') => match boundOf tm 0 lo, boundOf tm len hi with
      | some l, some r => bif Nat.ble l r && Nat.ble r len && Nat.beq sz sz' then some (.slice b (off + l * sz) (r - l) sz) else none
      | _, _ => none
    | some .nils => match boundOf tm 0 lo, boundOf tm 0 hi with
      | some l, some r => bif Nat.beq l 0 && Nat.beq r 0 then some .nils else none
      | _, _ => none
    | some (.sl cs len sz' fl) => match boundOf tm 0 lo, boundOf tm len hi with
      | some l, some r => bif Nat.ble l r && Nat.ble r len && Nat.beq sz sz' then
          takeC ((r - l) * sz) (dropL (l * sz) cs) none (fun cs => some (.sl cs (r - l) sz (bif Nat.beq r len then fl else .any))) else none
      | _, _ => none
    | _ => none
  | .fieldA off x => match x.at tm with
    | some (.ptr b o) => some (.ptr b (o + off))
    | some (.cref l) => some (.cref (dropL off l))
    | _ => none
  | .field agg off n x => match x.at tm with
    | some (.agg l) => partV agg off n l
    | _ => none
  | .indexA len sz x i => match x.at tm, i.at tm with
    | some (.ptr b o), some v => match natOf v with
      | some j => bif Nat.blt j len then some (.ptr b (o + j * sz)) else none
      | none => none
    | some (.cref l), some v => match natOf v with
      | some j => bif Nat.blt j len then some (.cref (dropL (j * sz) l)) else none
      | none => none
    | _, _ => none
  | .indexL sz x i => match x.at tm, i.at tm with
    | some (.slice b off len sz'), some v => match natOf v with
      | some j => bif Nat.blt j len && Nat.beq sz sz' then some (.ptr b (off + j * sz)) else none
      | none => none
    | some (.sl l len sz' _), some v => match natOf v with
      | some j => bif Nat.blt j len && Nat.beq sz sz' then takeC sz (dropL (j * sz) l) none (fun r => some (.cref r)) else none
      | none => none
    | _, _ => none
  | .indexS x i => match x.at tm, i.at tm with
    | some (.str n c), some v => match natOf v with
      | some j => bif Nat.blt j n then some (.int .u8 (.lit (.ofNat (Nat.mod (Nat.shiftRight c (8 * j)) 256)))) else none
      | none => none
    | _, _ => none
  | .indexV len agg sz x i => match x.at tm, i.at tm with
    | some (.agg l), some v => match natOf v with
      | some j => bif Nat.blt j len then partV agg (j * sz) sz l else none
      | none => none
    | _, _ => none
  | .lookup sk zero ok m k => match m.at tm, k.at tm with
    | some (.map b), some k => match T.get b h with
      | some (.map l) => match findK orc sk k l with
        | some (some v) => some (bif ok then .tuple [v, .bool true] else v)
        | some none => some (bif ok then .tuple [zero, .bool false] else zero)
        | none => none
      | _ => none
    | _, _ => none
  | .entryM x => match x.at tm with
    | some (.ptr b 0) => match T.get b h with
      | some (.iter m n seen) => match stamped m h, lastS seen with
        | some (l, c), some s => bif Nat.beq c n then findS s l else none
        | _, _ => none
      | _ => none
    | _ => none
  | .assert t zero ok x => match x.at tm with
    | some (.iface t' v) => bif ok then (bif Nat.beq t t' then some (.tuple [v, .bool true]) else some (.tuple [zero, .bool false]))
        else (bif Nat.beq t t' then some v else none)
    | _ => none
  | .extract x i => match x.at tm with
    | some (.tuple l) => nth i l
    | _ => none
  | .lenS x => match x.at tm with
    | some (.str n _) => some (.int .i64 (.lit (.ofNat n)))
    | _ => none
  | .lenL x => match x.at tm with
    | some (.slice _ _ n _) => some (.int .i64 (.lit (.ofNat n)))
    | some (.sl _ n _ _) => some (.int .i64 (.lit (.ofNat n)))
    | some .nils => some (.int .i64 (.lit (.ofNat 0)))
    | _ => none
  | .lenM x => match x.at tm with
    | some (.map b) => match T.get b h with
      | some (.map l) => some (.int .i64 (.lit (.ofNat (lenL l))))
      | some (.mapD l _) => some (.int .i64 (.lit (.ofNat (lenL l))))
      | _ => none
    | _ => none
  | .mx isMax a b => match a.at tm, b.at tm with
    | some (.int k x), some (.int k' y) => bif beqKind k k' then (match cmpI orc (bif isMax then .gtr else .lss) y x with
      | some true => some (.int k y)
      | some false => some (.int k x)
      | none => none) else none
    | _, _ => none
  | _ => none

/- slices made fast: their rows are only read from now on, and they stand for what they hold -/
noncomputable def frzL {R : Type} (g : AV → T Blk → (AV → T Blk → R) → R) (l : List AV) : T Blk → (List AV → T Blk → R) → R :=
  List.rec (fun h c => c [] h) (fun v _ ih h c => g v h fun v h => ih h fun r h => c (v :: r) h) l
noncomputable def frzS {R : Type} (ih : AV → T Blk → (AV → T Blk → R) → R) (v : AV) (h : T Blk) (c : AV → T Blk → R) : R :=
  match v with
  | .slice b off len sz => match T.get b h with
    | some (.cells l .fix) => takeC (len * sz) (dropL off l) (c v h) fun cs => T.setC b (some (.cells l .ro)) h fun h => frzL ih cs h fun cs h => c (.sl cs len sz .any) h
    | some (.cells l .ro) => takeC (len * sz) (dropL off l) (c v h) fun cs => frzL ih cs h fun cs h => c (.sl cs len sz .any) h
    | some (.cells l .part) => takeC (len * sz) (dropL off l) (c v h) fun cs => T.setC b none h fun h => frzL ih cs h fun cs h => c (.sl cs len sz .any) h
    | _ => c v h
  | .sl l len sz _ => c (.sl l len sz .any) h
  | .agg cs => frzL ih cs h fun cs h => c (.agg cs) h
  | v => c v h
noncomputable def frz {R : Type} (n : Nat) : AV → T Blk → (AV → T Blk → R) → R :=
  Nat.rec (fun v h c => c v h) (fun _ ih v h c => frzS ih v h c) n

noncomputable def appendTo (sz : Nat) (s : AV) (new : List AV) (m : Nat) (h : T Blk) (nx : Key) : OR :=
  match s with
  | .nils => bif Nat.beq m 0 then .val .nils h nx else bif Nat.ble m 1048576 then T.setC nx (some (.cells new .part)) h fun h => .val (.slice nx 0 m sz) h nx.succ else .bad 25
  | .sl l len sz' fl => bif Nat.beq m 0 then .val (.sl l len sz' fl) h nx else bif Nat.beq sz sz' && Nat.ble (len + m) 1048576 && new.all AV.isCell then
    (match fl with
    | .any => .bad 11
    | .tok b => match T.get b h with
      | some .tok => appC l new fun r => T.setC b none h fun h => T.setC nx (some .tok) h fun h => .val (.sl r (len + m) sz (.tok nx)) h nx.succ
      | _ => .bad 15) else .bad 11
  | .slice b off len sz' => bif Nat.beq sz sz' && Nat.ble (len + m) 1048576 && new.all AV.isCell then
    (match T.get b h with
    | some (.cells l .fix) =>
      bif Nat.ble (off + (len + m) * sz) (lenL l) then
        putC new (off + len * sz) l (.bad 12) (fun l => T.setC b (some (.cells l .fix)) h fun h => .val (.slice b off (len + m) sz) h nx)
      else takeC (len * sz) (dropL off l) (.bad 14) (fun old => frzL (frz 8) old h fun old h => appC old new (fun r => T.setC nx (some (.cells r .part)) h fun h => .val (.slice nx 0 (len + m) sz) h nx.succ))
    | some (.cells l .ro) =>
      bif Nat.ble (off + (len + m) * sz) (lenL l) then .bad 13
      else takeC (len * sz) (dropL off l) (.bad 14) (fun old => frzL (frz 8) old h fun old h => appC old new (fun r => T.setC nx (some (.cells r .part)) h fun h => .val (.slice nx 0 (len + m) sz) h nx.succ))
    | some (.cells l .part) =>
      bif Nat.beq m 0 then .val (.slice b off len sz') h nx
      else bif Nat.beq off 0 && Nat.beq (len * sz) (lenL l) then
        appC l new fun r => T.setC b none h fun h => T.setC nx (some .tok) h fun h => .val (.sl r (len + m) sz (.tok nx)) h nx.succ
      else .bad 26
    | _ => .bad 15) else .bad 11
  | _ => .bad 16

def okV (h : T Blk) (nx : Key) : Option AV → OR
  | some v => .val v h nx
  | none => .bad 1

noncomputable def aOp (orc : Orc) (op : POp) (tm : T AV) (h : T Blk) (nx : Key) : OR :=
  match op with
  | .new _ | .box _ | .bslice _ _ _ _ | .mkmap | .mkslice _ _ _ _ => match allocOp op tm with
    | some (v, b) => newB v b h nx
    | none => .bad 2
  | .store n a v => match a.at tm, v.at tm with
    | some (.ptr b off), some v => bif Nat.beq (lenL v.cells) n && v.cells.all AV.isCell then
        (match T.get b h with
        | some (.cells _ .ro) => .bad 4
        | some (.cells l g) => putC v.cells off l (.bad 4) (fun l => T.setC b (some (.cells l g)) h fun h => .val (.tuple []) h nx)
        | _ => .bad 5)
      else .bad 6
    | _, _ => .bad 3
  | .mapupd sk m k v => match m.at tm, k.at tm, v.at tm with
    | some (.map b), some k, some v => match T.get b h with
      | some (.map l) => match setK orc sk k v l with
        | some l => T.setC b (some (.map l)) h fun h => .val (.tuple []) h nx
        | none => .bad 7
      | _ => .bad 8
    | _, _, _ => .bad 9
  | .mapupdP p m k v => match m.at tm, k.at tm, v.at tm with
    | some (.map b), some k, some v => match T.get b h with
      | some (.map l) => bif keyIn p k then (match setKP orc p k v l with
        | some l => T.setC b (some (.map l)) h fun h => .val (.tuple []) h nx
        | none => .bad 57) else .bad 56
      | _ => .bad 58
    | _, _, _ => .bad 59
  | .delP p m k => match m.at tm, k.at tm with
    | some (.map b), some k => match stamped b h with
      | some (l, c) => bif keyIn p k then (match delKP orc p k l with
        | some l => T.setC b (some (.mapD l c)) h fun h => .val (.tuple []) h nx
        | none => .bad 60) else .bad 56
      | none => .bad 61
    | _, _ => .bad 62
  | .rangeM x => match x.at tm with
    | some (.map m) => match stamped m h with
      | some (_, n) => newB (fun b => .ptr b 0) (.iter m n []) h nx
      | none => .bad 63
    | _ => .bad 64
  | .nextM x => match x.at tm with
    | some (.ptr b 0) => match T.get b h with
      | some (.iter m n seen) => match stamped m h with
        | some (l, c) => bif Nat.beq c n && underL n l then (match leftL seen l with
          | [] => .alt [(.tuple [.bool false], h)]
          | x :: r => .alt (altsL b m n seen h (x :: r))) else .bad 65
        | none => .bad 66
      | _ => .bad 67
    | _ => .bad 68
  | .strb x => match x.at tm with
    | some (.str n c) => .val (.sl (bytesOf n c) n 1 .any) h nx
    | _ => .bad 69
  | .append sz s x => match s.at tm, x.at tm with
    | some s, some .nils => appendTo sz s [] 0 h nx
    | some s, some (.slice b off len sz') => bif Nat.beq sz sz' then (match T.get b h with
      | some (.cells l _) => takeC (len * sz) (dropL off l) (.bad 17) (fun new => frzL (frz 8) new h fun new h => appendTo sz s new len h nx)
      | _ => .bad 18) else .bad 19
    | some s, some (.sl l len sz' _) => bif Nat.beq sz sz' then appendTo sz s l len h nx else .bad 19
    | some s, some (.str n c) => bif Nat.beq sz 1 then appendTo sz s (bytesOf n c) n h nx else .bad 20
    | _, _ => .bad 10
  | .callF f args => match atAll tm args with
    | some l => .call f l
    | none => .bad 21
  | .callV v args => match v.at tm, atAll tm args with
    | some (.fn f first cap), some l => .call f (first ++ l ++ cap)
    | some (.yld k), some l => .yld k l
    | _, _ => .bad 22
  | .dfr v args => match v.at tm, atAll tm args with
    | some (.fn f first cap), some l => .dfr f (first ++ l ++ cap)
    | _, _ => .bad 23
  | .panic x => match x.at tm with
    | some (.iface t v) => .pan (.iface t v)
    | _ => .bad 24
  | .recover => .recover
  | op => okV h nx (lightOp orc op tm h)

/- is the operation to be carried out? none: not known -/
noncomputable def wantsP (g : Option (Key × Bool)) (tm : T AV) : Option Bool :=
  match g with
  | none => some true
  | some (k, want) => match T.get k tm with
    | some (.bool b) => some (b == want)
    | some (.tuple []) => some false
    | _ => none

noncomputable def putT {R : Type} (d : Option Key) (v : Option AV) (tm : T AV) (c : T AV → R) : R :=
  match d with
  | none => c tm
  | some k => T.setC k v tm c

/- ================= the machine ================= -/
inductive SR where
  | next (m : AM)
  | alt (l : List AM)
  | done (f : Nat) (v : AV) (h : T Blk) (nx : Key)
  | pan (v : AV) (h : T Blk) (nx : Key)
  | bad (why : Nat) (m : AM)

structure Cfg where
  orc : Orc
  fns : T PFn
  /- calls whose outcome is known by other means -/
  sum : Nat → List AV → T Blk → Key → Option (AV × T Blk × Key)
  /- functions that are handed their arguments, and hand back their results, as they are -/
  raw : Nat → Bool
  rawR : Nat → Bool

/- a row of operations in their order, up to the first that enters a function -/
inductive RR where
  | fin (tm : T AV) (h : T Blk) (nx : Key)
  | ev (r : OR) (rest : List POper) (tm : T AV) (h : T Blk) (nx : Key)

noncomputable def runOps (orc : Orc) (l : List POper) : T AV → T Blk → Key → RR :=
  List.rec (fun tm h nx => .fin tm h nx)
    (fun o rest ih tm h nx => match wantsP o.guard tm with
      | none => .ev (.bad 30) (o :: rest) tm h nx
      | some false => putT o.dst (some (.tuple [])) tm fun tm => ih tm h nx
      | some true => match aOp orc o.op tm h nx with
        | .val v h nx => putT o.dst (some v) tm fun tm => ih tm h nx
        | r => .ev r (o :: rest) tm h nx) l

def memN (i : Nat) : List Nat → Bool
  | [] => false
  | j :: l => bif Nat.beq i j then true else memN i l

noncomputable def adopt {R : Type} (l : List Nat) (p : List (Nat × Key × Blk)) : T Blk → (List (Nat × Key × Blk) → T Blk → R) → R :=
  List.rec (fun h c => c [] h)
    (fun x _ ih h c => bif memN x.1 l then T.setC x.2.1 (some x.2.2) h fun h => ih h c else ih h fun p h => c (x :: p) h) p

noncomputable def adoptAll {R : Type} (p : List (Nat × Key × Blk)) : T Blk → (T Blk → R) → R :=
  List.rec (fun h c => c h) (fun x _ ih h c => T.setC x.2.1 (some x.2.2) h fun h => ih h c) p

def adAt (i : Nat) : List (Nat × List Nat) → List Nat
  | [] => []
  | (j, l) :: r => bif Nat.beq i j then l else adAt i r
noncomputable def viewH (l : List Nat) (pend : List (Nat × Key × Blk)) (h : T Blk) : T Blk := match l with
  | [] => h
  | l => adopt l pend h fun _ h => h

noncomputable def recheck (orc : Orc) (ads : List (Nat × List Nat)) (pend : List (Nat × Key × Blk)) (tm : T AV) (h : T Blk) : List (Nat × POper) → Bool
  | [] => true
  | (i, o) :: l => match wantsP o.guard tm with
    | some false => match o.dst with
      | none => false
      | some d => match T.get d tm with
        | some (.tuple []) => recheck orc ads pend tm h l
        | _ => false
    | some true => match o.dst with
      | none => false
      | some d => match T.get d tm, lightOp orc o.op tm (viewH (adAt i ads) pend h) with
        | some v, some u => bif AV.beq v u then recheck orc ads pend tm h l else false
        | _, _ => false
    | none => false

inductive RS where
  | fin (tm : T AV) (h : T Blk) (nx : Key)
  | ev (r : OR) (rest : List SItem) (pend : List (Nat × Key × Blk)) (tm : T AV) (h : T Blk) (nx : Key)

noncomputable def runSt (orc : Orc) (ads : List (Nat × List Nat)) (l : List SItem) : List (Nat × Key × Blk) → T AV → T Blk → Key → RS :=
  List.rec (fun pend tm h nx => adoptAll pend h fun h => .fin tm h nx)
    (fun x rest ih pend tm h nx => match x with
    | .L i o => match wantsP o.guard tm with
      | none => .ev (.bad 31) (x :: rest) pend tm h nx
      | some false => putT o.dst (some (.tuple [])) tm fun tm => ih pend tm h nx
      | some true => match lightOp orc o.op tm (viewH (adAt i ads) pend h) with
        | some v => putT o.dst (some v) tm fun tm => ih pend tm h nx
        | none => .ev (.bad 32) (x :: rest) pend tm h nx
    | .A i o => match wantsP o.guard tm with
      | none => .ev (.bad 33) (x :: rest) pend tm h nx
      | some false => putT o.dst (some (.tuple [])) tm fun tm => ih pend tm h nx
      | some true => match allocOp o.op tm with
        | some (v, b) => putT o.dst (some (v nx)) tm fun tm => ih ((i, nx, b) :: pend) tm h nx.succ
        | none => .ev (.bad 34) (x :: rest) pend tm h nx
    | .H _ o l => adopt l pend h fun pend h => match wantsP o.guard tm with
      | none => .ev (.bad 35) (x :: rest) pend tm h nx
      | some false => putT o.dst (some (.tuple [])) tm fun tm => ih pend tm h nx
      | some true => match aOp orc o.op tm h nx with
        | .val v h nx => putT o.dst (some v) tm fun tm => ih pend tm h nx
        | r => .ev r (x :: rest) pend tm h nx
    | .R os => bif recheck orc ads pend tm h os then ih pend tm h nx else .ev (.bad 36) (x :: rest) pend tm h nx) l

noncomputable def eraseC {R : Type} (l : List Key) : T AV → (T AV → R) → R :=
  List.rec (fun tm c => c tm) (fun k _ ih tm c => T.setC k none tm fun tm => ih tm c) l

noncomputable def paramsC {R : Type} (l : List AV) : Key → T AV → (T AV → R) → R :=
  List.rec (fun _ tm c => c tm) (fun v _ ih k tm c => T.setC k (some v) tm fun tm => ih k.succ tm c) l

noncomputable def zipC {R : Type} : List Key → List AV → T AV → R → (T AV → R) → R
  | [], [], tm, _, c => c tm
  | k :: l, v :: m, tm, bad, c => T.setC k (some v) tm fun tm => zipC l m tm bad c
  | _, _, _, bad, _ => bad

def exitToA (id : Nat) : List AItem → Option (List AItem)
  | [] => none
  | .inBlock id' :: k => bif Nat.beq id' id then some k else exitToA id k
  | _ :: k => exitToA id k

/- the value of a call that an operation waits for -/
noncomputable def finishA (v : AV) (fr : AFr) : Option AFr :=
  match fr.todo with
  | .ops (o :: rest) :: k => putT o.dst (some v) fr.tm fun tm => some { fr with tm, todo := .ops rest :: k }
  | .staged (.H _ o _ :: rest) dsts pend :: k => putT o.dst (some v) fr.tm fun tm => some { fr with tm, todo := .staged rest dsts pend :: k }
  | .inRF l :: k => some { fr with todo := .endRF l :: k }
  | _ => none

noncomputable def resultsA (h : T Blk) (tm : T AV) : List RV → Option (List AV)
  | [] => some []
  | .tmp k :: l => match T.get k tm, resultsA h tm l with
    | some v, some r => some (v :: r)
    | _, _ => none
  | .cell k agg n :: l => match T.get k tm, resultsA h tm l with
    | some (.ptr b off), some r => match loadB h b agg off n with
      | some v => some (v :: r)
      | none => none
    | _, _ => none

def tupled : List AV → AV
  | [v] => v
  | l => .tuple l

noncomputable def enterA (C : Cfg) (f : Nat) (args : List AV) (dfd : Bool) (bad : SR) (c : AFr → SR) : SR :=
  match (bif Nat.beq (Key.ofNatF 12 f).toNat f then T.get (Key.ofNatF 12 f) C.fns else none) with
  | some p => paramsC args .z .nil fun tm => c { fn := f, tm, todo := [.code p.body], dfs := [], mode := .run, dfd, rnd := none, res := p.res }
  | none => bad

noncomputable def frzIf {R : Type} (raw : Bool) (l : List AV) (h : T Blk) (c : List AV → T Blk → R) : R := bif raw then c l h else frzL (frz 8) l h c

noncomputable def altM (fr : AFr) (cs : List AFr) (nx : Key) : List (AV × T Blk) → List AM
  | [] => []
  | (v, h) :: l => (match finishA v fr with
    | some fr => ⟨fr, cs, h, nx⟩
    | none => ⟨fr, cs, h, nx⟩) :: altM fr cs nx l
/- what becomes of an operation's outcome that is no value -/
noncomputable def eventA (C : Cfg) (r : OR) (fr : AFr) (panicked : AFr) (cs : List AFr) (h : T Blk) (nx : Key) : SR :=
  match r with
  | .call f args => frzIf (C.raw f) args h fun args h => match C.sum f args h nx with
    | some (v, h, nx) => match finishA v fr with
      | some fr => .next ⟨fr, cs, h, nx⟩
      | none => .bad 39 ⟨fr, cs, h, nx⟩
    | none => enterA C f args false (.bad 40 ⟨fr, cs, h, nx⟩) fun fr' => .next ⟨fr', fr :: cs, h, nx⟩
  | .yld l args => match T.get l h with
    | some (.loop _ _ fn tm res params assign body _) =>
      zipC params args tm (.bad 41 ⟨fr, cs, h, nx⟩) fun tm => .next ⟨{ fn, tm, todo := [.code assign, .beginRound, .code body], dfs := [], mode := .run, dfd := false, rnd := some l, res }, fr :: cs, h, nx⟩
    | _ => .bad 42 ⟨fr, cs, h, nx⟩
  | .pan v => .next ⟨{ panicked with mode := .pan v false }, cs, h, nx⟩
  | .dfr f args => match fr.rnd with
    | none => match finishA (.tuple []) fr with
      | some fr => .next ⟨{ fr with dfs := .fn f args :: fr.dfs }, cs, h, nx⟩
      | none => .bad 43 ⟨fr, cs, h, nx⟩
    | some _ => .bad 44 ⟨fr, cs, h, nx⟩
  | .recover => match fr.rnd, fr.dfd, cs with
    | none, true, c :: cs' => match c.mode with
      | .pan v false => match finishA v fr with
        | some fr => .next ⟨fr, { c with mode := .pan v true } :: cs', h, nx⟩
        | none => .bad 45 ⟨fr, cs, h, nx⟩
      | .ret => match finishA .nili fr with
        | some fr => .next ⟨fr, cs, h, nx⟩
        | none => .bad 46 ⟨fr, cs, h, nx⟩
      | _ => .bad 47 ⟨fr, cs, h, nx⟩
    | _, _, _ => .bad 48 ⟨fr, cs, h, nx⟩
  | .alt l => match finishA .nili fr with
    | none => .bad 56 ⟨fr, cs, h, nx⟩
    | some _ => .alt (altM fr cs nx l)
  | .val _ _ _ => .bad 49 ⟨fr, cs, h, nx⟩
  | .bad w => .bad w ⟨fr, cs, h, nx⟩

/- a call has ended with v -/
noncomputable def returnA (v : AV) (fr : AFr) (cs : List AFr) (h : T Blk) (nx : Key) : SR :=
  match cs with
  | [] => bif fr.dfd then .bad 55 ⟨fr, [], h, nx⟩ else .done fr.fn v h nx
  | c :: cs => bif fr.dfd then
      (match c.mode with
      | .pan _ true => .next ⟨{ c with mode := .ret }, cs, h, nx⟩
      | .run => .bad 50 ⟨c, cs, h, nx⟩
      | _ => .next ⟨c, cs, h, nx⟩)
    else match finishA v c with
      | some c => .next ⟨c, cs, h, nx⟩
      | none => .bad 51 ⟨c, cs, h, nx⟩

noncomputable def leaveA (jump : Option PCode) (fr : AFr) (cs : List AFr) (h : T Blk) (nx : Key) : SR :=
  match fr.rnd with
  | none => match jump with
    | none => .next ⟨{ fr with mode := .ret }, cs, h, nx⟩
    | some .ret => .next ⟨{ fr with mode := .ret }, cs, h, nx⟩
    | _ => .bad 52 ⟨fr, cs, h, nx⟩
  | some l => match cs with
    | [] => .bad 54 ⟨fr, cs, h, nx⟩
    | c :: cs => match T.get l h with
      | some (.loop _ _ fn tm res params assign body dfs) =>
        T.setC l (some (.loop (match jump with | none => .ready | some _ => .done) jump fn tm res params assign body dfs)) h fun h =>
          match finishA (.bool (match jump with | none => true | some _ => false)) c with
          | some c => .next ⟨c, cs, h, nx⟩
          | none => .bad 51 ⟨c, cs, h, nx⟩
      | _ => .bad 53 ⟨fr, c :: cs, h, nx⟩

noncomputable def stepRun (C : Cfg) (fr : AFr) (cs : List AFr) (h : T Blk) (nx : Key) : SR :=
  match fr.todo with
  | [] => leaveA none fr cs h nx
  | x :: k => match x with
    | .code c => match c with
      | .skip => .next ⟨{ fr with todo := k }, cs, h, nx⟩
      | .ops l => .next ⟨{ fr with todo := .ops l :: k }, cs, h, nx⟩
      | .staged l d => .next ⟨{ fr with todo := .staged l d [] :: k }, cs, h, nx⟩
      | .seq a b => .next ⟨{ fr with todo := .code a :: .code b :: k }, cs, h, nx⟩
      | .cond x a b => match x.at fr.tm with
        | some (.bool true) => .next ⟨{ fr with todo := .code a :: k }, cs, h, nx⟩
        | some (.bool false) => .next ⟨{ fr with todo := .code b :: k }, cs, h, nx⟩
        | _ => .bad 60 ⟨fr, cs, h, nx⟩
      | .block id c => .next ⟨{ fr with todo := .code c :: .inBlock id :: k }, cs, h, nx⟩
      | .loop c => .next ⟨{ fr with todo := .code c :: .inLoop c :: k }, cs, h, nx⟩
      | .exit id => match exitToA id k with
        | some k => .next ⟨{ fr with todo := k }, cs, h, nx⟩
        | none => leaveA (some (.exit id)) fr cs h nx
      | .ret => leaveA (some .ret) fr cs h nx
      | .rangeF f params assign body => match fr.rnd, f.at fr.tm with
        | none, some (.fn g first cap) =>
          T.setC nx (some (.dfs false)) h fun h =>
          T.setC nx.succ (some (.loop .ready none fr.fn fr.tm fr.res params assign body nx)) h fun h =>
          enterA C g (first ++ .yld nx.succ :: cap) false (.bad 61 ⟨fr, cs, h, nx⟩) fun fr' =>
            .next ⟨fr', { fr with todo := .inRF nx.succ :: k, dfs := .coll nx :: fr.dfs } :: cs, h, nx.succ.succ⟩
        | _, _ => .bad 62 ⟨fr, cs, h, nx⟩
    | .inBlock _ => .next ⟨{ fr with todo := k }, cs, h, nx⟩
    | .inLoop c => .next ⟨{ fr with todo := .code c :: .inLoop c :: k }, cs, h, nx⟩
    | .ops l => match runOps C.orc l fr.tm h nx with
      | .fin tm h nx => .next ⟨{ fr with tm, todo := k }, cs, h, nx⟩
      | .ev r rest tm h nx => eventA C r { fr with tm, todo := .ops rest :: k } { fr with tm, todo := [] } cs h nx
    | .staged l d pend => match runSt C.orc d.ads l pend fr.tm h nx with
      | .fin tm h nx => .next ⟨{ fr with tm, todo := k }, cs, h, nx⟩
      | .ev r rest pend tm h nx => eraseC d.ds tm fun tm' => eventA C r { fr with tm, todo := .staged rest d pend :: k } { fr with tm := tm', todo := [] } cs h nx
    | .inRF _ => .bad 63 ⟨fr, cs, h, nx⟩
    | .endRF l => match T.get l h with
      | some (.loop st pending fn tm res params assign body dfs) => match st with
        | .busy => .bad 64 ⟨fr, cs, h, nx⟩
        | _ => T.setC l (some (.loop .exhausted pending fn tm res params assign body dfs)) h fun h =>
          .next ⟨{ fr with todo := match pending with | none => k | some c => .code c :: k }, cs, h, nx⟩
      | _ => .bad 65 ⟨fr, cs, h, nx⟩
    | .beginRound => match fr.rnd with
      | none => .bad 66 ⟨fr, cs, h, nx⟩
      | some l => match T.get l h with
        | some (.loop .ready pending fn tm res params assign body dfs) =>
          T.setC l (some (.loop .busy pending fn tm res params assign body dfs)) h fun h => .next ⟨{ fr with todo := k }, cs, h, nx⟩
        | _ => .bad 67 ⟨fr, cs, h, nx⟩

noncomputable def unwindA (C : Cfg) (fr : AFr) (cs : List AFr) (h : T Blk) (nx : Key) : SR :=
  match fr.dfs with
  | .coll b :: ds => match T.get b h with
    | some (.dfs false) => T.setC b (some (.dfs true)) h fun h => .next ⟨{ fr with dfs := ds }, cs, h, nx⟩
    | _ => .bad 70 ⟨fr, cs, h, nx⟩
  | .fn f args :: ds => enterA C f args true (.bad 71 ⟨fr, cs, h, nx⟩) fun fr' => .next ⟨fr', { fr with dfs := ds } :: cs, h, nx⟩
  | [] => match fr.mode with
    | .run => .bad 72 ⟨fr, cs, h, nx⟩
    | .ret => match resultsA h fr.tm fr.res with
      | some l => frzIf (C.rawR fr.fn) l h fun l h => returnA (tupled l) fr cs h nx
      | none => .bad 73 ⟨fr, cs, h, nx⟩
    | .pan v false => match cs with
      | [] => .pan v h nx
      | c :: cs => match c.mode with
        | .run => .next ⟨{ c with mode := .pan v false, todo := [], tm := (match c.todo with | .staged _ d _ :: _ => eraseC d.ds c.tm (fun t => t) | _ => c.tm) }, cs, h, nx⟩
        | _ => .bad 74 ⟨fr, c :: cs, h, nx⟩
    | .pan _ true => .bad 75 ⟨fr, cs, h, nx⟩

noncomputable def stepA (C : Cfg) (m : AM) : SR :=
  match m.fr.mode with
  | .run => stepRun C m.fr m.cs m.h m.nx
  | _ => unwindA C m.fr m.cs m.h m.nx

noncomputable def runA (C : Cfg) (n : Nat) : AM → SR :=
  Nat.rec (fun m => .next m) (fun _ ih m => match stepA C m with
    | .next m => ih m
    | r => r) n

end Go.Sx
/-
  SX: the model's code made ready for the abstract machine of SxCore. No condition.
-/
namespace Go.Sx

def slotK (nt i : Nat) : Option Key :=
  bif Nat.blt i nt && Nat.beq (Key.ofNatF 12 i).toNat i then some (Key.ofNatF 12 i) else none

def enc : List UInt8 → Nat
  | [] => 0
  | b :: l => b.toNat + 256 * enc l

mutual
def ofVal : Nat → Value → Option AV
  | 0, _ => none
  | n + 1, v => match v with
    | .bool b => some (.bool b)
    | .int k i => some (.int k (.lit i))
    | .string s => some (.str s.data.toList.length (enc s.data.toList))
    | .pointer none => some .nilp
    | .slice none 0 0 => some .nils
    | .map none => some .nilm
    | .nilFunc => some .nilf
    | .nilIface => some .nili
    | .iface t v => match ofVal n v with
      | some a => some (.iface t a)
      | none => none
    | .agg cs => match ofVals n cs.toList with
      | some l => some (.agg l)
      | none => none
    | .tuple cs => match ofVals n cs.toList with
      | some l => some (.tuple l)
      | none => none
    | _ => none
def ofVals : Nat → List Value → Option (List AV)
  | _, [] => some []
  | 0, _ :: _ => none
  | n + 1, v :: l => match ofVal n v, ofVals n l with
    | some a, some r => some (a :: r)
    | _, _ => none
end

def depthV : Nat := 400

def pX (P : Program) (nt : Nat) : Operand → Option PX
  | .tmp t => match slotK nt t with
    | some k => some (.t k)
    | none => none
  | .const v => match ofVal depthV v with
    | some a => some (.v a)
    | none => none
  | .global g => match slotK P.globals.size g with
    | some k => some (.v (.ptr k 0))
    | none => none
  | .func f => some (.v (.fn f [] []))

def pXs (P : Program) (nt : Nat) : List Operand → Option (List PX)
  | [] => some []
  | x :: l => match pX P nt x, pXs P nt l with
    | some a, some r => some (a :: r)
    | _, _ => none

def pOpt (P : Program) (nt : Nat) : Option Operand → Option (Option PX)
  | none => some none
  | some x => match pX P nt x with
    | some a => some (some a)
    | none => none

structure TI where
  size : Nat
  agg : Bool
  zero : AV

def tyI (P : Program) (t : TypeId) : Option TI :=
  match P.info? t, P.underlying t with
  | some i, some d => match i.zero with
    | some z => match ofVal depthV z with
      | some a => some ⟨i.size, (match d with | .struct _ => true | .array _ _ => true | _ => false), a⟩
      | none => none
    | none => none
  | _, _ => none

def pParts (P : Program) (nt : Nat) (place : Nat → Option (Nat × Nat)) : List (Nat × Operand) → Option (List (Nat × Nat × PX))
  | [] => some []
  | (i, x) :: l => match place i, pX P nt x, pParts P nt place l with
    | some (off, size), some a, some r => some ((off, size, a) :: r)
    | _, _, _ => none

def fieldPlaces (P : Program) : List Field → Option (List (Nat × Nat))
  | [] => some []
  | f :: l => match P.info? f.type, fieldPlaces P l with
    | some i, some r => some ((f.offset, i.size) :: r)
    | _, _ => none

/- the parts of an array's elements -/
def partsA (l : List (Nat × EqP)) (sz : Nat) : Nat → Nat → List (Nat × EqP)
  | 0, _ => []
  | n + 1, off => l.map (fun x => (off + x.1, x.2)) ++ partsA l sz n (off + sz)
/- how values of a type are compared -/
mutual
def eqP (P : Program) : Nat → TypeId → Option EqP
  | 0, _ => none
  | n + 1, t => match P.underlying t with
    | some .bool => some .bool
    | some (.int _) => some .int
    | some .string => some .str
    | some (.pointer e) => match P.info? e with
      | some i => bif Nat.beq i.size 0 then none else some .ptr
      | none => none
    | some (.interface _) => some .iface
    | some (.slice _) => some .slice
    | some (.func _ _ _) => some .func
    | some (.map _ _) => some .map
    | some (.struct fs) => bif P.stoodInHeld t then none else match eqFields P n fs.toList with
      | some l => some (.parts l)
      | none => none
    | some (.array len e) => match P.underlying e, eqP P n e, P.info? e with
      | some (.struct _), some (.parts l), some i => bif l.all (fun x => Nat.blt x.1 i.size) then some (.parts (partsA l i.size len 0)) else none
      | _, _, _ => none
    | _ => none
def eqFields (P : Program) : Nat → List Field → Option (List (Nat × EqP))
  | _, [] => some []
  | 0, _ :: _ => none
  | n + 1, f :: l => bif f.name == "_" then none else match eqP P n f.type, eqFields P n l with
    | some .bool, some r => some ((f.offset, .bool) :: r)
    | some .int, some r => some ((f.offset, .int) :: r)
    | some .str, some r => some ((f.offset, .str) :: r)
    | _, _ => none
end

def flatEq : EqP → Bool
  | .parts _ => true
  | .int => true
  | .str => true
  | _ => false

def isConstO : Operand → Bool
  | .const _ => true
  | _ => false

def pOp (P : Program) (nt : Nat) (o : Oper) : Option POp :=
  match o.op with
  | .move x | .assign x => (pX P nt x).map .mov
  | .pick c a b => match pX P nt c, pX P nt a, pX P nt b with
    | some c, some a, some b => some (.pick c a b)
    | _, _, _ => none
  | .alloc t => match tyI P t with
    | some i => some (.new i.zero.cells)
    | none => none
  | .box _ x => (pX P nt x).map .box
  | .build t parts => match tyI P t, P.underlying t with
    | some i, some (.struct fs) => match fieldPlaces P fs.toList with
      | some pl => match pParts P nt (pl[·]?) parts.toList with
        | some ps => some (.build i.zero.cells ps)
        | none => none
      | none => none
    | some i, some (.array _ e) => match P.info? e with
      | some ie => match pParts P nt (fun j => some (j * ie.size, ie.size)) parts.toList with
        | some ps => some (.build i.zero.cells ps)
        | none => none
      | none => none
    | _, _ => none
  | .buildSlice t len parts => match P.underlying t with
    | some (.slice e) => match tyI P e with
      | some ie => bif Nat.ble (len * ie.size) 16777216 && Nat.blt 0 ie.size && Nat.beq ie.zero.cells.length ie.size then (match pParts P nt (fun j => some (j * ie.size, ie.size)) parts.toList with
        | some ps => some (.bslice ie.size len ie.zero.cells ps)
        | none => none) else none
      | none => none
    | _ => none
  | .load t a => match tyI P t, pX P nt a with
    | some i, some a => some (.load i.agg i.size a)
    | _, _ => none
  | .store t a v => match P.info? t, pX P nt a, pX P nt v with
    | some i, some a, some v => some (.store i.size a v)
    | _, _, _ => none
  | .nilCheck x => (pX P nt x).map .nilc
  | .binOp op t x y _ => match pX P nt x, pX P nt y with
    | some a, some b => match P.underlying t with
      | some (.int _) => some (.bin op a b)
      | some .string => some (.bin op a b)
      | some (.interface _) => bif isConstO x || isConstO y then (match op with
        | .eql => some (.eq false .iface a b)
        | .neq => some (.eq true .iface a b)
        | _ => none) else none
      | some (.struct _) => bif P.eqGuardType P.depth t then none else (match op, eqP P 100 t with
        | .eql, some p => some (.eq false p a b)
        | .neq, some p => some (.eq true p a b)
        | _, _ => none)
      | some (.array _ _) => bif P.eqGuardType P.depth t then none else (match op, eqP P 100 t with
        | .eql, some p => some (.eq false p a b)
        | .neq, some p => some (.eq true p a b)
        | _, _ => none)
      | some _ => match op, eqP P 100 t with
        | .eql, some p => bif flatEq p then none else some (.eq false p a b)
        | .neq, some p => bif flatEq p then none else some (.eq true p a b)
        | _, _ => none
      | none => none
    | _, _ => none
  | .unOp op _ x => (pX P nt x).map (.un op)
  | .convert src dst x => match pX P nt x, P.underlying src, P.underlying dst with
    | some a, some (.int _), some (.int k) => some (.cint k a)
    | some a, some .string, some .string => some (.cstr a)
    | some a, some (.slice e), some .string => match P.underlying e with
      | some (.int .u8) => some (.cbytes a)
      | _ => none
    | some a, some .string, some (.slice e) => match P.underlying e with
      | some (.int .u8) => some (.strb a)
      | _ => none
    | _, _, _ => none
  | .makeInterface t x => match P.underlying t with
    | some (.interface _) => none
    | none => none
    | some _ => (pX P nt x).map (.mkif t)
  | .makeFunc (.func f) first cap => match pXs P nt first.toList, pXs P nt cap.toList with
    | some a, some c => some (.mkfn f a c)
    | _, _ => none
  | .makeMap _ none => some .mkmap
  | .makeSlice t l c => match P.underlying t with
    | some (.slice e) => match tyI P e, pX P nt l, pX P nt c with
      | some ie, some l, some c => match P.info? e with
        | some i => bif Nat.blt 0 ie.size && Nat.beq ie.zero.cells.length ie.size && Nat.ble i.bytes 65536 then some (.mkslice ie.size ie.zero.cells l c) else none
        | none => none
      | _, _, _ => none
    | _ => none
  | .slice t x lo hi none => match pX P nt x, pOpt P nt lo, pOpt P nt hi with
    | some a, some lo, some hi => match P.underlying t with
      | some .string => some (.sliceS a lo hi)
      | some (.slice e) => match P.info? e with
        | some i => bif Nat.blt 0 i.size then some (.sliceL i.size a lo hi) else none
        | none => none
      | _ => none
    | _, _, _ => none
  | .fieldAddr s x f => match P.underlying s with
    | some (.struct fs) => match fs[f]? with
      | some fd => match P.info? fd.type, pX P nt x with
        | some i, some a => bif Nat.beq i.size 0 then none else some (.fieldA fd.offset a)
        | _, _ => none
      | none => none
    | _ => none
  | .field t x f => match P.underlying t with
    | some (.struct fs) => match fs[f]? with
      | some fd => match tyI P fd.type, pX P nt x with
        | some i, some a => some (.field i.agg fd.offset i.size a)
        | _, _ => none
      | none => none
    | _ => none
  | .indexAddr t x i => match P.underlying t, pX P nt x, pX P nt i with
    | some (.array len e), some a, some b => match P.info? e with
      | some ie => bif Nat.blt 0 ie.size then some (.indexA len ie.size a b) else none
      | none => none
    | some (.slice e), some a, some b => match P.info? e with
      | some ie => bif Nat.blt 0 ie.size then some (.indexL ie.size a b) else none
      | none => none
    | _, _, _ => none
  | .index t x i => match P.underlying t, pX P nt x, pX P nt i with
    | some .string, some a, some b => some (.indexS a b)
    | some (.array len e), some a, some b => match tyI P e with
      | some ie => some (.indexV len ie.agg ie.size a b)
      | none => none
    | _, _, _ => none
  | .lookup t m k ok => match P.underlying t with
    | some (.map kt e) => match P.underlying kt, tyI P e, pX P nt m, pX P nt k with
      | some (.int _), some i, some a, some b => some (.lookup false i.zero ok a b)
      | some .string, some i, some a, some b => some (.lookup true i.zero ok a b)
      | _, _, _, _ => none
    | _ => none
  | .mapUpdate t m k v | .insert t m k v => match P.underlying t with
    | some (.map kt _) => match P.underlying kt, pX P nt m, pX P nt k, pX P nt v with
      | some (.int _), some a, some b, some c => some (.mapupd false a b c)
      | some .string, some a, some b, some c => some (.mapupd true a b c)
      | some (.struct _), some a, some b, some c => match eqP P 100 kt with
        | some p => some (.mapupdP p a b c)
        | none => none
      | some (.array _ _), some a, some b, some c => match eqP P 100 kt with
        | some p => some (.mapupdP p a b c)
        | none => none
      | _, _, _, _ => none
    | _ => none
  | .range t x => match P.underlying t with
    | some (.map _ _) => (pX P nt x).map .rangeM
    | _ => none
  | .next x false => (pX P nt x).map .nextM
  | .entry x => (pX P nt x).map .entryM
  | .typeAssert x _ t ok => match P.underlying t, tyI P t, pX P nt x with
    | some (.interface _), _, _ => none
    | some _, some i, some a => some (.assert t i.zero ok a)
    | _, _, _ => none
  | .extract x i => match pX P nt x with
    | some a => some (.extract a i)
    | none => none
  | .call c => match c.callee with
    | .value (.func f) => match pXs P nt c.args.toList, P.funcs[f]? with
      | some l, some fn => bif fn.body.isSome && !(fn.name == "runtime.NumGoroutine") then some (.callF f l) else none
      | _, _ => none
    | .value x => match pX P nt x, pXs P nt c.args.toList with
      | some a, some l => some (.callV a l)
      | _, _ => none
    | .invoke _ _ => none
    | .builtin b => match b, pXs P nt c.args.toList with
      | .len, some [x] => match c.argTypes.toList with
        | [t] => match P.underlying t with
          | some .string => some (.lenS x)
          | some (.slice _) => some (.lenL x)
          | some (.map _ _) => some (.lenM x)
          | _ => none
        | _ => none
      | .append, some [s, x] => match c.argTypes.toList with
        | [t, u] => match P.underlying t, P.underlying u with
          | some (.slice e), some (.slice _) => match tyI P e, P.info? e with
            | some ie, some i => bif Nat.blt 0 ie.size && Nat.beq ie.zero.cells.length ie.size && Nat.ble i.bytes 65536 then some (.append ie.size s x) else none
            | _, _ => none
          | some (.slice e), some .string => match tyI P e, P.info? e with
            | some ie, some i => bif Nat.blt 0 ie.size && Nat.beq ie.zero.cells.length ie.size && Nat.ble i.bytes 65536 then some (.append ie.size s x) else none
            | _, _ => none
          | _, _ => none
        | _ => none
      | .max, some [x, y] => some (.mx true x y)
      | .min, some [x, y] => some (.mx false x y)
      | .recover, some [] => some .recover
      | .delete, some [m, k] => match c.argTypes.toList with
        | t :: _ => match P.underlying t with
          | some (.map kt _) => match P.underlying kt, eqP P 100 kt with
            | some (.struct _), some p => some (.delP p m k)
            | some (.array _ _), some p => some (.delP p m k)
            | _, _ => none
          | _ => none
        | _ => none
      | _, _ => none
  | .defer c => match c.callee with
    | .value x => match pX P nt x, pXs P nt c.args.toList with
      | some a, some l => some (.dfr a l)
      | _, _ => none
    | _ => none
  | .panic x => (pX P nt x).map .panic
  | _ => none

def pGuard (nt : Nat) (ops : Array Oper) : Option (Nat × Bool) → Option (Option (Key × Bool))
  | none => some none
  | some (j, want) => match ops[j]? with
    | some o => match o.dst with
      | some d => match slotK nt d with
        | some k => some (some (k, want))
        | none => none
      | none => none
    | none => none

def pOper (P : Program) (nt : Nat) (ops : Array Oper) (o : Oper) : Option POper :=
  match pOp P nt o, pGuard nt ops o.guard with
  | some op, some g => match o.dst with
    | none => some ⟨none, op, g⟩
    | some d => match slotK nt d with
      | some k => some ⟨some k, op, g⟩
      | none => none
  | _, _ => none

def pOpers (P : Program) (nt : Nat) (ops : Array Oper) : List Nat → Option (List POper)
  | [] => some []
  | i :: l => match ops[i]? with
    | none => none
    | some o => match pOper P nt ops o, pOpers P nt ops l with
      | some a, some r => some (a :: r)
      | _, _ => none

/- ---------- regions that draw their order ---------- -/
def isHeavy : POp → Bool
  | .store _ _ _ | .mapupd _ _ _ _ | .mapupdP _ _ _ _ | .delP _ _ _ | .rangeM _ | .nextM _ | .strb _ | .append _ _ _ | .callF _ _ | .callV _ _ | .dfr _ _ | .panic _ | .recover => true
  | _ => false
def isAlloc : POp → Bool
  | .new _ | .box _ | .bslice _ _ _ _ | .mkmap | .mkslice _ _ _ _ => true
  | _ => false
def isRead : POp → Bool
  | .load _ _ _ | .lookup _ _ _ _ _ | .cbytes _ | .lenM _ | .entryM _ => true
  | _ => false

/- the transitive predecessors of each operation, as a number's bits -/
def befores (ops : Array Oper) : List Nat := (Region.before ops).toList

def heavies : List POper → Nat → List Nat
  | [], _ => []
  | o :: l, i => bif isHeavy o.op then i :: heavies l (i + 1) else heavies l (i + 1)

/- how many of the heavy ones stand before -/
def stageOf (b : Nat) : List Nat → Nat
  | [] => 0
  | h :: l => bif Nat.testBit b h then stageOf b l + 1 else stageOf b l

/- the light ones and allocations of a stage, in the order of the text -/
def lightsAt (hs : List Nat) (s : Nat) : List (POper × Nat) → Nat → List SItem
  | [], _ => []
  | (o, b) :: l, i => bif isHeavy o.op || !(Nat.beq (stageOf b hs) s) then lightsAt hs s l (i + 1)
      else (bif isAlloc o.op then .A i o else .L i o) :: lightsAt hs s l (i + 1)
/- the allocations among the predecessors -/
def adoptsAt (bh : Nat) : List (POper × Nat) → Nat → List Nat
  | [], _ => []
  | (o, _) :: l, i => bif isAlloc o.op && Nat.testBit bh i then i :: adoptsAt bh l (i + 1) else adoptsAt bh l (i + 1)
/- the reads of stages up to s that need not have been carried out -/
def rechecksAt (hs : List Nat) (s bh : Nat) : List (POper × Nat) → Nat → List (Nat × POper)
  | [], _ => []
  | (o, b) :: l, i => bif isRead o.op && Nat.ble (stageOf b hs) s && !(Nat.testBit bh i) then (i, o) :: rechecksAt hs s bh l (i + 1) else rechecksAt hs s bh l (i + 1)

def nthO (l : List (POper × Nat)) (i : Nat) : Option (POper × Nat) := l[i]?

def stagesFrom (hs : List Nat) (all : List (POper × Nat)) : Nat → List Nat → Option (List SItem)
  | s, [] => some (lightsAt hs s all 0)
  | s, h :: rest => match nthO all h, stagesFrom hs all (s + 1) rest with
    | some (o, b), some r => some (lightsAt hs s all 0 ++ .H h o (adoptsAt b all 0) :: .R (rechecksAt hs s b all 0) :: r)
    | _, _ => none

def dstsOf : List POper → List Key
  | [] => []
  | o :: l => match o.dst with
    | some d => d :: dstsOf l
    | none => dstsOf l

/- for each read the allocations among its predecessors -/
def adsFrom (all0 : List (POper × Nat)) : List (POper × Nat) → Nat → List (Nat × List Nat)
  | [], _ => []
  | (o, b) :: l, i => bif isRead o.op then (match adoptsAt b all0 0 with
      | [] => adsFrom all0 l (i + 1)
      | ad => (i, ad) :: adsFrom all0 l (i + 1)) else adsFrom all0 l (i + 1)

/- ---------- that the stages keep to the region's order ---------- -/
def hasB (m j : Nat) : Bool := Nat.testBit m j
def subB (n a b : Nat) : Bool := (List.range n).all fun j => !(hasB a j) || hasB b j
def bfAt (bf : List Nat) (i : Nat) : Nat := (bf[i]?).getD 0

/- the slots that an operation looks at -/
def slotsO (ops : Array Oper) (o : Oper) : List Nat :=
  o.op.operands.toList.filterMap (fun | .tmp t => some t | _ => none) ++ (match o.guard with | some (j, _) => ((ops[j]?).bind (·.dst)).toList | none => [])
def dstO (ops : Array Oper) (i : Nat) : Option Nat := (ops[i]?).bind (·.dst)

/- edges: to smaller numbers, among the predecessors; predecessors come by edges -/
def edgesOk (ops : Array Oper) (bf : List Nat) : Bool :=
  (List.range ops.size).all fun i => match ops[i]? with
    | none => false
    | some o => (o.after.toList.all fun e => !(Region.binds .any e) || (Nat.blt e.on i && hasB (bfAt bf i) e.on)) &&
      (List.range ops.size).all fun j => !(hasB (bfAt bf i) j) || o.after.toList.any fun e => Region.binds .any e && (Nat.beq e.on j || hasB (bfAt bf e.on) j)
/- no slot is written twice; who reads a slot stands before or behind who writes it -/
def slotsOk (ops : Array Oper) (bf : List Nat) : Bool :=
  (List.range ops.size).all fun i => match ops[i]? with
    | none => false
    | some o => (List.range ops.size).all fun j => match dstO ops j with
      | none => true
      | some t => bif Nat.beq i j then !(slotsO ops o).contains t else
          !(o.dst == some t) && (!(slotsO ops o).contains t || hasB (bfAt bf i) j || hasB (bfAt bf j) i)

/- a read whose slots are all written before it -/
def readOk (ops : Array Oper) (bf : List Nat) (i : Nat) : Bool := match ops[i]? with
  | none => false
  | some o => (List.range ops.size).all fun j => match dstO ops j with
    | none => true
    | some t => !(slotsO ops o).contains t || hasB (bfAt bf i) j

/- the stages as numbers -/
inductive IIt where
  | L (i : Nat)
  | A (i : Nat)
  | H (i : Nat) (adopt : List Nat)
  | R (os : List Nat)
def iOf : SItem → IIt
  | .L i _ => .L i
  | .A i _ => .A i
  | .H i _ l => .H i l
  | .R os => .R (os.map (·.1))
def fillI (pl : List POper) : IIt → Option SItem
  | .L i => (pl[i]?).map (.L i)
  | .A i => (pl[i]?).map (.A i)
  | .H i l => (pl[i]?).map (fun o => .H i o l)
  | .R os => (os.mapM fun i => (pl[i]?).map fun o => (i, o)).map .R

def kindAt (pl : List POper) (i : Nat) : Nat := match pl[i]? with
  | none => 9
  | some o => bif isHeavy o.op then 2 else bif isAlloc o.op then 1 else 0
def isReadAt (pl : List POper) (i : Nat) : Bool := match pl[i]? with
  | none => false
  | some o => isRead o.op

def setB (m i : Nat) : Nat := m ||| 2 ^ i

def chkI (ops : Array Oper) (pl : List POper) (bf : List Nat) : Nat → List IIt → Bool
  | m, [] => (List.range ops.size).all (hasB m)
  | m, .L i :: r => Nat.blt i ops.size && Nat.beq (kindAt pl i) 0 && !(hasB m i) && subB ops.size (bfAt bf i) m && chkI ops pl bf (setB m i) r
  | m, .A i :: r => Nat.blt i ops.size && Nat.beq (kindAt pl i) 1 && !(hasB m i) && subB ops.size (bfAt bf i) m && chkI ops pl bf (setB m i) r
  | m, .H i l :: .R os :: r => Nat.blt i ops.size && Nat.beq (kindAt pl i) 2 && !(hasB m i) && subB ops.size (bfAt bf i) m &&
      ((List.range ops.size).all fun j => hasB m j || Nat.beq j i || !(subB ops.size (bfAt bf j) m)) &&
      (l.all fun j => hasB (bfAt bf i) j) &&
      ((List.range ops.size).all fun j => !(hasB m j) || !(isReadAt pl j) || hasB (bfAt bf i) j || os.contains j) &&
      (os.all fun j => Nat.blt j ops.size && hasB m j && Nat.beq (kindAt pl j) 0 && readOk ops bf j) &&
      chkI ops pl bf (setB m i) r
  | _, _ => false

def adsOk (bf : List Nat) : List (Nat × List Nat) → Bool
  | [] => true
  | (i, l) :: r => (l.all fun j => hasB (bfAt bf i) j) && adsOk bf r

def stOk (ops : Array Oper) (pl : List POper) (bf : List Nat) (l : List IIt) : Bool := edgesOk ops bf && slotsOk ops bf && chkI ops pl bf 0 l

def pRegion (P : Program) (nt : Nat) (ops : Array Oper) (draw : Bool) : Option PCode :=
  match pOpers P nt ops (List.range ops.size) with
  | none => none
  | some l => bif draw then
      (let all := l.zip (befores ops)
      let hs := heavies l 0
      match stagesFrom hs all 0 hs with
      | some st => match (st.map iOf).mapM (fillI l) with
        | some st => bif stOk ops l (befores ops) (st.map iOf) && adsOk (befores ops) (adsFrom all all 0) then some (.staged st ⟨dstsOf l, adsFrom all all 0⟩) else none
        | none => none
      | none => none)
    else some (.ops l)

def pCode (P : Program) (nt : Nat) : Code → Option PCode
  | .skip => some .skip
  | .region _ ops draw => pRegion P nt ops draw
  | .seq a b => match pCode P nt a, pCode P nt b with
    | some a, some b => some (.seq a b)
    | _, _ => none
  | .cond c a b => match pX P nt c, pCode P nt a, pCode P nt b with
    | some c, some a, some b => some (.cond c a b)
    | _, _, _ => none
  | .block id c => match pCode P nt c with
    | some c => some (.block id c)
    | none => none
  | .loop c => match pCode P nt c with
    | some c => some (.loop c)
    | none => none
  | .rangeFunc f params a b => match pX P nt f, params.toList.mapM (slotK nt), pCode P nt a, pCode P nt b with
    | some f, some ps, some a, some b => some (.rangeF f ps a b)
    | _, _, _, _ => none
  | .exit id => some (.exit id)
  | .ret => some .ret
  | _ => none

def pRes (P : Program) (nt : Nat) : List ResultVar → Option (List RV)
  | [] => some []
  | .tmp t :: l => match slotK nt t, pRes P nt l with
    | some k, some r => some (.tmp k :: r)
    | _, _ => none
  | .cell a t :: l => match slotK nt a, tyI P t, pRes P nt l with
    | some k, some i, some r => some (.cell k i.agg i.size :: r)
    | _, _, _ => none

def pFn (P : Program) (f : Nat) : Option PFn :=
  match P.funcs[f]? with
  | none => none
  | some fn => match fn.body with
    | none => none
    | some c => bif fn.name == "runtime.NumGoroutine" then none else match pCode P fn.ntmps c, pRes P fn.ntmps fn.results.toList with
      | some b, some r => some ⟨b, r⟩
      | _, _ => none

end Go.Sx
