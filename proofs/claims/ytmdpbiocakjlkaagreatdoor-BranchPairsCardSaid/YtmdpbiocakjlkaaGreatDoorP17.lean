/-
 PROVED: refuterlaw13.BranchPairs returns true for every two lists of integers, and the arguments read behind the call as before (card_holds : Rows.BranchPairsCardSaid). CONDITION: the package variables lexer.symbols and parser.reserved hold what the program text lays in them, which the card ties to that text.
-/
import Derived.Test.YtmdpbiocakjlkaaGreatDoorP15
import Derived.Test.YtmdpbiocakjlkaaGreatDoorP16
import Derived.Test.YtmdpbiocakjlkaaGreatDoorRows
import Derived.WalkKit
import Derived.ProofKit
import Derived.OpenShut
import Derived.Handed
import Derived.LaidLaws
set_option linter.unusedSimpArgs false
set_option linter.unusedVariables false
set_option linter.unusedSectionVars false
namespace Go.Proofs.YtmdpbiocakjlkaaGreatDoor.branchPairs
open Go.ChangeShapes Go.WideShapes Go.ChangeAt Go.RowKit
theorem own:ownKnob Tryz.prog.godebug=none:=by kernel_rfl
theorem laidOut:laidOutB Tryz.prog=true:=by kernel_rfl
def nm (i : Nat) : String := (Rows.branchPairsRow.laid.map (·.1)).getD i ""
theorem gS:Tryz.prog.globalNamed (nm 0)=some 1:=by kernel_rfl
theorem gR:Tryz.prog.globalNamed (nm 1)=some 0:=by kernel_rfl
theorem tS:(Tryz.prog.globals[1]?).map (·.type)=some 293:=by kernel_rfl
theorem tR:(Tryz.prog.globals[0]?).map (·.type)=some 291:=by kernel_rfl
theorem uS:Tryz.prog.underlying 293=some (.array 22 9):=by kernel_rfl
theorem uR:Tryz.prog.underlying 291=some (.array 37 9):=by kernel_rfl
theorem u9:Tryz.prog.underlying 9=some .string:=by kernel_rfl
theorem u22:Tryz.prog.underlying 22=some (.slice 3):=by kernel_rfl
theorem u3:Tryz.prog.underlying 3=some (.int .i64):=by kernel_rfl
theorem u4:Tryz.prog.underlying 4=some .bool:=by kernel_rfl
theorem c3:Tryz.prog.cellsOf 3=1:=by kernel_rfl
theorem c9:Tryz.prog.cellsOf 9=1:=by kernel_rfl
theorem cS:Tryz.prog.cellsOf 293=22:=by kernel_rfl
theorem cR:Tryz.prog.cellsOf 291=37:=by kernel_rfl
theorem gN:Tryz.prog.globals.size=2:=by kernel_rfl
theorem lS:(Rows.laid_refuter_lexer_symbols:DataW Unit)=Sx.Va (Sx.UD Rows.laid_refuter_lexer_symbols):=by kernel_rfl
theorem lR:(Rows.laid_refuter_parser_reserved:DataW Unit)=Sx.Va (Sx.UD Rows.laid_refuter_parser_reserved):=by kernel_rfl
theorem hS:Tb.g1=(Sx.UD Rows.laid_refuter_lexer_symbols).map Sx.ahI:=by kernel_rfl
theorem hR:Tb.g0=(Sx.UD Rows.laid_refuter_parser_reserved).map Sx.ahI:=by kernel_rfl
open Go.Sx in
theorem aod{W:World}(h:laidMet Tryz.prog Rows.branchPairsRow.laid W):qE Tryz.prog Tb.heap0 ⟨W,zW W⟩:=by
 have h1:ahH W 1 _:=WW gS tS uS u9 c9 cS lS h
 have h2:ahH W 0 _:=WW gR tR uR u9 c9 cR lR (acT h)
 refine⟨?_,?_⟩
 ·obtain⟨arr,e,f,hh,_⟩:=h1
  rw[gN]
  exact(Array.getElem?_eq_some_iff.1 hh).1
 ·intro b B hb
  unfold Tb.heap0 at hb
  cases b with
  |z=>
   cases hb
   exact ahJ (b:=.z) h2 (by rw[gN];decide) (by rw[hR])
  |o k=>
   cases k with
   |z=>
    cases hb
    exact ahJ (b:=.o .z) h1 (by rw[gN];decide) (by rw[hS])
   |o k=>have hb:aa k .nil=some B:=hb;rw[T.get_nil] at hb;cases hb
   |e k=>have hb:aa k .nil=some B:=hb;rw[T.get_nil] at hb;cases hb
  |e k=>have hb:aa k .nil=some B:=hb;rw[T.get_nil] at hb;cases hb
open Go.Sx in
theorem amI{W:World}{b o:Nat}{v:Value}(h:W.cell? ⟨b,o,none⟩=some v):zW W b o=some v:=by
 unfold zW
 unfold World.cell? at h
 split at h<;>simp_all
open Go.Sx in
def ab9(W:World)(v:Value)(l:List Int):Prop:=(v=.slice none 0 0∧l=[])∨∃ (a:Addr) (cap b o:Nat),v=.slice (some a) l.length cap∧l.length≤cap∧(cap=0∨a=⟨b,o,none⟩)∧∀ i (h:i<l.length),zW W b (o+i)=some (.int .i64 l[i])
open Go.Sx in
theorem aez{W:World}{v:Value}{l:List Int}(hv:ab9 W v l):∃ cl,IsR 1 Tb.eI cl l∧bn (fun _=>0) (gMu Tryz.prog Tb.heap0 (zW W)) cl v:=by
 have hm:∀ l:List Int,aI Tb.eI l=l.map I:=fun l=>by
  induction l with
  |nil=>rfl
  |cons a l ih=>rw[rj,ih];rfl
 rcases hv with⟨rfl,rfl⟩|⟨ad,cap,b,o,rfl,Ob,tu,hz⟩
 ·exact⟨.nils,.inl ⟨rfl,rfl⟩,.nils⟩
 ·refine⟨.sl (l.map I) l.length 1 .any,.inr (by rw[hm]),.sl _ _ _ _ cap b o ad (l.map fun n=>Value.int .i64 n) ?_ (by simp) Ob tu ?_ trivial⟩
  ·refine aB.abW (by simp) fun i y hy=>?_
   simp at hy
   obtain⟨n,hn,rfl⟩:=hy
   exact⟨.int .i64 n,by simp[hn],.int _ _ _ rfl⟩
  ·intro i y hy
   simp at hy
   obtain⟨n,hn,rfl⟩:=hy
   obtain⟨hi,rfl⟩:=List.getElem?_eq_some_iff.1 hn
   exact hz i hi
open Go.Sx in
theorem walk{W:World}{v u:Value}{l m:List Int}(hv:ab9 W v l)(hu:ab9 W u m)(UE:Tb.inR l)(him:Tb.inR m)(hL:laidMet Tryz.prog Rows.branchPairsRow.laid W) :
  Calls Tryz.prog 3 #[v,u] W fun e w'=>e=.returned (.bool true)∧Below W.heap.size W w':=by
 have hl:=aod hL
 have hM:=Ru (ρ:=fun _=>0) hl an5 (nx:=jv.toNat) Tb.few
 have X:=Tp.aAr (ρ:=fun _=>0) _ hl
 obtain⟨cl,OT,vG⟩:=aez hv
 obtain⟨cm,Yu,aG7⟩:=aez hu
 have hc:=Tp.ah7 OT Yu UE him Tb.heap0 jv
 refine(Q0 X hM (fun _ _ h=>h) (args:=#[v,u]) (.cons _ _ _ _ vG (.cons _ _ _ _ aG7 .nil)) (fun o h nx h1=>⟨_,h1.1⟩) hc).mono ?_
 rintro e w' ⟨v,h',nx',u,μ,G,⟨hv,_⟩,rfl,hr,_,hM2,_⟩
 cases hv
 cases hr
 exact⟨rfl,hM2.below⟩
end Go.Proofs.YtmdpbiocakjlkaaGreatDoor.branchPairs
