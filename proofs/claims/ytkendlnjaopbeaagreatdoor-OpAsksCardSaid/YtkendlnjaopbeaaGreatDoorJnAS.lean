/- OpAsks: the walk. Closed facts of the translation that hang on its long word of the order of beginnings: read once,by the signs of the word. The table of the roots: what a row's list gives,and a world for the witness. -/
import Derived.Test.YtkendlnjaopbeaaGreatDoorOpAsksG
import Derived.Test.YtkendlnjaopbeaaGreatDoorProg
import Derived.JoinedOf
import Derived.WalkKit
import Derived.Test.YtkendlnjaopbeaaGreatDoorRows
import Derived.Test.YtkendlnjaopbeaaGreatDoorShaB
import Derived.Lib.LaidTab
import Derived.Deep.DeepHandedRow
namespace Go.Proofs.YtkendlnjaopbeaaGreatDoor.OpAsksWalk
open Go.RowKit
attribute [local irreducible] rwA bys
set_option linter.unusedVariables false
set_option linter.unusedSimpArgs false
set_option maxRecDepth 100000
theorem walk (w:World)(hT:Tab w){kind room:Int}{kz uiv v2:Value}{m n:Nat}{p iv q:List Nat}(h0:Cb w kz m p)(h1:ArB 16 uiv iv)(h2:Cb w v2 n q) :
  Calls Tryz.prog 3 [.int .i64 kind,kz,uiv,v2,.int .i64 room].toArray w (Ret (.bool true) w):=by
 obtain ⟨rfl,hil,hib⟩:=h1
 have hi:=B16.of hil hib
 haveI:ByL q:=⟨h2.ok.by'⟩
 refine kinds (q:=q) w hT h0 hi (fun e he NW=>asks_bad w hT (by rcases he with rfl|rfl <;> rfl) h0 hi NW) (fun WC ho hf _ NW=>?_) (fun WC ho _ NW=>?_)
 ·by_cases hn:n≤2048
  ·rcases hf with hf | ⟨hf,hl⟩
   ·exact asks_err hT WC h0 hi h2 hn (ho _) hf NW
   ·exact asks_ok hT WC h0 hi h2 hn (ho _) hf hl NW
  ·exact asks_large hT WC h0 hi h2 (by omega) NW
 ·by_cases hn:n≤2048
  ·exact asks_judge hT WC h0 hi h2 hn (ho _) NW
  ·exact asks_large hT WC h0 hi h2 (by omega) NW
end Go.Proofs.YtkendlnjaopbeaaGreatDoor.OpAsksWalk
namespace Go.Proofs.YtkendlnjaopbeaaGreatDoor
set_option maxRecDepth 100000
theorem mayEnter_of {P:Program}{l:List Char}{rest:List (List Char)}(h0:P.initOrder=String.ofList l)(h:behindMainWord (wordsSigns l) = "cut".toList::rest)(hs:stripLifts liftWords ("cut".toList::rest)=([], "cut".toList::rest))(h1:P.laysLater=false)(h2:P.bearsReflect=false)(h3:P.doorFits []=true):P.mayEnter=true:=by
 unfold Program.mayEnter
 rw [h0,String.toList_ofList,h]
 generalize "cut".toList=c at *
 simp only [hs,h1,h2,h3]
 simp
theorem headLifts_of {P:Program}{l:List Char}{rest:List (List Char)}(h0:P.initOrder=String.ofList l)(h:behindMainWord (wordsSigns l) = "cut".toList::rest)(hs:stripLifts liftWords ("cut".toList::rest)=([], "cut".toList::rest)):P.headLifts=[]:=by
 unfold Program.headLifts
 rw [h0,String.toList_ofList,h,hs]
 simp
theorem liftsFinal_of {P:Program}{l:List Char}{rest:List (List Char)}(h0:P.initOrder=String.ofList l)(h:behindMainWord (wordsSigns l) = "cut".toList::rest)(hs:stripLifts liftWords ("cut".toList::rest)=([], "cut".toList::rest)):P.liftsFinal=false:=by
 unfold Program.liftsFinal
 rw [headLifts_of h0 h hs,h0,String.toList_ofList,h]
 simp
theorem make_of {P:Program}{l:List Char}{rest:List (List Char)}(h0:P.initOrder=String.ofList l)(h:behindMainWord (wordsSigns l) = "cut".toList::rest):P.make=some .cut:=by
 unfold Program.make
 rw [h0,String.toList_ofList,h]
 have e1:("cut".toList == "gc".toList || "cut".toList == "spec".toList)=false:=by decide +kernel
 simp only [e1]
 simp
theorem word0:∃ (l:List Char),Tryz.prog.initOrder=String.ofList l∧behindMainWord (wordsSigns l) = "cut".toList::(behindMainWord (wordsSigns l)).tail∧stripLifts liftWords ("cut".toList::(behindMainWord (wordsSigns l)).tail)=([], "cut".toList::(behindMainWord (wordsSigns l)).tail):=⟨_,rfl,by kernel_rfl,by kernel_rfl⟩
theorem word1:∃ (l:List Char) (rest:List (List Char)),Tryz.prog.initOrder=String.ofList l∧behindMainWord (wordsSigns l) = "cut".toList::rest∧stripLifts liftWords ("cut".toList::rest)=([], "cut".toList::rest):=by
 obtain ⟨l,h⟩:=word0
 exact ⟨l,_,h⟩
theorem mayEnters:Tryz.prog.mayEnter=true:=by
 obtain ⟨l,r,h0,h,hs⟩:=word1
 exact mayEnter_of h0 h hs (by kernel_rfl) (by kernel_rfl) (by kernel_rfl)
theorem liftsNone:Tryz.prog.liftsFinal=false:=by
 obtain ⟨l,r,h0,h,hs⟩:=word1
 exact liftsFinal_of h0 h hs
theorem makeCut:Tryz.prog.make=some .cut:=by
 obtain ⟨l,r,h0,h,hs⟩:=word1
 exact make_of h0 h
end Go.Proofs.YtkendlnjaopbeaaGreatDoor
namespace Go.Proofs.YtkendlnjaopbeaaGreatDoor
open Go.RowKit
theorem gTab:Tryz.prog.globalNamed "sealring/hash.primeRoots" = some 0:=by kernel_rfl
theorem gTabType:(Tryz.prog.globals[0]?).map (·.type)=some 132:=by kernel_rfl
theorem tab_of {W:World}(h:Lib.TabIs Tryz.prog W "sealring/hash.primeRoots" .u32 roots):Tab W:=fun i hi=>h.cell gTab i hi
noncomputable def laidWorld (os:Os):World:=
 {World.holding Tryz.prog os ⟨#[],#[],[]⟩ with heap:=(World.holding Tryz.prog os ⟨#[],#[],[]⟩).heap.modify 0 fun
   | .cells _ t frozen=>.cells (iw roots) t frozen
   | o=>o}
end Go.Proofs.YtkendlnjaopbeaaGreatDoor
