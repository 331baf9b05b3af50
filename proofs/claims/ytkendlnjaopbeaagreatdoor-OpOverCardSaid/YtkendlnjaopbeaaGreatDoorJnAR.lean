/- OpOver: the walk. Closed facts of the translation that hang on its long word of the order of beginnings: read once,by the signs of the word. The table of the roots: what a row's list gives,and a world for the witness. -/
import Derived.Test.YtkendlnjaopbeaaGreatDoorJnAQ
import Derived.Test.YtkendlnjaopbeaaGreatDoorOpOverG
import Derived.Test.YtkendlnjaopbeaaGreatDoorProg
import Derived.JoinedOf
import Derived.WalkKit
import Derived.Test.YtkendlnjaopbeaaGreatDoorRows
import Derived.Test.YtkendlnjaopbeaaGreatDoorShaB
import Derived.Lib.LaidTab
import Derived.Deep.DeepHandedRow
namespace Go.Proofs.YtkendlnjaopbeaaGreatDoor.OpOverWalk
open Go.RowKit
attribute [local irreducible] rwA bys
set_option linter.unusedVariables false
set_option linter.unusedSimpArgs false
set_option maxRecDepth 100000
set_option maxHeartbeats 4000000 in
theorem over_bad (w:World){kind room e:Int}(he:(e != 0)=true){kz v2 u:Value}{m:Nat}{iv p:List Nat}(h0:Cb w kz m p)(hi:B16 iv)
  (NW:∀ w',Cb w' kz m p→Calls Tryz.prog 9 [.int .i64 kind,kz,.agg (bys iv)].toArray w' (Ret (.tuple #[.pointer none,.int .i64 e]) w')) :
  Calls Tryz.prog 6 [.int .i64 kind,kz,.agg (bys iv),v2,u,.int .i64 room].toArray w (Ret (.bool true) w):=by
 have i0:=h0.old
 haveI:NBy iv 16:=⟨hi.len⟩
 clear h0
 refine fn_ret (N:=_) Tryz.func6 rfl Tryz.ntmps6 Tryz.results6 (by simp) ?_
 simp only [initS,Nat.reduceAdd,Nat.zero_add]
 repeat' (first|(refine wlS ?_)|(refine wlG ?_)|(refine wlB ?_)|(refine wlPNN ?_)|((with_reducible refine sel_call ?_);refine wl_rd rfl rfl (rd_call rfl rfl rfl (fun w hm=>by with_reducible exact NW w (VwB.out w hm))) ?_)|(refine wlE ?_)|(refine efSvao ?_;intro v oa ho)|(refine efBnn ?_;intro n hn)|(refine wl_skip rfl rfl ?_)|((with_reducible refine wc_seq ?_);intro K hK)|(refine auC ?_)|(refine wc_cond rfl (fun hc=>?_) (fun hc=>?_))|(refine wc_draw (by kernel_rfl) (by kernel_rfl) (by decide +kernel) ?_;intro w0 hw0 hm0;(try simp only [List.append_eq,List.cons_append,List.nil_append]))|(refine auP ?_)|((refine auR ?_);clear hK K)|(refine auR ?_)|((with_reducible refine hK _ _ ?_);clear hK K)|fail)
 first|refine end_ret (ResP.tmp rfl ResP.nil) ?_|refine end_normal (ResP.tmp rfl ResP.nil) ?_
 first|rfl|(show _=_;rfl)|(simp only [tupV, *];done)
theorem walk (w:World)(hT:Tab w){kind room:Int}{kz uiv v2 u:Value}{m n k:Nat}{p iv q sig:List Nat}(h0:Cb w kz m p)(h1:ArB 16 uiv iv)(h2:Cb w v2 n q)(h3:Cb w u k sig) :
  Calls Tryz.prog 6 [.int .i64 kind,kz,uiv,v2,u,.int .i64 room].toArray w (Ret (.bool true) w):=by
 obtain ⟨rfl,hil,hib⟩:=h1
 have hi:=B16.of hil hib
 haveI:ByL q:=⟨h2.ok.by'⟩
 refine kinds (q:=q) w hT h0 hi (fun e he NW=>over_bad w (by rcases he with rfl|rfl <;> rfl) h0 hi NW) (fun WC ho hf NW=>?_) (fun WC ho NW=>?_)
 ·by_cases hn:n≤2048
  ·exact over_err WC h0 hi h2 h3 hn ho hf NW
  ·exact over_large WC h0 hi h2 h3 (by omega) NW
 ·by_cases hn:n≤2048
  ·exact over_judge WC h0 hi h2 h3 hn ho NW
  ·exact over_large WC h0 hi h2 h3 (by omega) NW
end Go.Proofs.YtkendlnjaopbeaaGreatDoor.OpOverWalk
namespace Go.Proofs.YtkendlnjaopbeaaGreatDoor
set_option maxRecDepth 100000
theorem mayEnter_of {P:Program}{l:List Char}{rest:List (List Char)}(h0:P.initOrder=String.ofList l)(h:behindMainWord (wordsSigns l) = "cut".toList::rest)(hs:stripLifts liftWords ("cut".toList::rest)=([], "cut".toList::rest))(h1:P.laysLater=false)(h2:P.bearsReflect=false)(h3:P.doorFits []=true):P.mayEnter=true:=by
 unfold Program.mayEnter
 rw [h0,String.toList_ofList,h]
 generalize "cut".toList=c at *
 simp only [hs,h1,h2,h3]
 simp
theorem headLifts_of {P:Program}{l:List Char}{rest:List (List Char)}(h0:P.initOrder=String.ofList l)(h:behindMainWord (wordsSigns l) = "cut".toList::rest)(hs:stripLifts liftWords ("cut".toList::rest)=([], "cut".toList::rest)):P.headLifts=[]:=by
 unfold Program.headLifts
 rw [h0,String.toList_ofList,h,hs]
 simp
theorem liftsFinal_of {P:Program}{l:List Char}{rest:List (List Char)}(h0:P.initOrder=String.ofList l)(h:behindMainWord (wordsSigns l) = "cut".toList::rest)(hs:stripLifts liftWords ("cut".toList::rest)=([], "cut".toList::rest)):P.liftsFinal=false:=by
 unfold Program.liftsFinal
 rw [headLifts_of h0 h hs,h0,String.toList_ofList,h]
 simp
theorem make_of {P:Program}{l:List Char}{rest:List (List Char)}(h0:P.initOrder=String.ofList l)(h:behindMainWord (wordsSigns l) = "cut".toList::rest):P.make=some .cut:=by
 unfold Program.make
 rw [h0,String.toList_ofList,h]
 have e1:("cut".toList == "gc".toList || "cut".toList == "spec".toList)=false:=by decide +kernel
 simp only [e1]
 simp
theorem word0:∃ (l:List Char),Tryz.prog.initOrder=String.ofList l∧behindMainWord (wordsSigns l) = "cut".toList::(behindMainWord (wordsSigns l)).tail∧stripLifts liftWords ("cut".toList::(behindMainWord (wordsSigns l)).tail)=([], "cut".toList::(behindMainWord (wordsSigns l)).tail):=⟨_,rfl,by kernel_rfl,by kernel_rfl⟩
theorem word1:∃ (l:List Char) (rest:List (List Char)),Tryz.prog.initOrder=String.ofList l∧behindMainWord (wordsSigns l) = "cut".toList::rest∧stripLifts liftWords ("cut".toList::rest)=([], "cut".toList::rest):=by
 obtain ⟨l,h⟩:=word0
 exact ⟨l,_,h⟩
theorem mayEnters:Tryz.prog.mayEnter=true:=by
 obtain ⟨l,r,h0,h,hs⟩:=word1
 exact mayEnter_of h0 h hs (by kernel_rfl) (by kernel_rfl) (by kernel_rfl)
theorem liftsNone:Tryz.prog.liftsFinal=false:=by
 obtain ⟨l,r,h0,h,hs⟩:=word1
 exact liftsFinal_of h0 h hs
theorem makeCut:Tryz.prog.make=some .cut:=by
 obtain ⟨l,r,h0,h,hs⟩:=word1
 exact make_of h0 h
end Go.Proofs.YtkendlnjaopbeaaGreatDoor
namespace Go.Proofs.YtkendlnjaopbeaaGreatDoor
open Go.RowKit
theorem gTab:Tryz.prog.globalNamed "sealring/hash.primeRoots" = some 0:=by kernel_rfl
theorem gTabType:(Tryz.prog.globals[0]?).map (·.type)=some 132:=by kernel_rfl
theorem tab_of {W:World}(h:Lib.TabIs Tryz.prog W "sealring/hash.primeRoots" .u32 roots):Tab W:=fun i hi=>h.cell gTab i hi
noncomputable def laidWorld (os:Os):World:=
 {World.holding Tryz.prog os ⟨#[],#[],[]⟩ with heap:=(World.holding Tryz.prog os ⟨#[],#[],[]⟩).heap.modify 0 fun
   | .cells _ t frozen=>.cells (iw roots) t frozen
   | o=>o}
end Go.Proofs.YtkendlnjaopbeaaGreatDoor
