/- The world behind a sort of attributes,in terms of the walk's own slices. slices.SortFunc at attributes,cmp.Compare at int: the shelf's contracts laid at this seat's numbers (written by the kit's lay-plain.mjs;for another seat it is to be written anew: wip/tools/laysort.sh). slices.SortFunc of attributes by their kinds: what it makes of a slice of the walk's own. attr.Norm,walked. One list of attributes over another: the plain law. Match,told of kinds and bytes alone. Match,told of kinds and bytes alone. What may be done with an object: plain laws. The laws' sameAttrs and attrs: walked. The package rule,walked: Kinds. (Printed by wip/genrule1.py.) The package rule,walked: classOf,sized,bit,Hidden. -/
import Derived.Test.YthigacbelefadaaDoorJnAD
import Derived.Test.YthigacbelefadaaDoorJnAC
import Derived.Shelf.GgSortFunc.InsertionK
import Derived.Shelf.SlSortCmp.WholeK
import Derived.Shelf.SlSortCmp.NoneTotal
import Derived.Shelf.SlicesG.Cmp
import Derived.Ground.SlsfProg
import Derived.Ground.SlgcProg
import Derived.Test.YthigacbelefadaaDoorProg
namespace Go.Proofs.YthigacbelefadaaDoor
open Go.RowKit
set_option linter.unusedVariables false
set_option linter.unusedSimpArgs false
set_option maxRecDepth 100000
instance attInh:Inhabited Att:=⟨(0,.int .i64 0,[])⟩
def encA (x:Att):List Value:=[.int .i64 x.1,if x.2.1.oneCell'=true then x.2.1 else .int .i64 0]
theorem encA_len (x:Att):(encA x).length=2:=rfl
theorem encA_one (x:Att):∀ v∈encA x,v.oneCell'=true:=by
 intro v hv
 simp only [encA,List.mem_cons,List.not_mem_nil,or_false] at hv
 rcases hv with rfl|rfl
 ·rfl
 ·split
  ·assumption
  ·rfl
theorem encA_eq {x:Att}(h:x.2.1.oneCell'=true):encA x=atC x:=by rw [encA,if_pos h];rfl
theorem flatA {l:List Att}(h:∀ x∈l,x.2.1.oneCell'=true):(Go.Sort.flatK encA 2 l.toArray).toList=atsC l:=by
 refine List.ext_getElem (by rw [Array.length_toList,Go.Sort.size_flatK,atsC_len];simp) fun t h1 h2=>?_
 rw [Array.length_toList,Go.Sort.size_flatK,List.size_toArray] at h1
 have hi:t / 2<l.length:=by omega
 have hg:=Go.Sort.get_flatK encA 2 l.toArray t (by simpa using h1)
 rw [getElem!_pos _ _ (by rw [Go.Sort.size_flatK,List.size_toArray];exact h1)] at hg
 rw [Array.getElem_toList,hg,getElem!_pos l.toArray (t / 2) (by simpa using hi),List.getElem_toArray]
 have hx:l[t / 2]? = some l[t / 2]:=List.getElem?_eq_getElem hi
 rw [encA_eq (h _ (List.getElem_mem hi))]
 have hc:=atsC_get hx
 have h3:=congrArg (·[t % 2]?) hc
 simp only [List.getElem?_take_of_lt (Nat.mod_lt t (by decide:0<2)),List.getElem?_drop] at h3
 rw [show t / 2 * 2+t % 2=t by omega,List.getElem?_eq_getElem h2] at h3
 have:atC l[t / 2]=[.int .i64 l[t / 2].1,l[t / 2].2.1]:=rfl
 rw [this]
 exact List.getElem!_of_getElem? h3.symm
theorem sorted_upd {w:World}{v:Value}{l l':List Att}{oa:Blks}{g cap:Nat}{cur:Array Value}{e n:Nat}{os:Array Obj}(hl:l'.length=l.length)(h1:∀ x∈l',x.2.1.oneCell'=true)(hg:w.heap[g]? = some (.cells cur e))(hc:cur.size=cap * 2)(hcap:l.length≤cap)(hcm:cap≤maxLen)(hb:Nat.blt e BIG=true:=by first|rfl|assumption) :
  ∃ cur',Upd w [(g,(cur,e))] (Go.Proofs.sortWorldK encA 2 w g 0 n l'.toArray os) [(g,(cur',e))]∧OwnL e 2 (.slice (some ⟨g,0,none⟩) l.length cap) l.length (atsC l') [(g,(cur',e))]:=by
 have hgl:=blk_lt hg
 have hfs:(Go.Sort.flatK encA 2 l'.toArray).size=l.length * 2:=by rw [Go.Sort.size_flatK,List.size_toArray,hl]
 have hnow:(Go.Proofs.sortWorldK encA 2 w g 0 n l'.toArray os).heap[g]? = some (.cells (Go.Sort.putCells id 0 (Go.Sort.flatK encA 2 l'.toArray) cur) e):=by
  show (Go.Sort.grow (Go.Sort.putRow id (Go.Sort.ahead w n) g 0 (Go.Sort.flatK encA 2 l'.toArray)) os).heap[g]? = _
  rw [Go.Sort.heap_grow_old _ _ (by rw [Go.Sort.size_putRow];exact hgl)]
  show ((w.heap.modify g _)[g]?)=_
  rw [Array.getElem?_modify,if_pos rfl,hg]
  rfl
 have hsz:(Go.Sort.putCells id 0 (Go.Sort.flatK encA 2 l'.toArray) cur).size=cap * 2:=by simp [Go.Sort.putCells,hc]
 refine ⟨_,⟨rfl,rfl,rfl,?_,fun k hk hne=>?_,by simp [keys],hd_one (hnow.trans (congrArg some (toObj_cells hb).symm)),fun k hk=>.inl hk⟩,⟨by rw [atsC_len,hl],.inr ⟨g,cap,_,rfl,hcap,hcm,hsz,?_,rfl⟩,.inr hb⟩⟩
 ·show w.heap.size≤(Go.Sort.grow (Go.Sort.putRow id (Go.Sort.ahead w n) g 0 _) os).heap.size
  rw [Go.Sort.size_grow,Go.Sort.size_putRow]
  show w.heap.size≤w.heap.size+_
  omega
 ·show (Go.Sort.grow (Go.Sort.putRow id (Go.Sort.ahead w n) g 0 _) os).heap[k]? = _
  rw [Go.Sort.heap_grow_old _ _ (by rw [Go.Sort.size_putRow];exact hk)]
  show ((w.heap.modify g _)[k]?)=_
  rw [Array.getElem?_modify,if_neg (fun e=>hne (by simp [keys,e]))]
 ·rw [←flatA h1]
  have h2:l.length * 2≤cap * 2:=Nat.mul_le_mul_right 2 hcap
  refine List.ext_getElem (by simp only [List.length_take,Array.length_toList,hsz,hfs];omega) fun t a b=>?_
  rw [Array.length_toList,hfs] at b
  rw [List.getElem_take,Array.getElem_toList,Array.getElem_toList]
  simp only [Go.Sort.putCells,Array.getElem_mapIdx,Nat.zero_le,Nat.zero_add,true_and,hfs,b,if_true,id,Nat.sub_zero]
  rw [getElem!_pos]
theorem holds_att {w:World}{l:List Att}{g:Nat}{cur:Array Value}{e:Nat}(h1:∀ x∈l,x.2.1.oneCell'=true)(hg:w.heap[g]? = some (.cells cur e))(ht:cur.toList.take (l.length * 2)=atsC l):Go.Sort.HoldsK encA 2 w g 0 l.toArray:=by
 intro j hj
 rw [Go.Sort.size_flatK,List.size_toArray] at hj
 have hfj:(Go.Sort.flatK encA 2 l.toArray)[j]? = cur[j]?:=by
  rw [←Array.getElem?_toList,flatA h1,←ht,List.getElem?_take_of_lt hj,Array.getElem?_toList]
 have hlt:j<(Go.Sort.flatK encA 2 l.toArray).size:=by rw [Go.Sort.size_flatK,List.size_toArray];exact hj
 refine ⟨?_,?_⟩
 ·rw [Nat.zero_add]
  simp only [World.cell?,hg]
  rw [←hfj,Array.getElem?_eq_getElem hlt,getElem!_pos (Go.Sort.flatK encA 2 l.toArray) j hlt]
  rfl
 ·simp [World.frozen?,hg]
end Go.Proofs.YthigacbelefadaaDoor
namespace Go.Proofs
open Go.Shelf
def YthigacbelefadaaDoor.sortAt_ren:Go.Shelf.Ren:=⟨fun|6=>47|15=>65|14=>64|28=>78|29=>52|20=>70|21=>71|22=>72|23=>73|24=>74|25=>75|26=>76|27=>77|46=>82|47=>83|48=>84|49=>85|50=>86|57=>88|n=>n,fun|22=>47|24=>86|25=>127|3=>3|39=>87|0=>0|53=>114|55=>22|4=>4|46=>149|45=>148|50=>153|5=>5|9=>9|66=>159|70=>163|76=>165|77=>166|n=>n,fun|n=>n⟩
theorem YthigacbelefadaaDoor.sortAt:Go.Proofs.SlLaysF0.n6 Tryd.prog YthigacbelefadaaDoor.sortAt_ren:={
 mixed:=by kernel_rfl
 f6:=⟨Tryd.f47.name,by decide,Tryd.func47.trans (congrArg some (by kernel_rfl))⟩
 f14:=⟨Tryd.f64.name,by decide,Tryd.func64.trans (congrArg some (by kernel_rfl))⟩
 f15:=Tryd.func65.trans (congrArg some (by kernel_rfl))
 f20:=⟨Tryd.f70.name,by decide,Tryd.func70.trans (congrArg some (by kernel_rfl))⟩
 f21:=⟨Tryd.f71.name,by decide,Tryd.func71.trans (congrArg some (by kernel_rfl))⟩
 f22:=⟨Tryd.f72.name,by decide,Tryd.func72.trans (congrArg some (by kernel_rfl))⟩
 f23:=⟨Tryd.f73.name,by decide,Tryd.func73.trans (congrArg some (by kernel_rfl))⟩
 f24:=⟨Tryd.f74.name,by decide,Tryd.func74.trans (congrArg some (by kernel_rfl))⟩
 f25:=⟨Tryd.f75.name,by decide,Tryd.func75.trans (congrArg some (by kernel_rfl))⟩
 f26:=⟨Tryd.f76.name,by decide,Tryd.func76.trans (congrArg some (by kernel_rfl))⟩
 f27:=⟨Tryd.f77.name,by decide,Tryd.func77.trans (congrArg some (by kernel_rfl))⟩
 f28:=Tryd.func78.trans (congrArg some (by kernel_rfl))
 f29:=Tryd.func52.trans (congrArg some (by kernel_rfl))
 f46:=⟨Tryd.f82.name,by decide,Tryd.func82.trans (congrArg some (by kernel_rfl))⟩
 f47:=Tryd.func83.trans (congrArg some (by kernel_rfl))
 f48:=Tryd.func84.trans (congrArg some (by kernel_rfl))
 f49:=⟨Tryd.f85.name,by decide,Tryd.func85.trans (congrArg some (by kernel_rfl))⟩
 f50:=⟨Tryd.f86.name,by decide,Tryd.func86.trans (congrArg some (by kernel_rfl))⟩
 f57:=⟨Tryd.f88.name,by decide,Tryd.func88.trans (congrArg some (by kernel_rfl))⟩
 t0:=Tryd.underlying0
 a0:=Tryd.isAgg0
 z0:=Tryd.sizeOf0
 v0:=Tryd.zeroValue0
 t3:=Tryd.underlying3
 a3:=Tryd.isAgg3
 z3:=Tryd.sizeOf3
 v3:=Tryd.zeroValue3
 t4:=Tryd.underlying4
 a4:=Tryd.isAgg4
 z4:=Tryd.sizeOf4
 v4:=Tryd.zeroValue4
 t5:=Tryd.underlying5
 a5:=Tryd.isAgg5
 z5:=Tryd.sizeOf5
 v5:=Tryd.zeroValue5
 t9:=Tryd.underlying9
 a9:=Tryd.isAgg9
 z9:=Tryd.sizeOf9
 v9:=Tryd.zeroValue9
 t22:=Tryd.underlying47
 a22:=Tryd.isAgg47
 z22:=Tryd.sizeOf47
 v22:=Tryd.zeroValue47
 t25:=Tryd.underlying127
 a25:=Tryd.isAgg127
 z25:=Tryd.sizeOf127
 v25:=Tryd.zeroValue127
 t39:=Tryd.underlying87
 a39:=Tryd.isAgg87
 z39:=Tryd.sizeOf87
 v39:=Tryd.zeroValue87
 t45:=Tryd.underlying148
 a45:=Tryd.isAgg148
 z45:=Tryd.sizeOf148
 v45:=Tryd.zeroValue148
 t46:=Tryd.underlying149
 a46:=Tryd.isAgg149
 z46:=Tryd.sizeOf149
 v46:=Tryd.zeroValue149
 t50:=Tryd.underlying153
 a50:=Tryd.isAgg153
 z50:=Tryd.sizeOf153
 v50:=Tryd.zeroValue153
 t53:=Tryd.underlying114
 a53:=Tryd.isAgg114
 z53:=Tryd.sizeOf114
 v53:=Tryd.zeroValue114
 t55:=Tryd.underlying22
 a55:=Tryd.isAgg22
 z55:=Tryd.sizeOf22
 v55:=Tryd.zeroValue22
 t66:=Tryd.underlying159
 a66:=Tryd.isAgg159
 z66:=Tryd.sizeOf159
 v66:=Tryd.zeroValue159
 t70:=Tryd.underlying163
 a70:=Tryd.isAgg163
 z70:=Tryd.sizeOf163
 v70:=Tryd.zeroValue163
 t76:=Tryd.underlying165
 a76:=Tryd.isAgg165
 z76:=Tryd.sizeOf165
 v76:=Tryd.zeroValue165
 t77:=Tryd.underlying166
 a77:=Tryd.isAgg166
 z77:=Tryd.sizeOf166
 v77:=Tryd.zeroValue166}
def YthigacbelefadaaDoor.cmpAt_ren:Go.Shelf.Ren:=⟨fun|5=>49|7=>66|n=>n,fun|22=>3|3=>3|4=>4|n=>n,fun|n=>n⟩
theorem YthigacbelefadaaDoor.cmpAt:Go.Proofs.SlLaysC2.n5 Tryd.prog YthigacbelefadaaDoor.cmpAt_ren:={
 mixed:=by kernel_rfl
 f5:=⟨Tryd.f49.name,by decide,Tryd.func49.trans (congrArg some (by kernel_rfl))⟩
 f7:=⟨Tryd.f66.name,by decide,Tryd.func66.trans (congrArg some (by kernel_rfl))⟩
 t3:=Tryd.underlying3
 a3:=Tryd.isAgg3
 z3:=Tryd.sizeOf3
 v3:=Tryd.zeroValue3
 t4:=Tryd.underlying4
 a4:=Tryd.isAgg4
 z4:=Tryd.sizeOf4
 v4:=Tryd.zeroValue4
 t22:=Tryd.underlying3
 a22:=Tryd.isAgg3
 z22:=Tryd.sizeOf3
 v22:=Tryd.zeroValue3}
end Go.Proofs
namespace Go.Proofs.YthigacbelefadaaDoor
open Go.RowKit
set_option linter.unusedVariables false
set_option linter.unusedSimpArgs false
set_option maxRecDepth 100000
def UpT (l:List Att):Prop:=l.Pairwise fun a b=>a.1≤b.1
def cmpK (x y:Att):Int:=Lib.compareInt x.1 y.1
theorem ltK (x y:Att):ltOf cmpK x y=decide (x.1<y.1):=by
 unfold ltOf cmpK Lib.compareInt
 by_cases h1:x.1<y.1
 ·simp [h1]
 ·by_cases h2:y.1<x.1 <;> simp [h1,h2]
theorem swoK:Go.Sort.SWO (ltOf cmpK) where
 irrefl x:=by rw [ltK];simp
 trans x y z h1 h2:=by rw [ltK] at *;simp at *;omega
 ntrans x y z h1 h2:=by rw [ltK] at *;simp at *;omega
set_option maxHeartbeats 1000000 in
theorem norm1_c (x y:Att)(W:World):Calls Tryd.prog 48 #[.agg (encA x).toArray,.agg (encA y).toArray] W fun e w'=>e=.returned (.int .i64 (cmpK x y))∧∃ q os',w'=Go.Sort.grow (W.drewN q) os':=by
 have hcon:=fun W'=>AnyG.cmp_Compare_int YthigacbelefadaaDoor.cmpAt x.1 y.1 W'
 change ∀ W',Calls Tryd.prog 49 _ _ _ at hcon
 have hr:Lib.compareInt x.1 y.1=cmpK x y:=rfl
 rw [hr] at hcon
 unfold encA
 generalize cmpK x y=r at hcon ⊢
 have hx:(if x.2.1.oneCell'=true then x.2.1 else Value.int .i64 0).oneCell'=true:=by split;assumption;rfl
 have hy:(if y.2.1.oneCell'=true then y.2.1 else Value.int .i64 0).oneCell'=true:=by split;assumption;rfl
 generalize (if x.2.1.oneCell'=true then x.2.1 else Value.int .i64 0)=vx at *
 generalize (if y.2.1.oneCell'=true then y.2.1 else Value.int .i64 0)=vy at *
 go_enter Tryd.func48,Tryd.ntmps48
 go_wp2_with (go_at_call 49;refine (hcon _).mono ?_;rintro e w' ⟨rfl,rfl⟩)
 go_ret
 exact ⟨rfl,0,_,by rw [Go.Sort.alloc_eq_grow,Go.Sort.alloc_eq_grow,Go.Sort.grow_grow];rfl⟩
theorem sort_c (w:World){v:Value}{l:List Att}{oo:Blks}(ho:OwnL 86 2 v l.length (atsC l) oo)(hd:Hd oo w)(h1:∀ x∈l,x.2.1.oneCell'=true)(hn:l.length≤1048576) :
  Calls Tryd.prog 47 [v,.func (.func 48) #[] #[]].toArray w (RetU (fun _:Unit=>.tuple #[]) oo (fun _ oo'=>∃ l',l'.Perm l∧UpT l'∧OwnL 86 2 v l.length (atsC l') oo') w):=by
 rcases ho.out with ⟨rfl,h0,rfl⟩ | ⟨g,cap,cur,rfl,hnc,hcm,hcs,htake,rfl⟩
 ·have hl:l=[]:=List.eq_nil_of_length_eq_zero h0
  subst hl
  have hcon:=AnyF.slices_SortFunc_none (P:=Tryd.prog) {YthigacbelefadaaDoor.sortAt with} none 0 (.func (.func 48) #[] #[]) w
  change Calls Tryd.prog 47 _ _ _ at hcon
  exact hcon.mono fun e w' ⟨he,hw⟩=>⟨(),[],he,⟨[],.nil,List.Pairwise.nil,OwnL.nil _ _⟩,by rw [hw];exact ⟨rfl,rfl,rfl,Nat.le_refl _,fun _ _ _=>rfl,by simp [keys],hd,fun n hn=>.inl hn⟩⟩
 ·have hg:w.heap[g]? = some (.cells cur 86):=hd (g,(cur,86)) (by simp)
  have eg:∀ args w,(callFunc 48 args).run Tryd.prog w=.ok (.enter 48 args) w:=enters_of Tryd.func48 (by kernel_rfl) rfl
  have hcon:=AnyQ.slices_SortFunc YthigacbelefadaaDoor.sortAt 2 Tryd.isAgg86 Tryd.sizeOf86 encA encA_len encA_one cmpK swoK 48 #[] g 0 cap l.toArray w eg (fun _ _ _ _ x y=>norm1_c x y _) (holds_att h1 hg htake) (blk_lt hg) (by simp;omega)
  change Calls Tryd.prog 47 _ _ _ at hcon
  rw [List.size_toArray] at hcon
  refine hcon.mono fun e w' ⟨he,d',n,os,⟨hp1,_,hp3⟩,hs,hw⟩=>?_
  rw [List.size_toArray] at hp1
  obtain ⟨l',rfl⟩:∃ l':List Att,d'=l'.toArray:=⟨d'.toList,by simp⟩
  rw [List.size_toArray] at hp1
  have hperm:l'.Perm l:=by
   have e1:l'.toArray.extract 0 l.length=l'.toArray:=by rw [←hp1];simp
   have e2:l.toArray.extract 0 l.length=l.toArray:=by simp
   rw [e1,e2] at hp3
   exact hp3
  obtain ⟨cur',hu,ho'⟩:=sorted_upd (v:=.slice (some ⟨g,0,none⟩) l.length cap) (oa:=[]) (w:=w) (l:=l) (l':=l') (n:=n) (os:=os) hp1 (fun x hx=>h1 x (hperm.mem_iff.1 hx)) hg hcs hnc hcm
  refine ⟨(),_,he,⟨l',hperm,?_,ho'⟩,by rw [hw];exact hu⟩
  unfold UpT
  rw [List.pairwise_iff_getElem]
  intro i j hi hj hij
  have:=hs i j (Nat.zero_le _) hij (by rw [←hp1];exact hj)
  rw [ltK] at this
  rw [getElem!_pos l'.toArray j (by simpa using hj),getElem!_pos l'.toArray i (by simpa using hi)] at this
  simp only [List.getElem_toArray,decide_eq_false_iff_not] at this
  omega
end Go.Proofs.YthigacbelefadaaDoor
namespace Go.Proofs.YthigacbelefadaaDoor
open Go.RowKit
set_option linter.unusedVariables false
set_option linter.unusedSimpArgs false
set_option maxRecDepth 100000
theorem upT_rises:∀ {l:List Att},UpT l→((abs l).map (·.1)).Nodup→Rises (abs l)
 | [],_,_=>List.Pairwise.nil
 | x::r,h,hn=>by
  have h':=List.pairwise_cons.1 h
  have hn':(x.1::(abs r).map (·.1)).Nodup:=hn
  rw [List.nodup_cons] at hn'
  refine List.Pairwise.cons (fun b hb=>?_) (upT_rises h'.2 hn'.2)
  obtain ⟨y,hy,rfl⟩:=List.mem_map.1 hb
  have h1:=h'.1 y hy
  have h2:x.1≠y.1:=fun e=>hn'.1 (by rw [e];exact List.mem_map.2 ⟨(y.1,y.2.2),hb,rfl⟩)
  show x.1<y.1
  omega
theorem abs_perm {l m:List Att}(h:l.Perm m):(abs l).Perm (abs m):=h.map _
set_option maxHeartbeats 2000000 in
theorem norm_err (w:World){v:Value}{l:List Att}{e:Int}(h:Ats w v l)(he:chkA (abs l)=e)(h0:e≠0):Calls Tryd.prog 29 [v].toArray w (Ret (.tuple #[.slice none 0 0,.int .i64 e]) w):=by
 haveI:=h.old
 have CK:=fun w' (h:Ats w' v l)=>(show Calls Tryd.prog 40 [v].toArray w' (Ret (.int .i64 e) w') by rw [←he];exact check_a w' h)
 have t1:(e != 0)=true:=by simpa using h0
 clear h he
 refine fn_ret (N:=_) Tryd.func29 rfl Tryd.ntmps29 Tryd.results29 (by simp) ?_
 simp only [initS,Nat.reduceAdd,Nat.zero_add]
 repeat' (first|(refine wlS ?_)|(refine wlB ?_)|((with_reducible refine sel_call ?_);refine wl_rd rfl rfl (rd_call rfl rfl rfl (fun w hm=>by with_reducible exact CK w (VwT.out w hm))) ?_)|(refine wlE ?_)|(refine efSvao ?_;intro v oa ho)|(refine efBnn ?_;intro n hn)|(refine efB ?_)|(refine efBS ?_)|(refine wl_skip rfl rfl ?_)|(refine wdS ?_)|(refine wdV ?_)|(refine wdB ?_)|((with_reducible refine seld_call ?_);refine wd_rd hm0 rfl rfl rfl rfl (rd_call rfl rfl rfl (fun w hm=>by with_reducible exact CK w (VwT.out w hm))) ?_)|(refine wdE ?_)|(refine wd_skip rfl rfl ?_)|((with_reducible refine seld_nil ?_);refine wd_nil hm0 ?_;clear hm0 hw0)|((with_reducible refine wc_seq ?_);intro K hK)|(refine auC ?_)|(refine wc_cond rfl (fun hc=>?_) (fun hc=>?_))|(refine wc_draw (by kernel_rfl) (by kernel_rfl) (by decide +kernel) ?_;intro w0 hw0 hm0;(try simp only [List.append_eq,List.cons_append,List.nil_append]))|(refine auP ?_)|((refine auR ?_);clear hK K)|(refine auR ?_)|((with_reducible refine hK _ _ ?_);clear hK K)|fail)
 first|refine end_ret (ResP.tmp rfl (ResP.tmp rfl ResP.nil)) ?_|refine end_normal (ResP.tmp rfl (ResP.tmp rfl ResP.nil)) ?_
 first|rfl|(show _=_;rfl)|(simp only [tupV, *];done)
structure NmS where
 i:Nat
 its:List Att
 v:Value
 oo:Blks
 ob:Blks
structure NmS.Ok (l:List Att)(x:NmS):Prop where
 le:x.i≤l.length
 own:OwnL 86 2 x.v x.i (atsC x.its) x.oo
 bod:BodF (Hd x.ob) x.its
 eq:abs x.its=abs (l.take x.i)
 len:x.its.length=x.i
 one:∀ y∈x.its,y.2.1.oneCell'=true
set_option maxHeartbeats 8000000 in
theorem norm_ok (w:World){v:Value}{l:List Att}(h:Ats w v l)(hk:AbOk (abs l)):Calls Tryd.prog 29 [v].toArray w (RetO (fun u:Value=>.tuple #[u,.int .i64 0]) (fun u oa=>∃ its,OwnT u its oa∧IsNorm (abs its) (abs l)) w):=by
 haveI i0:=h.old
 haveI i1:=h.cs.old
 have CK:=fun w' (h:Ats w' v l)=>(show Calls Tryd.prog 40 [v].toArray w' (Ret (.int .i64 0) w') by
  have:=check_a w' h
  rwa [chkA_zero.2 hk] at this)
 have hlen:l.length≤24:=by have:=hk.len;rwa [abs_len] at this
 have hbody:=h.body
 have CL:∀ w' {v:Value} {k:Nat} {q:List Nat},Cb w' v k q→k≤1099511627776→Calls Tryd.prog 28 [v].toArray w' (RetO (fun u=>u) (fun u oa=>OwnB 5 u k q oa) w'):=fun w' {v k q} h hk=>clone_b w' h hk
 have t0:((0:Int) != 0)=false:=rfl
 clear h
 refine fn_own (N:=_) Tryd.func29 rfl Tryd.ntmps29 Tryd.results29 (by simp) ?_
 simp only [initS,Nat.reduceAdd,Nat.zero_add]
 repeat' (first|(refine wlS ?_)|(refine wlB ?_)|((with_reducible refine sel_call ?_);refine wl_rd rfl rfl (rd_call rfl rfl rfl (fun w hm=>by with_reducible exact CK w (VwT.out w hm))) ?_)|(refine wlE ?_)|(refine efSvao ?_;intro v oa ho)|(refine efBnn ?_;intro n hn)|(refine efB ?_)|(refine efBS ?_)|(refine wl_skip rfl rfl ?_)|(refine wdS ?_)|(refine wdV ?_)|(refine wdB ?_)|((with_reducible refine seld_call ?_);refine wd_rd hm0 rfl rfl rfl rfl (rd_call rfl rfl rfl (fun w hm=>by with_reducible exact CK w (VwT.out w hm))) ?_)|(refine wdE ?_)|(refine wd_skip rfl rfl ?_)|((with_reducible refine seld_nil ?_);refine wd_nil hm0 ?_;clear hm0 hw0)|((with_reducible refine wc_seq ?_);intro K hK)|(refine auC ?_)|(refine wc_cond rfl (fun hc=>?_) (fun hc=>?_))|(refine wc_draw (by kernel_rfl) (by kernel_rfl) (by decide +kernel) ?_;intro w0 hw0 hm0;(try simp only [List.append_eq,List.cons_append,List.nil_append]))|(refine auP ?_)|((refine auR ?_);clear hK K)|(refine auR ?_)|((with_reducible refine hK _ _ ?_);clear hK K)|fail)
 refine wc_loop (σ:=NmS) (fun x=>[(5,x.v),(13,v),(14,.int .i64 (l.length:Int)),(15,.int .i64 (x.i:Int))]) (fun x=>x.oo++x.ob) (NmS.Ok l) (fun x=>l.length - x.i) ⟨0,[],.slice none 0 0,[],[]⟩
  ⟨Nat.zero_le _,OwnL.nil _ _,BodF.nil,rfl,rfl,by simp⟩ (Fits.of ⟨rfl,rfl,rfl,rfl,trivial⟩ (SubL.refl _) rfl) ?_
 clear CK
 rintro ⟨i,its,u,oo,ob⟩ ⟨hi,ho,hb,he,hil,hone⟩
 dsimp only at hi ho hb he hil hone ⊢
 by_cases hlt:i<l.length
 ·obtain ⟨⟨k,bv,p⟩,hx⟩:∃ x,l[i]? = some x:=⟨l[i]'(by omega),List.getElem?_eq_getElem _⟩
  have hlx:=hx
  have hcb:=hbody _ (List.mem_of_getElem? hx)
  dsimp only at hcb
  obtain ⟨pu,cu,rfl,hcu,_⟩:=hcb.cs.ln.out
  haveI i2:=hcb.old
  have hget:=atsC_get hx
  dsimp only at hget
  have hpl:p.length≤64:=by
   have h1:=(hk.each (k,p) (List.mem_map.2 ⟨_,List.mem_of_getElem? hx,rfl⟩)).2.2
   unfold fitsB at h1
   dsimp only at h1
   split at h1
   ·have:=of_decide_eq_true h1;omega
   ·split at h1
    ·have:=of_decide_eq_true h1;omega
    ·split at h1
     ·exact of_decide_eq_true h1
     ·have:=of_decide_eq_true h1;omega
  have CL1:=fun w' {v:Value} (h:Cb w' v p.length p)=>CL w' h (by omega)
  have u1:decide ((i:Int)<(l.length:Int))=true:=decide_eq_true (by omega)
  have u2:IntKind.i64.wrap ((i:Int)+1)=((i+1:Nat):Int):=by rw [wrap_i64 _ (by omega) (by omega)];omega
  have j1:(i:Int)<(l.length:Int):=by omega
  clear CL hbody hcb
  repeat' (first|(refine wlS ?_)|(refine wlB ?_)|(refine wlE ?_)|(refine efSvao ?_;intro v oa ho)|(refine efZCnn ?_;intro n hn)|((with_reducible refine sel_call ?_);first|(refine wl_newO rfl rfl rfl rfl rfl (fun w hm=>by with_reducible exact CL1 w (VwB.out w hm)) ?_;intro x oa hx))|(refine efBnn ?_;intro n hn)|(refine efB ?_)|(refine efBS ?_)|(refine wl_skip rfl rfl ?_)|((with_reducible refine wc_seq ?_);intro K hK)|(refine auC ?_)|(refine wc_cond rfl (fun hc=>?_) (fun hc=>?_))|((with_reducible refine wc_drawH _ [8] (by kernel_rfl) (SubL.refl _) ?_);(try simp only [List.append_eq,List.cons_append,List.nil_append,List.length_cons,List.length_nil,Nat.reduceAdd]))|((with_reducible refine sel_wh ?_);(refine wh_if (by decide +kernel) ?_);first|(refine wh_take (lq:=[]) rfl rfl rfl rfl (by first|exact rvS|exact rvB|exact rvE) (Or.inl rfl) ?_)|(refine wh_takeL rfl rfl rfl rfl (by first|exact rvS|exact rvB|exact rvE) (by decide +kernel) ?_))|(refine whS ?_;intro v hv hp)|((with_reducible refine sel_wh ?_);first|(refine wh_pass rfl rfl rfl rfl ?_)|(refine wh_done rfl ?_)|(refine wh_all rfl ?_))|((with_reducible refine sel_rest ?_);first|exact rest_nil rfl|refine rest_cons rfl rfl ?_ ?_)|((with_reducible refine sel_nx ?_);first|refine next_of ?_|refine next_late (by decide +kernel) ?_)|(refine auP ?_)|((refine auR ?_);clear hK K)|(refine auR ?_)|((with_reducible refine hK _ _ ?_);clear hK K)|fail)
  rename_i oc vs os hs
  refine ⟨⟨i+1,its++[(k,x,p)],v,oa,ob++oc⟩,⟨hlt,by dsimp only;rw [atsC_app];exact ho,hb.app (BodF.one hx),?_,by simp [hil],fun y hy=>?_⟩,by dsimp only;omega,Fits.of ⟨rfl,rfl,rfl,rfl,trivial⟩ ?_ rfl⟩
  ·dsimp only
   rw [abs_app,he,List.take_add_one,hlx,abs_app];rfl
  ·rcases List.mem_append.1 hy with hy|hy
   ·exact hone y hy
   ·simp only [List.mem_singleton] at hy
    subst hy
    obtain ⟨_,_,hv,_⟩:=hx.own.ln.out
    rw [hv];rfl
  ·dsimp only
   repeat (first|exact SubL.nil|exact SubL.refl _|refine SubL.keep ?_|exact SubL.headA _ _|refine SubL.keepA ?_ _|refine SubL.skip ?_|refine SubL.skipA ?_ _)
 ·obtain rfl:i=l.length:=by omega
  have u1:decide ((l.length:Int)<(l.length:Int))=false:=decide_eq_false (by omega)
  have SC:=fun w' (hd:Hd oo w')=>sort_c w' (l:=its) (by rw [hil];exact ho) hd hone (by omega)
  rw [List.take_length] at he
  clear CL hbody
  repeat' (first|(refine wlS ?_)|(refine wlB ?_)|(refine wlE ?_)|(refine efSvao ?_;intro v oa ho)|((with_reducible refine sel_call ?_);first|(refine wl_updO rfl rfl rfl rfl rfl (fun w hm hw=>by with_reducible exact SC w hw) ?_;intro x oa hx))|(refine efBnn ?_;intro n hn)|(refine efB ?_)|(refine efBS ?_)|(refine wl_skip rfl rfl ?_)|(refine wdS ?_)|(refine wdV ?_)|(refine wdB ?_)|(refine wdE ?_)|(refine wd_skip rfl rfl ?_)|((with_reducible refine seld_nil ?_);refine wd_nil hm0 ?_;clear hm0 hw0)|((with_reducible refine wc_seq ?_);intro K hK)|(refine auC ?_)|(refine wc_cond rfl (fun hc=>?_) (fun hc=>?_))|(refine wc_draw (by kernel_rfl) (by kernel_rfl) (by decide +kernel) ?_;intro w0 hw0 hm0;(try simp only [List.append_eq,List.cons_append,List.nil_append]))|(refine auP ?_)|((refine auR ?_);clear hK K)|(refine auR ?_)|((with_reducible refine hK _ _ ?_);clear hK K)|fail)
  obtain ⟨l',hp,hup,hol⟩:=hx
  have hl2:l'.length=l.length:=by rw [hp.length_eq,hil]
  have hpa:(abs l').Perm (abs l):=by rw [←he];exact abs_perm hp
  first|refine end_ret (ResP.tmp rfl (ResP.tmp rfl ResP.nil)) ?_|refine end_normal (ResP.tmp rfl (ResP.tmp rfl ResP.nil)) ?_
  (try dsimp only [tupV])
  exact ⟨u,oa++ob,rfl,⟨l',⟨oa,ob,fun q h=>h,by rw [hl2,←hil];exact hol,hb.perm hp⟩,⟨upT_rises hup ((hpa.map (·.1)).nodup_iff.2 hk.nd),hpa⟩⟩,SubL.refl _⟩
end Go.Proofs.YthigacbelefadaaDoor
namespace Go.Proofs.YthigacbelefadaaDoor
set_option linter.unusedVariables false
def overA (l t:List Ab):List Ab:=t++l.filter fun x=>(getA t x.1).isNone
theorem getA_cons (x:Ab)(l:List Ab)(k:Int):getA (x::l) k=if x.1=k then some x.2 else getA l k:=by
 unfold getA
 rw [List.find?_cons]
 by_cases h:x.1=k
 ·rw [if_pos h,show (x.1 == k)=true by simpa using h];rfl
 ·rw [if_neg h,show (x.1 == k)=false by simpa using h]
theorem getA_mem {l:List Ab}(hn:(l.map (·.1)).Nodup){k:Int}{q:List Nat}:getA l k=some q↔(k,q)∈l:=by
 induction l with
 | nil=>simp [getA]
 | cons x r ih=>
  rw [List.map_cons,List.nodup_cons] at hn
  rw [getA_cons]
  obtain ⟨kx,qx⟩:=x
  dsimp only at hn ⊢
  by_cases h:kx=k
  ·subst h
   rw [if_pos rfl]
   constructor
   ·intro e;cases e;exact List.mem_cons_self
   ·intro hm
    rcases List.mem_cons.1 hm with e|hm
    ·cases e;rfl
    ·exact absurd (List.mem_map.2 ⟨_,hm,rfl⟩) hn.1
  ·rw [if_neg h,ih hn.2]
   constructor
   ·exact List.mem_cons_of_mem _
   ·intro hm
    rcases List.mem_cons.1 hm with e|hm
    ·cases e;exact absurd rfl h
    ·exact hm
theorem getA_none_iff {l:List Ab}{k:Int}:getA l k=none↔∀ x∈l,x.1≠k:=by
 unfold getA
 rw [Option.map_eq_none_iff,List.find?_eq_none]
 simp
theorem getA_perm {l m:List Ab}(hp:l.Perm m)(hn:(l.map (·.1)).Nodup)(k:Int):getA l k=getA m k:=by
 have hm:(m.map (·.1)).Nodup:=(hp.map (·.1)).nodup_iff.1 hn
 cases h:getA m k with
 | none=>
  rw [getA_none_iff] at h ⊢
  exact fun x hx=>h x (hp.mem_iff.1 hx)
 | some q=>
  rw [getA_mem hm] at h
  rw [getA_mem hn]
  exact hp.mem_iff.2 h
theorem kinds_few {l:List Ab}(h:∀ x∈l,1≤x.1∧x.1≤18)(hn:(l.map (·.1)).Nodup):l.length≤18:=by
 have:=hn.length_le_of_subset (l₂:=(List.range 18).map fun (i:Nat)=>(i:Int)+1) (fun k hk=>by
  obtain ⟨x,hx,rfl⟩:=List.mem_map.1 hk
  have:=h x hx
  refine List.mem_map.2 ⟨(x.1 - 1).toNat,List.mem_range.2 (by omega),by omega⟩)
 simpa using this
theorem fitsB_le {x:Ab}(h:fitsB x=true):x.2.length≤64:=by
 unfold fitsB at h
 split at h
 ·have:=of_decide_eq_true h;omega
 ·split at h
  ·have:=of_decide_eq_true h;omega
  ·split at h
   ·exact of_decide_eq_true h
   ·have:=of_decide_eq_true h;omega
theorem over_ok {l t:List Ab}(hl:AbOk l)(ht:AbOk t):AbOk (overA l t):=by
 have he:∀ x∈overA l t,1≤x.1∧x.1≤18∧fitsB x=true:=fun x hx=>by
  rcases List.mem_append.1 hx with hx|hx
  ·exact ht.each x hx
  ·exact hl.each x (List.mem_filter.1 hx).1
 have hn:((overA l t).map (·.1)).Nodup:=by
  rw [overA,List.map_append,List.nodup_append]
  refine ⟨ht.nd,?_,fun a ha b hb e=>?_⟩
  ·exact (List.Sublist.map _ List.filter_sublist).nodup hl.nd
  ·subst e
   obtain ⟨x,hx,rfl⟩:=List.mem_map.1 ha
   obtain ⟨y,hy,hxy⟩:=List.mem_map.1 hb
   have:=(List.mem_filter.1 hy).2
   rw [Option.isNone_iff_eq_none,getA_none_iff] at this
   exact this x hx hxy.symm
 exact ⟨by have:=kinds_few (fun x hx=>⟨(he x hx).1,(he x hx).2.1⟩) hn;omega,he,hn⟩
theorem norm_okA {l m:List Ab}(h:AbOk l)(hm:IsNorm m l):AbOk m:=⟨by rw [hm.perm.length_eq];exact h.len,fun x hx=>h.each x (hm.perm.mem_iff.1 hx),(hm.perm.map (·.1)).nodup_iff.2 h.nd⟩
theorem getA_app (a b:List Ab)(k:Int):getA (a++b) k=(getA a k).or (getA b k):=by
 unfold getA
 rw [List.find?_append]
 cases a.find? (fun x=>x.1 == k) <;> simp
theorem getA_filter (l t:List Ab)(k:Int)(h:getA t k=none):getA (l.filter fun x=>(getA t x.1).isNone) k=getA l k:=by
 induction l with
 | nil=>rfl
 | cons x r ih=>
  by_cases hx:(getA t x.1).isNone=true
  ·rw [List.filter_cons_of_pos (p:=fun x:Ab=>(getA t x.1).isNone) hx,getA_cons,getA_cons,ih]
  ·rw [List.filter_cons_of_neg (p:=fun x:Ab=>(getA t x.1).isNone) hx,getA_cons,ih]
   rw [if_neg]
   intro e
   rw [e,h] at hx;exact hx rfl
theorem getA_over (l t:List Ab)(k:Int):getA (overA l t) k=(getA t k).or (getA l k):=by
 rw [overA,getA_app]
 cases h:getA t k with
 | none=>rw [getA_filter l t k h]
 | some q=>rfl
theorem nodup_map {α β:Type}{f:α→β}{l:List α}(h:(l.map f).Nodup):l.Nodup:=by
 induction l with
 | nil=>exact List.nodup_nil
 | cons x r ih=>
  rw [List.map_cons,List.nodup_cons] at h
  exact List.nodup_cons.2 ⟨fun hm=>h.1 (List.mem_map.2 ⟨x,hm,rfl⟩),ih h.2⟩
theorem rises_get {l m:List Ab}(hl:Rises l)(hm:Rises m)(h:∀ k,getA l k=getA m k):l=m:=by
 have hp:l.Perm m:=by
  have n1:l.Nodup:=by
   have:=hl.nodup
   exact nodup_map this
  have n2:m.Nodup:=by
   have:=hm.nodup
   exact nodup_map this
  rw [List.perm_ext_iff_of_nodup n1 n2]
  rintro ⟨k,q⟩
  rw [←getA_mem hl.nodup,←getA_mem hm.nodup,h]
 exact rises_only hl hm hp
theorem IsNorm.get {m l:List Ab}(h:IsNorm m l)(k:Int):getA m k=getA l k:=getA_perm h.perm h.rises.nodup k
end Go.Proofs.YthigacbelefadaaDoor
namespace Go.Proofs.YthigacbelefadaaDoor
set_option linter.unusedVariables false
def matchA (l ask:List Ab):Bool:=ask.all fun x=>getA l x.1 == some x.2
theorem match_abs (l ask:List Att):matchB l ask=matchA (abs l) (abs ask):=by
 unfold matchB matchA
 rw [show abs ask=ask.map fun x=>(x.1,x.2.2) from rfl,List.all_map]
 congr 1
 funext x
 show _=(getA (abs l) x.1 == some x.2.2)
 rw [find_abs]
 cases l.find? (fun y=>y.1 == x.1) with
 | none=>rfl
 | some y=>show (y.2.2 == x.2.2)=(some y.2.2 == some x.2.2);rfl
end Go.Proofs.YthigacbelefadaaDoor
namespace Go.Proofs.YthigacbelefadaaDoor
set_option linter.unusedVariables false
theorem match_perm {l m:List Ab}(hn:(l.map (·.1)).Nodup)(hp:m.Perm l):matchA l m=true∧matchA m l=true:=by
 have hm:(m.map (·.1)).Nodup:=(hp.map (·.1)).nodup_iff.2 hn
 constructor
 ·rw [matchA,List.all_eq_true]
  rintro ⟨k,q⟩ hx
  rw [beq_iff_eq]
  exact (getA_mem hn).2 (hp.mem_iff.1 hx)
 ·rw [matchA,List.all_eq_true]
  rintro ⟨k,q⟩ hx
  rw [beq_iff_eq]
  exact (getA_mem hm).2 (hp.mem_iff.2 hx)
end Go.Proofs.YthigacbelefadaaDoor
namespace Go.Proofs.YthigacbelefadaaDoor
set_option linter.unusedVariables false
def upK (n:Nat):List Int:=(List.range n).map fun (i:Nat)=>(i:Int)+1
def kindsA (c:Nat):List Int:=if c=1 then upK 7 else if c=3 then upK 7++[14] else if c=2 then upK 17 else if c=4 then upK 13++[18] else []
def clsA (l:List Ab):Nat:=match getA l 1 with
 | some [b]=>b
 | _=>0
def sizedB (c n:Nat):Bool:=if c=2 then n == 16 || n == 24 || n == 32 else if c=3∨c=4 then n == 32 else true
def soundB (l:List Ab):Bool:=!(isA l 10 && !isA l 8) && !(isA l 11 && isA l 9) && (!(isA l 16 || isA l 17) || !(isA l 13 || (isA l 14 || isA l 15)))
def valN (l:List Ab):Nat:=((getA l 4).getD []).length
def validB (l:List Ab):Bool:=(l.map (·.1) == kindsA (clsA l)) && !l.isEmpty && sizedB (clsA l) (valN l) && soundB l
def turnsB (l:List Ab)(x:Ab)(c:Bool):Bool:=
 if x.1=1∨x.1=4∨x.1=10∨x.1=11∨x.1=12 then false
 else if x.1=5 then c
 else if x.1=6 then c && (x.2.getD 0 0 == 1 || !isA l 6)
 else if x.1=8 then x.2.getD 0 0 == 1 || !isA l 8
 else if x.1=9 then x.2.getD 0 0 == 0 || isA l 9
 else true
def eachE (l:List Ab)(c:Bool):List Ab→Int
 | []=>0
 | x::r=>if getA l x.1=none then 13 else if turnsB l x c=false then 12 else eachE l c r
structure Obj (l:List Ab):Prop where
 ok:AbOk l
 rises:Rises l
 valid:validB l=true
structure Turn (l t:List Ab)(c:Bool)(m:List Ab):Prop where
 okt:AbOk t
 mod:c=false→isA l 7=true
 each:eachE l c t=0
 norm:IsNorm m (overA l t)
 valid:validB m=true
theorem each_iff {l:List Ab}{c:Bool}:∀ {t:List Ab},eachE l c t=0↔∀ x∈t,getA l x.1≠none∧turnsB l x c=true
 | []=>by simp [eachE]
 | x::r=>by
  rw [eachE]
  by_cases h1:getA l x.1=none
  ·rw [if_pos h1];simp [h1]
  ·rw [if_neg h1]
   by_cases h2:turnsB l x c=false
   ·rw [if_pos h2];simp [h2]
   ·rw [if_neg h2,each_iff (t:=r)]
    have:turnsB l x c=true:=by simpa using h2
    simp [h1,this]
theorem Turn.obj {l t m:List Ab}{c:Bool}(hl:Obj l)(h:Turn l t c m):Obj m:=⟨norm_okA (over_ok hl.ok h.okt) h.norm,h.norm.rises,h.valid⟩
theorem Turn.get {l t m:List Ab}{c:Bool}(hl:Obj l)(h:Turn l t c m)(k:Int):getA m k=(getA t k).or (getA l k):=by rw [h.norm.get,getA_over]
theorem fits_bit {k:Int}{q:List Nat}(h:fitsB (k,q)=true)(h1:k≠1)(h2:k≠2)(h3:k≠3)(h4:k≠4):q=[0]∨q=[1]:=by
 unfold fitsB at h
 dsimp only at h
 rw [if_neg h1,if_neg (by omega),if_neg h4] at h
 obtain ⟨h5,h6⟩:=of_decide_eq_true h
 obtain ⟨b,rfl⟩:=List.length_eq_one_iff.1 h5
 simp at h6
 have:b=0∨b=1:=by omega
 rcases this with rfl|rfl
 ·exact .inl rfl
 ·exact .inr rfl
theorem Turn.at {l t m:List Ab}{c:Bool}(hl:Obj l)(h:Turn l t c m)(k:Int):(getA t k=none∧getA m k=getA l k)∨∃ q,getA t k=some q∧getA m k=some q∧turnsB l (k,q) c=true∧fitsB (k,q)=true∧getA l k≠none:=by
 cases hq:getA t k with
 | none=>exact .inl ⟨rfl,by rw [h.get hl,hq];rfl⟩
 | some q=>
  have hm:=(getA_mem h.okt.nd).1 hq
  have:=each_iff.1 h.each _ hm
  exact .inr ⟨q,rfl,by rw [h.get hl,hq];rfl,this.2,(h.okt.each _ hm).2.2,this.1⟩
theorem Turn.fixed {l t m:List Ab}{c:Bool}(hl:Obj l)(h:Turn l t c m){k:Int}(hk:k=1∨k=4∨k=10∨k=11∨k=12):getA m k=getA l k:=by
 rcases h.at hl k with ⟨_,h1⟩ | ⟨q,_,_,h3,_⟩
 ·exact h1
 ·rw [turnsB,if_pos hk] at h3;cases h3
theorem isA_def (l:List Ab)(k:Int):isA l k=(getA l k == some [1]):=rfl
theorem Turn.sens {l t m:List Ab}{c:Bool}(hl:Obj l)(h:Turn l t c m)(h8:isA l 8=true):isA m 8=true:=by
 rcases h.at hl 8 with ⟨_,h1⟩ | ⟨q,_,h2,h3,h4,_⟩
 ·rw [isA_def,h1];exact h8
 ·rw [turnsB,if_neg (by omega),if_neg (by omega),if_neg (by omega),if_pos rfl,h8] at h3
  rw [isA_def,h2]
  rcases fits_bit h4 (by decide) (by decide) (by decide) (by decide) with rfl|rfl
  ·simp at h3
  ·rfl
theorem Turn.extr {l t m:List Ab}{c:Bool}(hl:Obj l)(h:Turn l t c m)(h9:isA l 9=false):isA m 9=false:=by
 rcases h.at hl 9 with ⟨_,h1⟩ | ⟨q,_,h2,h3,h4,_⟩
 ·rw [isA_def,h1];exact h9
 ·rw [turnsB,if_neg (by omega),if_neg (by omega),if_neg (by omega),if_neg (by omega),if_pos rfl,h9] at h3
  rw [isA_def,h2]
  rcases fits_bit h4 (by decide) (by decide) (by decide) (by decide) with rfl|rfl
  ·rfl
  ·simp at h3
theorem Turn.priv {l t m:List Ab}{c:Bool}(hl:Obj l)(h:Turn l t c m)(h6:isA l 6=true):isA m 6=true:=by
 rcases h.at hl 6 with ⟨_,h1⟩ | ⟨q,_,h2,h3,h4,_⟩
 ·rw [isA_def,h1];exact h6
 ·rw [turnsB,if_neg (by omega),if_neg (by omega),if_pos rfl,h6] at h3
  rw [isA_def,h2]
  rcases fits_bit h4 (by decide) (by decide) (by decide) (by decide) with rfl|rfl
  ·simp at h3
  ·rfl
theorem Turn.some {l t m:List Ab}{c:Bool}(hl:Obj l)(h:Turn l t c m)(k:Int):(getA m k).isSome=(getA l k).isSome:=by
 rcases h.at hl k with ⟨_,h1⟩ | ⟨q,_,h2,_,_,h5⟩
 ·rw [h1]
 ·rw [h2]
  cases hx:getA l k with
  | none=>exact absurd hx h5
  | some y=>rfl
theorem Turn.hid {l t m:List Ab}{c:Bool}(hl:Obj l)(h:Turn l t c m)(hh:hiddenB l=true):hiddenB m=true:=by
 unfold hiddenB at *
 rw [Bool.or_eq_true] at hh ⊢
 rcases hh with hh|hh
 ·exact .inl (h.sens hl hh)
 ·rw [Bool.and_eq_true] at hh
  refine .inr ?_
  rw [Bool.and_eq_true,h.some hl]
  have:=h.extr hl (by simpa using hh.2)
  exact ⟨hh.1,by rw [this];rfl⟩
theorem Turn.cls {l t m:List Ab}{c:Bool}(hl:Obj l)(h:Turn l t c m):clsA m=clsA l:=by
 unfold clsA
 rw [h.fixed hl (.inl rfl)]
theorem valid_kinds {l:List Ab}(h:validB l=true):l.map (·.1)=kindsA (clsA l):=by
 unfold validB at h
 simp only [Bool.and_eq_true,beq_iff_eq] at h
 exact h.1.1.1
theorem valid_sound {l:List Ab}(h:validB l=true):soundB l=true:=by
 unfold validB at h
 simp only [Bool.and_eq_true,beq_iff_eq] at h
 exact h.2
theorem Turn.len {l t m:List Ab}{c:Bool}(hl:Obj l)(h:Turn l t c m):m.length=l.length:=by
 have h1:=congrArg List.length (valid_kinds h.valid)
 have h2:=congrArg List.length (valid_kinds hl.valid)
 rw [h.cls hl] at h1
 simp only [List.length_map] at h1 h2
 omega
theorem Turn.match_ {l t m:List Ab}{c:Bool}(hl:Obj l)(h:Turn l t c m):matchA m t=true:=by
 rw [matchA,List.all_eq_true]
 rintro ⟨k,q⟩ hx
 rw [beq_iff_eq,h.get hl,(getA_mem h.okt.nd).2 hx];rfl
def bitL (b:Bool):List Nat:=if b then [1] else [0]
def missA (t:List Ab)(k:Int)(c:Nat)(loc:Bool):List Nat:=
 if k=2∨k=3 then [] else if k=6 then bitL (c == 2 || c == 4) else if k=7∨k=9 then [1] else if k=12 then bitL loc
 else if k=10 then bitL (loc && isA t 8) else if k=11 then bitL (loc && (getA t 9).isSome && !isA t 9) else [0]
def makeL (t:List Ab)(loc:Bool):List Ab:=(kindsA (clsA t)).map fun k=>(k,(getA t k).getD (missA t k (clsA t) loc))
def mkEach (ks:List Int):List Ab→Int
 | []=>0
 | x::r=>if x.1∉ks then 13 else if x.1=10∨x.1=11∨x.1=12 then 12 else mkEach ks r
def makeE (t:List Ab)(loc:Bool):Int:=
 if chkA t≠0 then chkA t else if clsA t=0 then 1 else if mkEach (kindsA (clsA t)) t≠0 then mkEach (kindsA (clsA t)) t
 else if getA t 4=none then 3 else if sizedB (clsA t) (valN t)=false then 4 else if validB (makeL t loc)=false then 12 else 0
theorem mkEach_iff {ks:List Int}:∀ {t:List Ab},mkEach ks t=0↔∀ x∈t,x.1∈ks∧¬(x.1=10∨x.1=11∨x.1=12)
 | []=>by simp [mkEach]
 | x::r=>by
  rw [mkEach]
  by_cases h1:x.1∉ks
  ·rw [if_pos h1];simp [h1]
  ·rw [if_neg h1]
   by_cases h2:x.1=10∨x.1=11∨x.1=12
   ·rw [if_pos h2]
    exact ⟨fun h=>absurd h (by decide),fun h=>absurd h2 (h x List.mem_cons_self).2⟩
   ·rw [if_neg h2,mkEach_iff (t:=r)]
    have:x.1∈ks:=Decidable.of_not_not h1
    exact ⟨fun h y hy=>(List.mem_cons.1 hy).elim (fun e=>by rw [e];exact ⟨this,h2⟩) (h y),fun h y hy=>h y (List.mem_cons_of_mem _ hy)⟩
theorem upK_rises (n:Nat):(upK n).Pairwise (· < ·):=by
 unfold upK
 refine List.Pairwise.map _ (R:=fun a b:Nat=>a<b) (fun a b h=>by omega) List.pairwise_lt_range
theorem kinds_rise (c:Nat):(kindsA c).Pairwise (· < ·):=by
 have hu:∀ (n:Nat) (k:Int),(n:Int)<k→(upK n++[k]).Pairwise (· < ·):=fun n k h=>by
  refine List.pairwise_append.2 ⟨upK_rises n,List.pairwise_singleton _ _,fun a ha b hb=>?_⟩
  simp only [List.mem_singleton] at hb
  subst hb
  obtain ⟨i,hi,rfl⟩:=List.mem_map.1 ha
  have:=List.mem_range.1 hi
  omega
 unfold kindsA
 repeat' split
 ·exact upK_rises _
 ·exact hu _ _ (by decide)
 ·exact upK_rises _
 ·exact hu _ _ (by decide)
 ·exact List.Pairwise.nil
theorem kinds_in {c:Nat}{k:Int}(h:k∈kindsA c):1≤k∧k≤18:=by
 have hu:∀ n:Nat,n≤17→k∈upK n→1≤k∧k≤18:=fun n hn h=>by
  obtain ⟨i,hi,rfl⟩:=List.mem_map.1 h
  have:=List.mem_range.1 hi
  omega
 unfold kindsA at h
 split at h
 ·exact hu _ (by decide) h
 split at h
 ·rcases List.mem_append.1 h with h|h
  ·exact hu _ (by decide) h
  ·simp only [List.mem_singleton] at h;omega
 split at h
 ·exact hu _ (by decide) h
 split at h
 ·rcases List.mem_append.1 h with h|h
  ·exact hu _ (by decide) h
  ·simp only [List.mem_singleton] at h;omega
 ·cases h
theorem kinds_one {c:Nat}(h:kindsA c≠[]):(1:Int)∈kindsA c:=by
 unfold kindsA at h ⊢
 repeat' split
 ·decide
 ·decide
 ·decide
 ·decide
 ·rename_i h1 h2 h3 h4
  rw [if_neg h1,if_neg h2,if_neg h3,if_neg h4] at h;exact absurd rfl h
theorem getA_map {f:Int→List Nat}:∀ {ks:List Int} {k:Int},getA (ks.map fun k=>(k,f k)) k=if k∈ks then some (f k) else none
 | [],k=>by simp [getA]
 | a::r,k=>by
  rw [List.map_cons,getA_cons,getA_map (ks:=r)]
  dsimp only
  by_cases h:a=k
  ·subst h;simp
  ·rw [if_neg h]
   by_cases h2:k∈r
   ·rw [if_pos h2,if_pos (List.mem_cons_of_mem _ h2)]
   ·rw [if_neg h2,if_neg (by simp only [List.mem_cons,not_or];exact ⟨fun e=>h e.symm,h2⟩)]
theorem bitL_fits (b:Bool){k:Int}(h1:k≠1)(h2:k≠2)(h3:k≠3)(h4:k≠4):fitsB (k,bitL b)=true:=by
 unfold fitsB
 dsimp only
 rw [if_neg h1,if_neg (by omega),if_neg h4]
 cases b <;> rfl
theorem miss_fits (t:List Ab){k:Int}(c:Nat)(loc:Bool)(h1:k≠1)(h4:k≠4):fitsB (k,missA t k c loc)=true:=by
 unfold missA
 split
 ·rename_i h
  unfold fitsB
  dsimp only
  rw [if_neg h1,if_pos h];rfl
 ·rename_i h
  have h2:k≠2:=fun e=>h (.inl e)
  have h3:k≠3:=fun e=>h (.inr e)
  have hb:=fun b=>bitL_fits b h1 h2 h3 h4
  repeat' split
  ·exact hb _
  ·exact hb true
  ·exact hb _
  ·exact hb _
  ·exact hb _
  ·exact hb false
theorem Make.okt {t:List Ab}{loc:Bool}(h:makeE t loc=0):AbOk t∧clsA t≠0∧mkEach (kindsA (clsA t)) t=0∧getA t 4≠none∧sizedB (clsA t) (valN t)=true∧validB (makeL t loc)=true:=by
 unfold makeE at h
 by_cases h1:chkA t≠0
 ·rw [if_pos h1] at h;exact absurd h h1
 rw [if_neg h1] at h
 by_cases h2:clsA t=0
 ·rw [if_pos h2] at h;exact absurd h (by decide)
 rw [if_neg h2] at h
 by_cases h3:mkEach (kindsA (clsA t)) t≠0
 ·rw [if_pos h3] at h;exact absurd h h3
 rw [if_neg h3] at h
 by_cases h4:getA t 4=none
 ·rw [if_pos h4] at h;exact absurd h (by decide)
 rw [if_neg h4] at h
 by_cases h5:sizedB (clsA t) (valN t)=false
 ·rw [if_pos h5] at h;exact absurd h (by decide)
 rw [if_neg h5] at h
 by_cases h6:validB (makeL t loc)=false
 ·rw [if_pos h6] at h;exact absurd h (by decide)
 exact ⟨chkA_zero.1 (Decidable.of_not_not h1),h2,Decidable.of_not_not h3,h4,by simpa using h5,by simpa using h6⟩
theorem make_get (t:List Ab)(loc:Bool)(k:Int):getA (makeL t loc) k=if k∈kindsA (clsA t) then some ((getA t k).getD (missA t k (clsA t) loc)) else none:=getA_map
theorem make_ok {t:List Ab}(loc:Bool)(ht:AbOk t)(hc:clsA t≠0)(h4:getA t 4≠none):AbOk (makeL t loc)∧Rises (makeL t loc):=by
 have h1:getA t 1≠none:=fun h=>hc (by unfold clsA;rw [h])
 have hr:Rises (makeL t loc):=by
  unfold makeL Rises
  exact List.Pairwise.map _ (R:=fun a b:Int=>a<b) (fun a b h=>h) (kinds_rise _)
 have he:∀ x∈makeL t loc,1≤x.1∧x.1≤18∧fitsB x=true:=fun x hx=>by
  obtain ⟨k,hk,rfl⟩:=List.mem_map.1 hx
  refine ⟨(kinds_in hk).1,(kinds_in hk).2,?_⟩
  show fitsB (k,(getA t k).getD (missA t k (clsA t) loc))=true
  cases hq:getA t k with
  | some q=>exact (ht.each _ ((getA_mem ht.nd).1 hq)).2.2
  | none=>exact miss_fits t _ _ (fun e=>h1 (by rw [←e];exact hq)) (fun e=>h4 (by rw [←e];exact hq))
 exact ⟨⟨by have:=kinds_few (fun x hx=>⟨(he x hx).1,(he x hx).2.1⟩) hr.nodup;omega,he,hr.nodup⟩,hr⟩
theorem Make.obj {t:List Ab}{loc:Bool}(h:makeE t loc=0):Obj (makeL t loc):=by
 obtain ⟨h1,h2,h3,h4,h5,h6⟩:=Make.okt h
 obtain ⟨h7,h8⟩:=make_ok loc h1 h2 h4
 exact ⟨h7,h8,h6⟩
theorem Make.match_ {t:List Ab}{loc:Bool}(h:makeE t loc=0):matchA (makeL t loc) t=true:=by
 obtain ⟨h1,h2,h3,h4,h5,h6⟩:=Make.okt h
 rw [matchA,List.all_eq_true]
 rintro ⟨k,q⟩ hx
 rw [beq_iff_eq,make_get,if_pos (mkEach_iff.1 h3 _ hx).1,(getA_mem h1.nd).2 hx];rfl
end Go.Proofs.YthigacbelefadaaDoor
namespace Go.Proofs.YthigacbelefadaaDoor
open Go.RowKit
set_option linter.unusedVariables false
set_option linter.unusedSimpArgs false
set_option maxRecDepth 100000
theorem atsC_kind {l:List Att}{i:Nat}{x:Att}(h:l[i]? = some x):(atsC l)[i * 2]? = some (.int .i64 x.1):=by
 have:=congrArg (·[0]?) (atsC_get h)
 simpa using this
theorem abs_get {l:List Att}{i:Nat}{x:Att}(h:l[i]? = some x):(abs l)[i]? = some (x.1,x.2.2):=by simp [abs,h]
set_option maxHeartbeats 8000000 in
theorem sameA_c (w:World){va vb:Value}{ps qs:List Att}{r:Bool}(h1:Ats w va ps)(h2:Ats w vb qs)(hr:(abs ps == abs qs)=r) :
  Calls Tryd.prog 34 [va,vb].toArray w (Ret (.bool r) w):=by
 haveI i1:=h1.cs.old
 haveI i2:=h2.cs.old
 have hl63:ps.length≤9223372036854775807:=by obtain ⟨_,_,_,h1,h2,_⟩:=h1.cs.ln.out;simp only [maxLen] at h2;omega
 have hpl:=abs_len ps
 have hql:=abs_len qs
 have hB:=h1.body
 have hC:=h2.body
 clear h1 h2
 by_cases hl:ps.length=qs.length
 ·have t1:((ps.length:Int) != (qs.length:Int))=false:=by rw [hl];simp
  have BE:=fun w' {v u:Value} {n m:Nat} {p q:List Nat} {r:Bool} (hv:Cb w' v n p) (hu:Cb w' u m q) (h:(p == q)=r)=>beq_r w' hv hu h
  refine fn_ret (N:=_) Tryd.func34 rfl Tryd.ntmps34 Tryd.results34 (by simp) ?_
  simp only [initS,Nat.reduceAdd,Nat.zero_add]
  repeat' (first|(refine wlS ?_)|(refine wlB ?_)|(refine wlE ?_)|(refine efSvao ?_;intro v oa ho)|(refine wl_skip rfl rfl ?_)|(refine wdS ?_)|(refine wdV ?_)|(refine wdB ?_)|(refine wdE ?_)|(refine wd_skip rfl rfl ?_)|((with_reducible refine seld_nil ?_);refine wd_nil hm0 ?_;clear hm0 hw0)|((with_reducible refine wc_seq ?_);intro K hK)|(refine auC ?_)|(refine wc_cond rfl (fun hc=>?_) (fun hc=>?_))|(refine wc_draw (by kernel_rfl) (by kernel_rfl) (by decide +kernel) ?_;intro w0 hw0 hm0;(try simp only [List.append_eq,List.cons_append,List.nil_append]))|(refine auP ?_)|((refine auR ?_);clear hK K)|(refine auR ?_)|((with_reducible refine hK _ _ ?_);clear hK K)|fail)
  refine wc_loop (σ:=Nat) (fun i=>[(0,va),(1,vb),(12,.int .i64 (ps.length:Int)),(13,.int .i64 (i:Int))]) (fun _=>[]) (fun i=>i≤ps.length∧(abs ps).take i=(abs qs).take i) (fun i=>ps.length - i) 0 ⟨Nat.zero_le _,rfl⟩ (Fits.of ⟨rfl,rfl,rfl,rfl,trivial⟩ .nil rfl) ?_
  rintro i ⟨hi,ht⟩
  by_cases hlt:i<ps.length
  ·have t2:decide ((i:Int)<(ps.length:Int))=true:=decide_eq_true (by omega)
   have k1:IntKind.i64.wrap ((i:Int)+1)=((i+1:Nat):Int):=by rw [wrap_i64 _ (by omega) (by omega)];omega
   have j1:(i:Int)<(ps.length:Int):=by omega
   have j2:(i:Int)<(qs.length:Int):=by omega
   obtain ⟨⟨k,x,p⟩,g1⟩:∃ x,ps[i]? = some x:=⟨ps[i],List.getElem?_eq_getElem hlt⟩
   obtain ⟨⟨m,y,q⟩,f1⟩:∃ x,qs[i]? = some x:=⟨qs[i],List.getElem?_eq_getElem (by omega)⟩
   have c1:=(hB _ (List.mem_of_getElem? g1)).old
   have c2:=(hC _ (List.mem_of_getElem? f1)).old
   have gk:=atsC_kind g1
   have fk:=atsC_kind f1
   have gv:=atsC_val g1
   have fv:=atsC_val f1
   have ga:=abs_get g1
   have fa:=abs_get f1
   dsimp only at c1 c2 gk fk gv fv ga fa
   by_cases hkm:k=m
   ·subst hkm
    have t3:(k != k)=false:=by simp
    by_cases hpq:p=q
    ·subst hpq
     have hb:(p == p)=true:=by simp
     have hn:(abs ps).take (i+1)=(abs qs).take (i+1):=by rw [List.take_add_one,List.take_add_one,ht,ga,fa]
     clear hB hC g1 f1 ga fa
     repeat' (first|(refine wlS ?_)|(refine wlB ?_)|((with_reducible refine sel_call ?_);refine wl_rd rfl rfl (rd_call rfl rfl rfl (fun w hm=>by with_reducible exact BE w (VwB.out w hm) (VwB.out w hm) (by with_reducible assumption))) ?_)|(refine wlE ?_)|(refine efSvao ?_;intro v oa ho)|(refine wl_skip rfl rfl ?_)|(refine wdS ?_)|(refine wdV ?_)|(refine wdB ?_)|((with_reducible refine seld_call ?_);refine wd_rd hm0 rfl rfl rfl rfl (rd_call rfl rfl rfl (fun w hm=>by with_reducible exact BE w (VwB.out w hm) (VwB.out w hm) (by with_reducible assumption))) ?_)|(refine wdE ?_)|(refine wd_skip rfl rfl ?_)|((with_reducible refine seld_nil ?_);refine wd_nil hm0 ?_;clear hm0 hw0)|((with_reducible refine wc_seq ?_);intro K hK)|(refine auC ?_)|(refine wc_cond rfl (fun hc=>?_) (fun hc=>?_))|(refine wc_draw (by kernel_rfl) (by kernel_rfl) (by decide +kernel) ?_;intro w0 hw0 hm0;(try simp only [List.append_eq,List.cons_append,List.nil_append]))|(refine auP ?_)|((refine auR ?_);clear hK K)|(refine auR ?_)|((with_reducible refine hK _ _ ?_);clear hK K)|fail)
     exact ⟨i+1,⟨hlt,hn⟩,by omega,Fits.of ⟨rfl,rfl,rfl,rfl,trivial⟩ .nil rfl⟩
    ·have hb:(p == q)=false:=by simpa using hpq
     have hne:r=false:=by
      rw [←hr,beq_eq_false_iff_ne]
      intro e
      rw [e,fa] at ga
      have:=Option.some.inj ga
      simp only [Prod.mk.injEq,true_and] at this
      exact hpq this.symm
     subst hne
     clear hB hC g1 f1 ga fa
     repeat' (first|(refine wlS ?_)|(refine wlB ?_)|((with_reducible refine sel_call ?_);refine wl_rd rfl rfl (rd_call rfl rfl rfl (fun w hm=>by with_reducible exact BE w (VwB.out w hm) (VwB.out w hm) (by with_reducible assumption))) ?_)|(refine wlE ?_)|(refine efSvao ?_;intro v oa ho)|(refine wl_skip rfl rfl ?_)|(refine wdS ?_)|(refine wdV ?_)|(refine wdB ?_)|((with_reducible refine seld_call ?_);refine wd_rd hm0 rfl rfl rfl rfl (rd_call rfl rfl rfl (fun w hm=>by with_reducible exact BE w (VwB.out w hm) (VwB.out w hm) (by with_reducible assumption))) ?_)|(refine wdE ?_)|(refine wd_skip rfl rfl ?_)|((with_reducible refine seld_nil ?_);refine wd_nil hm0 ?_;clear hm0 hw0)|((with_reducible refine wc_seq ?_);intro K hK)|(refine auC ?_)|(refine wc_cond rfl (fun hc=>?_) (fun hc=>?_))|(refine wc_draw (by kernel_rfl) (by kernel_rfl) (by decide +kernel) ?_;intro w0 hw0 hm0;(try simp only [List.append_eq,List.cons_append,List.nil_append]))|(refine auP ?_)|((refine auR ?_);clear hK K)|(refine auR ?_)|((with_reducible refine hK _ _ ?_);clear hK K)|fail)
     first|refine end_ret (ResP.tmp rfl ResP.nil) ?_|refine end_normal (ResP.tmp rfl ResP.nil) ?_
     first|rfl|(show _=_;rfl)|(simp only [tupV, *];done)
   ·have t3:(k != m)=true:=by simpa using hkm
    have hne:r=false:=by
     rw [←hr,beq_eq_false_iff_ne]
     intro e
     rw [e,fa] at ga
     have:=Option.some.inj ga
     simp only [Prod.mk.injEq] at this
     exact hkm this.1.symm
    subst hne
    clear hB hC g1 f1 ga fa BE
    repeat' (first|(refine wlS ?_)|(refine wlB ?_)|(refine wlE ?_)|(refine efSvao ?_;intro v oa ho)|(refine wl_skip rfl rfl ?_)|(refine wdS ?_)|(refine wdV ?_)|(refine wdB ?_)|(refine wdE ?_)|(refine wd_skip rfl rfl ?_)|((with_reducible refine seld_nil ?_);refine wd_nil hm0 ?_;clear hm0 hw0)|((with_reducible refine wc_seq ?_);intro K hK)|(refine auC ?_)|(refine wc_cond rfl (fun hc=>?_) (fun hc=>?_))|(refine wc_draw (by kernel_rfl) (by kernel_rfl) (by decide +kernel) ?_;intro w0 hw0 hm0;(try simp only [List.append_eq,List.cons_append,List.nil_append]))|(refine auP ?_)|((refine auR ?_);clear hK K)|(refine auR ?_)|((with_reducible refine hK _ _ ?_);clear hK K)|fail)
    first|refine end_ret (ResP.tmp rfl ResP.nil) ?_|refine end_normal (ResP.tmp rfl ResP.nil) ?_
    first|rfl|(show _=_;rfl)|(simp only [tupV, *];done)
  ·obtain rfl:i=ps.length:=by omega
   have t2:decide ((ps.length:Int)<(ps.length:Int))=false:=decide_eq_false (by omega)
   have hrt:r=true:=by
    rw [←hr,beq_iff_eq]
    rw [List.take_of_length_le (by omega),List.take_of_length_le (by omega)] at ht;exact ht
   subst hrt
   clear BE
   repeat' (first|(refine wlS ?_)|(refine wlB ?_)|(refine wlE ?_)|(refine efSvao ?_;intro v oa ho)|(refine wl_skip rfl rfl ?_)|(refine wdS ?_)|(refine wdV ?_)|(refine wdB ?_)|(refine wdE ?_)|(refine wd_skip rfl rfl ?_)|((with_reducible refine seld_nil ?_);refine wd_nil hm0 ?_;clear hm0 hw0)|((with_reducible refine wc_seq ?_);intro K hK)|(refine auC ?_)|(refine wc_cond rfl (fun hc=>?_) (fun hc=>?_))|(refine wc_draw (by kernel_rfl) (by kernel_rfl) (by decide +kernel) ?_;intro w0 hw0 hm0;(try simp only [List.append_eq,List.cons_append,List.nil_append]))|(refine auP ?_)|((refine auR ?_);clear hK K)|(refine auR ?_)|((with_reducible refine hK _ _ ?_);clear hK K)|fail)
   first|refine end_ret (ResP.tmp rfl ResP.nil) ?_|refine end_normal (ResP.tmp rfl ResP.nil) ?_
   first|rfl|(show _=_;rfl)|(simp only [tupV, *];done)
 ·have t1:((ps.length:Int) != (qs.length:Int))=true:=by simp only [bne_iff_ne,ne_eq];omega
  have hne:r=false:=by
   rw [←hr,beq_eq_false_iff_ne]
   intro e
   have:=congrArg List.length e
   omega
  subst hne
  refine fn_ret (N:=_) Tryd.func34 rfl Tryd.ntmps34 Tryd.results34 (by simp) ?_
  simp only [initS,Nat.reduceAdd,Nat.zero_add]
  repeat' (first|(refine wlS ?_)|(refine wlB ?_)|(refine wlE ?_)|(refine efSvao ?_;intro v oa ho)|(refine wl_skip rfl rfl ?_)|(refine wdS ?_)|(refine wdV ?_)|(refine wdB ?_)|(refine wdE ?_)|(refine wd_skip rfl rfl ?_)|((with_reducible refine seld_nil ?_);refine wd_nil hm0 ?_;clear hm0 hw0)|((with_reducible refine wc_seq ?_);intro K hK)|(refine auC ?_)|(refine wc_cond rfl (fun hc=>?_) (fun hc=>?_))|(refine wc_draw (by kernel_rfl) (by kernel_rfl) (by decide +kernel) ?_;intro w0 hw0 hm0;(try simp only [List.append_eq,List.cons_append,List.nil_append]))|(refine auP ?_)|((refine auR ?_);clear hK K)|(refine auR ?_)|((with_reducible refine hK _ _ ?_);clear hK K)|fail)
  first|refine end_ret (ResP.tmp rfl ResP.nil) ?_|refine end_normal (ResP.tmp rfl ResP.nil) ?_
  first|rfl|(show _=_;rfl)|(simp only [tupV, *];done)
end Go.Proofs.YthigacbelefadaaDoor
namespace Go.Proofs.YthigacbelefadaaDoor
open Go.RowKit
set_option linter.unusedVariables false
set_option linter.unusedSimpArgs false
set_option maxRecDepth 100000
def ksC (l:List Int):List Value:=l.map (Value.int .i64)
theorem ksC_app (a b:List Int):ksC (a++b)=ksC a++ksC b:=by simp [ksC]
theorem upK_succ (n:Nat):upK (n+1)=upK n++[((n:Int)+1)]:=by simp [upK,List.range_succ]
theorem ksC_len (l:List Int):(ksC l).length=l.length:=by simp [ksC]
theorem ksC_get {l:List Int}{i:Nat}{k:Int}(h:l[i]? = some k):(ksC l)[i]? = some (.int .i64 k):=by simp [ksC,h]
set_option maxHeartbeats 16000000 in
theorem kinds_c (w:World)(c:Nat):Calls Tryd.prog 39 [.int .u8 (c:Int)].toArray w (RetO (fun u=>u) (fun u oa=>OwnL 3 1 u (kindsA c).length (ksC (kindsA c)) oa) w):=by
 by_cases c1:c=1
 ·subst c1
  show Calls _ _ _ _ (RetO _ (fun u oa=>OwnL _ 1 u (upK 7).length (ksC (upK 7)) oa) _)
  have q1:(((1:Nat):Int) == 1)=true:=rfl
  have q2:(((1:Nat):Int) == 2)=false:=rfl
  have q3:(((1:Nat):Int) == 3)=false:=rfl
  have q4:(((1:Nat):Int) == 4)=false:=rfl
  refine fn_own (N:=_) Tryd.func39 rfl Tryd.ntmps39 Tryd.results39 (by simp) ?_
  simp only [initS,Nat.reduceAdd,Nat.zero_add]
  repeat' (first|(refine wlS ?_)|(refine wlB ?_)|(refine wlE ?_)|(refine efSvao ?_;intro v oa ho)|(refine wl_skip rfl rfl ?_)|((with_reducible refine wc_seq ?_);intro K hK)|(refine auC ?_)|(refine wc_cond rfl (fun hc=>?_) (fun hc=>?_))|(refine wc_draw (by kernel_rfl) (by kernel_rfl) (by decide +kernel) ?_;intro w0 hw0 hm0;(try simp only [List.append_eq,List.cons_append,List.nil_append]))|(refine auP ?_)|((refine auR ?_);clear hK K)|(refine auR ?_)|((with_reducible refine hK _ _ ?_);clear hK K)|fail)
  refine wc_loop (σ:=Nat×Value×Blks) (fun x=>[(0,.int .u8 ((1:Nat):Int)),(3,.int .i64 7),(4,x.2.1),(5,.int .i64 ((x.1:Int)+1))]) (fun x=>x.2.2) (fun x=>x.1≤7∧OwnL 3 1 x.2.1 x.1 (ksC (upK x.1)) x.2.2) (fun x=>7 - x.1) (0,.slice none 0 0,[]) ⟨Nat.zero_le _,OwnL.nil _ _⟩ (Fits.of ⟨rfl,rfl,rfl,rfl,trivial⟩ (SubL.refl _) rfl) ?_
  rintro ⟨i,v,oa⟩ ⟨hi,ho⟩
  dsimp only at hi ho ⊢
  by_cases hlt:i<7
  ·have u1:decide ((i:Int)+1≤7)=true:=decide_eq_true (by omega)
   have u2:IntKind.i64.wrap ((i:Int)+1+1)=(((i+1:Nat):Int)+1):=by rw [wrap_i64 _ (by omega) (by omega)];omega
   repeat' (first|(refine wlS ?_)|(refine wlB ?_)|(refine wlE ?_)|(refine efSvao ?_;intro v oa ho)|(refine wl_skip rfl rfl ?_)|((with_reducible refine wc_seq ?_);intro K hK)|(refine auC ?_)|(refine wc_cond rfl (fun hc=>?_) (fun hc=>?_))|(refine wc_draw (by kernel_rfl) (by kernel_rfl) (by decide +kernel) ?_;intro w0 hw0 hm0;(try simp only [List.append_eq,List.cons_append,List.nil_append]))|(refine auP ?_)|((refine auR ?_);clear hK K)|(refine auR ?_)|((with_reducible refine hK _ _ ?_);clear hK K)|fail)
   refine ⟨(i+1,v,oa),⟨hlt,by dsimp only;rw [upK_succ,ksC_app];exact ho⟩,by dsimp only;omega,Fits.of ⟨rfl,rfl,rfl,rfl,trivial⟩ ?_ rfl⟩
   repeat (first|exact SubL.nil|exact SubL.refl _|refine SubL.keep ?_|exact SubL.headA _ _|refine SubL.keepA ?_ _|refine SubL.skip ?_|refine SubL.skipA ?_ _)
  ·obtain rfl:i=7:=by omega
   have u1:decide (((7:Nat):Int)+1≤7)=false:=by decide
   repeat' (first|(refine wlS ?_)|(refine wlB ?_)|(refine wlE ?_)|(refine efSvao ?_;intro v oa ho)|(refine wl_skip rfl rfl ?_)|((with_reducible refine wc_seq ?_);intro K hK)|(refine auC ?_)|(refine wc_cond rfl (fun hc=>?_) (fun hc=>?_))|(refine wc_draw (by kernel_rfl) (by kernel_rfl) (by decide +kernel) ?_;intro w0 hw0 hm0;(try simp only [List.append_eq,List.cons_append,List.nil_append]))|(refine auP ?_)|((refine auR ?_);clear hK K)|(refine auR ?_)|((with_reducible refine hK _ _ ?_);clear hK K)|fail)
   first|refine end_ret (ResP.tmp rfl ResP.nil) ?_|refine end_normal (ResP.tmp rfl ResP.nil) ?_
   (try dsimp only [tupV])
   exact ⟨_,_,rfl,ho,by
    repeat (first|exact SubL.nil|exact SubL.refl _|refine SubL.keep ?_|exact SubL.headA _ _|refine SubL.keepA ?_ _|refine SubL.skip ?_|refine SubL.skipA ?_ _)⟩
 by_cases c3:c=3
 ·subst c3
  show Calls _ _ _ _ (RetO _ (fun u oa=>OwnL _ 1 u (upK 7++[14]).length (ksC (upK 7++[14])) oa) _)
  have q1:(((3:Nat):Int) == 1)=false:=rfl
  have q2:(((3:Nat):Int) == 2)=false:=rfl
  have q3:(((3:Nat):Int) == 3)=true:=rfl
  have q4:(((3:Nat):Int) == 4)=false:=rfl
  refine fn_own (N:=_) Tryd.func39 rfl Tryd.ntmps39 Tryd.results39 (by simp) ?_
  simp only [initS,Nat.reduceAdd,Nat.zero_add]
  repeat' (first|(refine wlS ?_)|(refine wlB ?_)|(refine wlE ?_)|(refine efSvao ?_;intro v oa ho)|(refine wl_skip rfl rfl ?_)|((with_reducible refine wc_seq ?_);intro K hK)|(refine auC ?_)|(refine wc_cond rfl (fun hc=>?_) (fun hc=>?_))|(refine wc_draw (by kernel_rfl) (by kernel_rfl) (by decide +kernel) ?_;intro w0 hw0 hm0;(try simp only [List.append_eq,List.cons_append,List.nil_append]))|(refine auP ?_)|((refine auR ?_);clear hK K)|(refine auR ?_)|((with_reducible refine hK _ _ ?_);clear hK K)|fail)
  refine wc_loop (σ:=Nat×Value×Blks) (fun x=>[(0,.int .u8 ((3:Nat):Int)),(3,.int .i64 7),(4,x.2.1),(5,.int .i64 ((x.1:Int)+1))]) (fun x=>x.2.2) (fun x=>x.1≤7∧OwnL 3 1 x.2.1 x.1 (ksC (upK x.1)) x.2.2) (fun x=>7 - x.1) (0,.slice none 0 0,[]) ⟨Nat.zero_le _,OwnL.nil _ _⟩ (Fits.of ⟨rfl,rfl,rfl,rfl,trivial⟩ (SubL.refl _) rfl) ?_
  rintro ⟨i,v,oa⟩ ⟨hi,ho⟩
  dsimp only at hi ho ⊢
  by_cases hlt:i<7
  ·have u1:decide ((i:Int)+1≤7)=true:=decide_eq_true (by omega)
   have u2:IntKind.i64.wrap ((i:Int)+1+1)=(((i+1:Nat):Int)+1):=by rw [wrap_i64 _ (by omega) (by omega)];omega
   repeat' (first|(refine wlS ?_)|(refine wlB ?_)|(refine wlE ?_)|(refine efSvao ?_;intro v oa ho)|(refine wl_skip rfl rfl ?_)|((with_reducible refine wc_seq ?_);intro K hK)|(refine auC ?_)|(refine wc_cond rfl (fun hc=>?_) (fun hc=>?_))|(refine wc_draw (by kernel_rfl) (by kernel_rfl) (by decide +kernel) ?_;intro w0 hw0 hm0;(try simp only [List.append_eq,List.cons_append,List.nil_append]))|(refine auP ?_)|((refine auR ?_);clear hK K)|(refine auR ?_)|((with_reducible refine hK _ _ ?_);clear hK K)|fail)
   refine ⟨(i+1,v,oa),⟨hlt,by dsimp only;rw [upK_succ,ksC_app];exact ho⟩,by dsimp only;omega,Fits.of ⟨rfl,rfl,rfl,rfl,trivial⟩ ?_ rfl⟩
   repeat (first|exact SubL.nil|exact SubL.refl _|refine SubL.keep ?_|exact SubL.headA _ _|refine SubL.keepA ?_ _|refine SubL.skip ?_|refine SubL.skipA ?_ _)
  ·obtain rfl:i=7:=by omega
   have u1:decide (((7:Nat):Int)+1≤7)=false:=by decide
   repeat' (first|(refine wlS ?_)|(refine wlB ?_)|(refine wlE ?_)|(refine efSvao ?_;intro v oa ho)|(refine wl_skip rfl rfl ?_)|((with_reducible refine wc_seq ?_);intro K hK)|(refine auC ?_)|(refine wc_cond rfl (fun hc=>?_) (fun hc=>?_))|(refine wc_draw (by kernel_rfl) (by kernel_rfl) (by decide +kernel) ?_;intro w0 hw0 hm0;(try simp only [List.append_eq,List.cons_append,List.nil_append]))|(refine auP ?_)|((refine auR ?_);clear hK K)|(refine auR ?_)|((with_reducible refine hK _ _ ?_);clear hK K)|fail)
   first|refine end_ret (ResP.tmp rfl ResP.nil) ?_|refine end_normal (ResP.tmp rfl ResP.nil) ?_
   (try dsimp only [tupV])
   exact ⟨_,_,rfl,by rw [ksC_app];exact ho,by
    repeat (first|exact SubL.nil|exact SubL.refl _|refine SubL.keep ?_|exact SubL.headA _ _|refine SubL.keepA ?_ _|refine SubL.skip ?_|refine SubL.skipA ?_ _)⟩
 by_cases c2:c=2
 ·subst c2
  show Calls _ _ _ _ (RetO _ (fun u oa=>OwnL _ 1 u (upK 17).length (ksC (upK 17)) oa) _)
  have q1:(((2:Nat):Int) == 1)=false:=rfl
  have q2:(((2:Nat):Int) == 2)=true:=rfl
  have q3:(((2:Nat):Int) == 3)=false:=rfl
  have q4:(((2:Nat):Int) == 4)=false:=rfl
  refine fn_own (N:=_) Tryd.func39 rfl Tryd.ntmps39 Tryd.results39 (by simp) ?_
  simp only [initS,Nat.reduceAdd,Nat.zero_add]
  repeat' (first|(refine wlS ?_)|(refine wlB ?_)|(refine wlE ?_)|(refine efSvao ?_;intro v oa ho)|(refine wl_skip rfl rfl ?_)|((with_reducible refine wc_seq ?_);intro K hK)|(refine auC ?_)|(refine wc_cond rfl (fun hc=>?_) (fun hc=>?_))|(refine wc_draw (by kernel_rfl) (by kernel_rfl) (by decide +kernel) ?_;intro w0 hw0 hm0;(try simp only [List.append_eq,List.cons_append,List.nil_append]))|(refine auP ?_)|((refine auR ?_);clear hK K)|(refine auR ?_)|((with_reducible refine hK _ _ ?_);clear hK K)|fail)
  refine wc_loop (σ:=Nat×Value×Blks) (fun x=>[(0,.int .u8 ((2:Nat):Int)),(3,.int .i64 17),(4,x.2.1),(5,.int .i64 ((x.1:Int)+1))]) (fun x=>x.2.2) (fun x=>x.1≤17∧OwnL 3 1 x.2.1 x.1 (ksC (upK x.1)) x.2.2) (fun x=>17 - x.1) (0,.slice none 0 0,[]) ⟨Nat.zero_le _,OwnL.nil _ _⟩ (Fits.of ⟨rfl,rfl,rfl,rfl,trivial⟩ (SubL.refl _) rfl) ?_
  rintro ⟨i,v,oa⟩ ⟨hi,ho⟩
  dsimp only at hi ho ⊢
  by_cases hlt:i<17
  ·have u1:decide ((i:Int)+1≤17)=true:=decide_eq_true (by omega)
   have u2:IntKind.i64.wrap ((i:Int)+1+1)=(((i+1:Nat):Int)+1):=by rw [wrap_i64 _ (by omega) (by omega)];omega
   repeat' (first|(refine wlS ?_)|(refine wlB ?_)|(refine wlE ?_)|(refine efSvao ?_;intro v oa ho)|(refine wl_skip rfl rfl ?_)|((with_reducible refine wc_seq ?_);intro K hK)|(refine auC ?_)|(refine wc_cond rfl (fun hc=>?_) (fun hc=>?_))|(refine wc_draw (by kernel_rfl) (by kernel_rfl) (by decide +kernel) ?_;intro w0 hw0 hm0;(try simp only [List.append_eq,List.cons_append,List.nil_append]))|(refine auP ?_)|((refine auR ?_);clear hK K)|(refine auR ?_)|((with_reducible refine hK _ _ ?_);clear hK K)|fail)
   refine ⟨(i+1,v,oa),⟨hlt,by dsimp only;rw [upK_succ,ksC_app];exact ho⟩,by dsimp only;omega,Fits.of ⟨rfl,rfl,rfl,rfl,trivial⟩ ?_ rfl⟩
   repeat (first|exact SubL.nil|exact SubL.refl _|refine SubL.keep ?_|exact SubL.headA _ _|refine SubL.keepA ?_ _|refine SubL.skip ?_|refine SubL.skipA ?_ _)
  ·obtain rfl:i=17:=by omega
   have u1:decide (((17:Nat):Int)+1≤17)=false:=by decide
   repeat' (first|(refine wlS ?_)|(refine wlB ?_)|(refine wlE ?_)|(refine efSvao ?_;intro v oa ho)|(refine wl_skip rfl rfl ?_)|((with_reducible refine wc_seq ?_);intro K hK)|(refine auC ?_)|(refine wc_cond rfl (fun hc=>?_) (fun hc=>?_))|(refine wc_draw (by kernel_rfl) (by kernel_rfl) (by decide +kernel) ?_;intro w0 hw0 hm0;(try simp only [List.append_eq,List.cons_append,List.nil_append]))|(refine auP ?_)|((refine auR ?_);clear hK K)|(refine auR ?_)|((with_reducible refine hK _ _ ?_);clear hK K)|fail)
   first|refine end_ret (ResP.tmp rfl ResP.nil) ?_|refine end_normal (ResP.tmp rfl ResP.nil) ?_
   (try dsimp only [tupV])
   exact ⟨_,_,rfl,ho,by
    repeat (first|exact SubL.nil|exact SubL.refl _|refine SubL.keep ?_|exact SubL.headA _ _|refine SubL.keepA ?_ _|refine SubL.skip ?_|refine SubL.skipA ?_ _)⟩
 by_cases c4:c=4
 ·subst c4
  show Calls _ _ _ _ (RetO _ (fun u oa=>OwnL _ 1 u (upK 13++[18]).length (ksC (upK 13++[18])) oa) _)
  have q1:(((4:Nat):Int) == 1)=false:=rfl
  have q2:(((4:Nat):Int) == 2)=false:=rfl
  have q3:(((4:Nat):Int) == 3)=false:=rfl
  have q4:(((4:Nat):Int) == 4)=true:=rfl
  refine fn_own (N:=_) Tryd.func39 rfl Tryd.ntmps39 Tryd.results39 (by simp) ?_
  simp only [initS,Nat.reduceAdd,Nat.zero_add]
  repeat' (first|(refine wlS ?_)|(refine wlB ?_)|(refine wlE ?_)|(refine efSvao ?_;intro v oa ho)|(refine wl_skip rfl rfl ?_)|((with_reducible refine wc_seq ?_);intro K hK)|(refine auC ?_)|(refine wc_cond rfl (fun hc=>?_) (fun hc=>?_))|(refine wc_draw (by kernel_rfl) (by kernel_rfl) (by decide +kernel) ?_;intro w0 hw0 hm0;(try simp only [List.append_eq,List.cons_append,List.nil_append]))|(refine auP ?_)|((refine auR ?_);clear hK K)|(refine auR ?_)|((with_reducible refine hK _ _ ?_);clear hK K)|fail)
  refine wc_loop (σ:=Nat×Value×Blks) (fun x=>[(0,.int .u8 ((4:Nat):Int)),(3,.int .i64 13),(4,x.2.1),(5,.int .i64 ((x.1:Int)+1))]) (fun x=>x.2.2) (fun x=>x.1≤13∧OwnL 3 1 x.2.1 x.1 (ksC (upK x.1)) x.2.2) (fun x=>13 - x.1) (0,.slice none 0 0,[]) ⟨Nat.zero_le _,OwnL.nil _ _⟩ (Fits.of ⟨rfl,rfl,rfl,rfl,trivial⟩ (SubL.refl _) rfl) ?_
  rintro ⟨i,v,oa⟩ ⟨hi,ho⟩
  dsimp only at hi ho ⊢
  by_cases hlt:i<13
  ·have u1:decide ((i:Int)+1≤13)=true:=decide_eq_true (by omega)
   have u2:IntKind.i64.wrap ((i:Int)+1+1)=(((i+1:Nat):Int)+1):=by rw [wrap_i64 _ (by omega) (by omega)];omega
   repeat' (first|(refine wlS ?_)|(refine wlB ?_)|(refine wlE ?_)|(refine efSvao ?_;intro v oa ho)|(refine wl_skip rfl rfl ?_)|((with_reducible refine wc_seq ?_);intro K hK)|(refine auC ?_)|(refine wc_cond rfl (fun hc=>?_) (fun hc=>?_))|(refine wc_draw (by kernel_rfl) (by kernel_rfl) (by decide +kernel) ?_;intro w0 hw0 hm0;(try simp only [List.append_eq,List.cons_append,List.nil_append]))|(refine auP ?_)|((refine auR ?_);clear hK K)|(refine auR ?_)|((with_reducible refine hK _ _ ?_);clear hK K)|fail)
   refine ⟨(i+1,v,oa),⟨hlt,by dsimp only;rw [upK_succ,ksC_app];exact ho⟩,by dsimp only;omega,Fits.of ⟨rfl,rfl,rfl,rfl,trivial⟩ ?_ rfl⟩
   repeat (first|exact SubL.nil|exact SubL.refl _|refine SubL.keep ?_|exact SubL.headA _ _|refine SubL.keepA ?_ _|refine SubL.skip ?_|refine SubL.skipA ?_ _)
  ·obtain rfl:i=13:=by omega
   have u1:decide (((13:Nat):Int)+1≤13)=false:=by decide
   repeat' (first|(refine wlS ?_)|(refine wlB ?_)|(refine wlE ?_)|(refine efSvao ?_;intro v oa ho)|(refine wl_skip rfl rfl ?_)|((with_reducible refine wc_seq ?_);intro K hK)|(refine auC ?_)|(refine wc_cond rfl (fun hc=>?_) (fun hc=>?_))|(refine wc_draw (by kernel_rfl) (by kernel_rfl) (by decide +kernel) ?_;intro w0 hw0 hm0;(try simp only [List.append_eq,List.cons_append,List.nil_append]))|(refine auP ?_)|((refine auR ?_);clear hK K)|(refine auR ?_)|((with_reducible refine hK _ _ ?_);clear hK K)|fail)
   first|refine end_ret (ResP.tmp rfl ResP.nil) ?_|refine end_normal (ResP.tmp rfl ResP.nil) ?_
   (try dsimp only [tupV])
   exact ⟨_,_,rfl,by rw [ksC_app];exact ho,by
    repeat (first|exact SubL.nil|exact SubL.refl _|refine SubL.keep ?_|exact SubL.headA _ _|refine SubL.keepA ?_ _|refine SubL.skip ?_|refine SubL.skipA ?_ _)⟩
 have hk:kindsA c=[]:=by unfold kindsA;rw [if_neg c1,if_neg c3,if_neg c2,if_neg c4]
 rw [hk]
 have q1:((c:Int) == 1)=false:=by simp only [beq_eq_false_iff_ne,ne_eq];omega
 have q2:((c:Int) == 2)=false:=by simp only [beq_eq_false_iff_ne,ne_eq];omega
 have q3:((c:Int) == 3)=false:=by simp only [beq_eq_false_iff_ne,ne_eq];omega
 have q4:((c:Int) == 4)=false:=by simp only [beq_eq_false_iff_ne,ne_eq];omega
 have u1:decide ((1:Int)≤0)=false:=by decide
 refine fn_own (N:=_) Tryd.func39 rfl Tryd.ntmps39 Tryd.results39 (by simp) ?_
 simp only [initS,Nat.reduceAdd,Nat.zero_add]
 repeat' (first|(refine wlS ?_)|(refine wlB ?_)|(refine wlE ?_)|(refine efSvao ?_;intro v oa ho)|(refine wl_skip rfl rfl ?_)|((with_reducible refine wc_seq ?_);intro K hK)|(refine auC ?_)|(refine wc_cond rfl (fun hc=>?_) (fun hc=>?_))|(refine wc_draw (by kernel_rfl) (by kernel_rfl) (by decide +kernel) ?_;intro w0 hw0 hm0;(try simp only [List.append_eq,List.cons_append,List.nil_append]))|(refine auP ?_)|((refine auR ?_);clear hK K)|(refine auR ?_)|((with_reducible refine hK _ _ ?_);clear hK K)|fail)
 refine wc_loop (σ:=Unit) (fun x=>[(0,.int .u8 (c:Int)),(3,.int .i64 0),(4,.slice none 0 0),(5,.int .i64 1)]) (fun x=>[]) (fun x=>True) (fun x=>0) () trivial (Fits.of ⟨rfl,rfl,rfl,rfl,trivial⟩ .nil rfl) ?_
 intro x hx
 repeat' (first|(refine wlS ?_)|(refine wlB ?_)|(refine wlE ?_)|(refine efSvao ?_;intro v oa ho)|(refine wl_skip rfl rfl ?_)|((with_reducible refine wc_seq ?_);intro K hK)|(refine auC ?_)|(refine wc_cond rfl (fun hc=>?_) (fun hc=>?_))|(refine wc_draw (by kernel_rfl) (by kernel_rfl) (by decide +kernel) ?_;intro w0 hw0 hm0;(try simp only [List.append_eq,List.cons_append,List.nil_append]))|(refine auP ?_)|((refine auR ?_);clear hK K)|(refine auR ?_)|((with_reducible refine hK _ _ ?_);clear hK K)|fail)
 first|refine end_ret (ResP.tmp rfl ResP.nil) ?_|refine end_normal (ResP.tmp rfl ResP.nil) ?_
 (try dsimp only [tupV])
 exact ⟨_,_,rfl,OwnL.nil _ _,.nil⟩
end Go.Proofs.YthigacbelefadaaDoor
namespace Go.Proofs.YthigacbelefadaaDoor
open Go.RowKit
set_option linter.unusedVariables false
set_option linter.unusedSimpArgs false
set_option maxRecDepth 100000
set_option maxHeartbeats 4000000 in
theorem class_c (w:World){v:Value}{l:List Att}(h:Ats w v l)(hk:AbOk (abs l)):Calls Tryd.prog 38 [v].toArray w (Ret (.int .u8 (clsA (abs l):Int)) w):=by
 haveI:=h.old
 cases hg:getA (abs l) 1 with
 | none=>
  have GN:=fun w' (h:Ats w' v l)=>get_no w' h hg
  have e:clsA (abs l)=0:=by unfold clsA;rw [hg]
  rw [e]
  clear h
  refine fn_ret (N:=_) Tryd.func38 rfl Tryd.ntmps38 Tryd.results38 (by simp) ?_
  simp only [initS,Nat.reduceAdd,Nat.zero_add]
  repeat' (first|(refine wlS ?_)|(refine wlB ?_)|((with_reducible refine sel_call ?_);refine wl_rd rfl rfl (rd_call rfl rfl rfl (fun w hm=>by with_reducible exact GN w (VwT.out w hm))) ?_)|(refine wlE ?_)|(refine efSvao ?_;intro v oa ho)|(refine wl_skip rfl rfl ?_)|((with_reducible refine wc_seq ?_);intro K hK)|(refine auC ?_)|(refine wc_cond rfl (fun hc=>?_) (fun hc=>?_))|(refine wc_draw (by kernel_rfl) (by kernel_rfl) (by decide +kernel) ?_;intro w0 hw0 hm0;(try simp only [List.append_eq,List.cons_append,List.nil_append]))|(refine auP ?_)|((refine auR ?_);clear hK K)|(refine auR ?_)|((with_reducible refine hK _ _ ?_);clear hK K)|fail)
  first|refine end_ret (ResP.tmp rfl ResP.nil) ?_|refine end_normal (ResP.tmp rfl ResP.nil) ?_
  first|rfl|(show _=_;rfl)|(simp only [tupV, *];done)
 | some q=>
  have hf:=(hk.each _ ((getA_mem hk.nd).1 hg)).2.2
  have hq:=fitsB_le hf
  obtain ⟨b,rfl⟩:∃ b,q=[b]:=by
   unfold fitsB at hf
   dsimp only at hf
   rw [if_pos rfl] at hf
   exact List.length_eq_one_iff.1 (of_decide_eq_true hf).1
  have GY:=fun w' (h:Ats w' v l)=>get_yes w' h hg (by simp)
  have e:clsA (abs l)=b:=by unfold clsA;rw [hg]
  rw [e]
  have t1:((([b].length:Nat):Int) == 1)=true:=rfl
  have g0:(bl [b])[0]? = some (.int .u8 (b:Int)):=rfl
  have j0:(0:Int)<(([b].length:Nat):Int):=by simp
  clear h
  refine fn_ret (N:=_) Tryd.func38 rfl Tryd.ntmps38 Tryd.results38 (by simp) ?_
  simp only [initS,Nat.reduceAdd,Nat.zero_add]
  repeat' (first|(refine wlS ?_)|(refine wlB ?_)|(refine wlE ?_)|(refine efSvao ?_;intro v oa ho)|((with_reducible refine sel_call ?_);first|(refine wl_newO rfl rfl rfl rfl rfl (fun w hm=>by with_reducible exact GY w (VwT.out w hm)) ?_;intro x oa hx))|(refine wl_skip rfl rfl ?_)|((with_reducible refine wc_seq ?_);intro K hK)|(refine auC ?_)|(refine wc_cond rfl (fun hc=>?_) (fun hc=>?_))|(refine wc_draw (by kernel_rfl) (by kernel_rfl) (by decide +kernel) ?_;intro w0 hw0 hm0;(try simp only [List.append_eq,List.cons_append,List.nil_append]))|(refine auP ?_)|((refine auR ?_);clear hK K)|(refine auR ?_)|((with_reducible refine hK _ _ ?_);clear hK K)|fail)
  first|refine end_ret (ResP.tmp rfl ResP.nil) ?_|refine end_normal (ResP.tmp rfl ResP.nil) ?_
  first|rfl|(show _=_;rfl)|(simp only [tupV, *];done)
set_option maxHeartbeats 4000000 in
theorem sized_c (w:World)(c n:Nat)(hn:n≤1048576):Calls Tryd.prog 42 [.int .u8 (c:Int),.int .i64 (n:Int)].toArray w (Ret (.bool (sizedB c n)) w):=by
 have hB:∀ m:Nat,((n:Int) == (m:Int))=(n == m):=fun m=>by rw [Bool.eq_iff_iff];simp;omega
 have b16:=hB 16
 have b24:=hB 24
 have b32:=hB 32
 by_cases c2:c=2
 ·subst c2
  have q2:(((2:Nat):Int) == 2)=true:=rfl
  have e:sizedB 2 n=(n == 16 || n == 24 || n == 32):=rfl
  rw [e]
  rw [←b16,←b24,←b32]
  obtain ⟨x,hx⟩:∃ x,x=((n:Int) == ((16:Nat):Int)):=⟨_,rfl⟩
  obtain ⟨y,hy⟩:∃ y,y=((n:Int) == ((24:Nat):Int)):=⟨_,rfl⟩
  obtain ⟨z,hz⟩:∃ z,z=((n:Int) == ((32:Nat):Int)):=⟨_,rfl⟩
  rw [←hx,←hy,←hz]
  have f16:((n:Int) == 16)=x:=hx.symm
  have f24:((n:Int) == 24)=y:=hy.symm
  have f32:((n:Int) == 32)=z:=hz.symm
  clear hx hy hz b16 b24 b32 hB
  cases x <;> cases y <;> cases z
  all_goals (
   refine fn_ret (N:=_) Tryd.func42 rfl Tryd.ntmps42 Tryd.results42 (by simp) ?_
   simp only [initS,Nat.reduceAdd,Nat.zero_add])
  all_goals (
   repeat' (first|(refine wlS ?_)|(refine wlB ?_)|(refine wl_skip rfl rfl ?_)|((with_reducible refine wc_seq ?_);intro K hK)|(refine auC ?_)|(refine wc_cond rfl (fun hc=>?_) (fun hc=>?_))|(refine wc_draw (by kernel_rfl) (by kernel_rfl) (by decide +kernel) ?_;intro w0 hw0 hm0;(try simp only [List.append_eq,List.cons_append,List.nil_append]))|(refine auP ?_)|((refine auR ?_);clear hK K)|(refine auR ?_)|((with_reducible refine hK _ _ ?_);clear hK K)|fail))
  all_goals (
   first|refine end_ret (ResP.tmp rfl ResP.nil) ?_|refine end_normal (ResP.tmp rfl ResP.nil) ?_
   first|rfl|(show _=_;rfl)|(simp only [tupV, *];done))
 ·have q2:((c:Int) == 2)=false:=by simp only [beq_eq_false_iff_ne,ne_eq];omega
  have f32:((n:Int) == 32)=(n == 32):=b32
  by_cases c3:c=3
  ·subst c3
   have q3:(((3:Nat):Int) == 3)=true:=rfl
   have e:sizedB 3 n=(n == 32):=rfl
   rw [e]
   clear hB b16 b24 b32
   generalize (n == 32)=z at *
   refine fn_ret (N:=_) Tryd.func42 rfl Tryd.ntmps42 Tryd.results42 (by simp) ?_
   simp only [initS,Nat.reduceAdd,Nat.zero_add]
   repeat' (first|(refine wlS ?_)|(refine wlB ?_)|(refine wl_skip rfl rfl ?_)|((with_reducible refine wc_seq ?_);intro K hK)|(refine auC ?_)|(refine wc_cond rfl (fun hc=>?_) (fun hc=>?_))|(refine wc_draw (by kernel_rfl) (by kernel_rfl) (by decide +kernel) ?_;intro w0 hw0 hm0;(try simp only [List.append_eq,List.cons_append,List.nil_append]))|(refine auP ?_)|((refine auR ?_);clear hK K)|(refine auR ?_)|((with_reducible refine hK _ _ ?_);clear hK K)|fail)
   first|refine end_ret (ResP.tmp rfl ResP.nil) ?_|refine end_normal (ResP.tmp rfl ResP.nil) ?_
   first|rfl|(show _=_;rfl)|(simp only [tupV, *];done)
  ·have q3:((c:Int) == 3)=false:=by simp only [beq_eq_false_iff_ne,ne_eq];omega
   by_cases c4:c=4
   ·subst c4
    have q4:(((4:Nat):Int) == 4)=true:=rfl
    have e:sizedB 4 n=(n == 32):=rfl
    rw [e]
    clear hB b16 b24 b32
    generalize (n == 32)=z at *
    refine fn_ret (N:=_) Tryd.func42 rfl Tryd.ntmps42 Tryd.results42 (by simp) ?_
    simp only [initS,Nat.reduceAdd,Nat.zero_add]
    repeat' (first|(refine wlS ?_)|(refine wlB ?_)|(refine wl_skip rfl rfl ?_)|((with_reducible refine wc_seq ?_);intro K hK)|(refine auC ?_)|(refine wc_cond rfl (fun hc=>?_) (fun hc=>?_))|(refine wc_draw (by kernel_rfl) (by kernel_rfl) (by decide +kernel) ?_;intro w0 hw0 hm0;(try simp only [List.append_eq,List.cons_append,List.nil_append]))|(refine auP ?_)|((refine auR ?_);clear hK K)|(refine auR ?_)|((with_reducible refine hK _ _ ?_);clear hK K)|fail)
    first|refine end_ret (ResP.tmp rfl ResP.nil) ?_|refine end_normal (ResP.tmp rfl ResP.nil) ?_
    first|rfl|(show _=_;rfl)|(simp only [tupV, *];done)
   ·have q4:((c:Int) == 4)=false:=by simp only [beq_eq_false_iff_ne,ne_eq];omega
    have e:sizedB c n=true:=by unfold sizedB;rw [if_neg c2,if_neg (by omega)]
    rw [e]
    refine fn_ret (N:=_) Tryd.func42 rfl Tryd.ntmps42 Tryd.results42 (by simp) ?_
    simp only [initS,Nat.reduceAdd,Nat.zero_add]
    repeat' (first|(refine wlS ?_)|(refine wlB ?_)|(refine wl_skip rfl rfl ?_)|((with_reducible refine wc_seq ?_);intro K hK)|(refine auC ?_)|(refine wc_cond rfl (fun hc=>?_) (fun hc=>?_))|(refine wc_draw (by kernel_rfl) (by kernel_rfl) (by decide +kernel) ?_;intro w0 hw0 hm0;(try simp only [List.append_eq,List.cons_append,List.nil_append]))|(refine auP ?_)|((refine auR ?_);clear hK K)|(refine auR ?_)|((with_reducible refine hK _ _ ?_);clear hK K)|fail)
    first|refine end_ret (ResP.tmp rfl ResP.nil) ?_|refine end_normal (ResP.tmp rfl ResP.nil) ?_
    first|rfl|(show _=_;rfl)|(simp only [tupV, *];done)
end Go.Proofs.YthigacbelefadaaDoor
