/- rule.Valid of what is no list of attributes: false. A desk of sessions: plain laws. The package login,walked. The package login,walked: Close,Open,New. -/
import Derived.Test.YthigacbelefadaaDoorValidA
import Derived.Test.YthigacbelefadaaDoorJnAD
import Derived.Test.YthigacbelefadaaDoorJnAC
import Derived.Test.YthigacbelefadaaDoorTyS
import Derived.Test.YthigacbelefadaaDoorLwH
namespace Go.Proofs.YthigacbelefadaaDoor
open Go.RowKit
set_option linter.unusedVariables false
set_option linter.unusedSimpArgs false
set_option maxRecDepth 100000
theorem small_get {l:List Att}(hs:Small l){k:Int}{q:List Nat}(h:getA (abs l) k=some q):q.length≤1048576:=by
 obtain ⟨j,y,_,h2,h3,_⟩:=getA_some h
 rw [←h3];exact hs.each y (List.mem_of_getElem? h2)
theorem class_any {v:Value}{l:List Att}(hs:Small l):∃ c:Nat,∀ w,Ats w v l→Calls Tryd.prog 38 [v].toArray w (Ret (.int .u8 (c:Int)) w):=by
 cases hg:getA (abs l) 1 with
 | none=>
  refine ⟨0,fun w h=>?_⟩
  haveI:=h.old
  have GN:=fun w' (h:Ats w' v l)=>get_no w' h hg
  clear h
  refine fn_ret (N:=_) Tryd.func38 rfl Tryd.ntmps38 Tryd.results38 (by simp) ?_
  simp only [initS,Nat.reduceAdd,Nat.zero_add]
  repeat' (first|(refine wlS ?_)|(refine wlB ?_)|((with_reducible refine sel_call ?_);refine wl_rd rfl rfl (rd_call rfl rfl rfl (fun w hm=>by with_reducible exact GN w (VwT.out w hm))) ?_)|(refine wlE ?_)|(refine efSvao ?_;intro v oa ho)|(refine wl_skip rfl rfl ?_)|((with_reducible refine wc_seq ?_);intro K hK)|(refine auC ?_)|(refine wc_cond rfl (fun hc=>?_) (fun hc=>?_))|(refine wc_draw (by kernel_rfl) (by kernel_rfl) (by decide +kernel) ?_;intro w0 hw0 hm0;(try simp only [List.append_eq,List.cons_append,List.nil_append]))|(refine auP ?_)|((refine auR ?_);clear hK K)|(refine auR ?_)|((with_reducible refine hK _ _ ?_);clear hK K)|fail)
  first|refine end_ret (ResP.tmp rfl ResP.nil) ?_|refine end_normal (ResP.tmp rfl ResP.nil) ?_
  first|rfl|(show _=_;rfl)|(simp only [tupV, *];done)
 | some q=>
  have hq:=small_get hs hg
  by_cases h1:q.length=1
  ·obtain ⟨b,rfl⟩:=List.length_eq_one_iff.1 h1
   refine ⟨b,fun w h=>?_⟩
   haveI:=h.old
   have GY:=fun w' (h:Ats w' v l)=>get_yes w' h hg (by simp)
   have t1:((([b].length:Nat):Int) == 1)=true:=rfl
   have g0:(bl [b])[0]? = some (.int .u8 (b:Int)):=rfl
   have j0:(0:Int)<(([b].length:Nat):Int):=by simp
   clear h
   refine fn_ret (N:=_) Tryd.func38 rfl Tryd.ntmps38 Tryd.results38 (by simp) ?_
   simp only [initS,Nat.reduceAdd,Nat.zero_add]
   repeat' (first|(refine wlS ?_)|(refine wlB ?_)|(refine wlE ?_)|(refine efSvao ?_;intro v oa ho)|((with_reducible refine sel_call ?_);first|(refine wl_newO rfl rfl rfl rfl rfl (fun w hm=>by with_reducible exact GY w (VwT.out w hm)) ?_;intro x oa hx))|(refine wl_skip rfl rfl ?_)|((with_reducible refine wc_seq ?_);intro K hK)|(refine auC ?_)|(refine wc_cond rfl (fun hc=>?_) (fun hc=>?_))|(refine wc_draw (by kernel_rfl) (by kernel_rfl) (by decide +kernel) ?_;intro w0 hw0 hm0;(try simp only [List.append_eq,List.cons_append,List.nil_append]))|(refine auP ?_)|((refine auR ?_);clear hK K)|(refine auR ?_)|((with_reducible refine hK _ _ ?_);clear hK K)|fail)
   first|refine end_ret (ResP.tmp rfl ResP.nil) ?_|refine end_normal (ResP.tmp rfl ResP.nil) ?_
   first|rfl|(show _=_;rfl)|(simp only [tupV, *];done)
  ·refine ⟨0,fun w h=>?_⟩
   haveI:=h.old
   have GY:=fun w' (h:Ats w' v l)=>get_yes w' h hg (by omega)
   have t1:(((q.length:Nat):Int) == 1)=false:=by
    rw [beq_eq_false_iff_ne];omega
   clear h
   refine fn_ret (N:=_) Tryd.func38 rfl Tryd.ntmps38 Tryd.results38 (by simp) ?_
   simp only [initS,Nat.reduceAdd,Nat.zero_add]
   repeat' (first|(refine wlS ?_)|(refine wlB ?_)|(refine wlE ?_)|(refine efSvao ?_;intro v oa ho)|((with_reducible refine sel_call ?_);first|(refine wl_newO rfl rfl rfl rfl rfl (fun w hm=>by with_reducible exact GY w (VwT.out w hm)) ?_;intro x oa hx))|(refine wl_skip rfl rfl ?_)|((with_reducible refine wc_seq ?_);intro K hK)|(refine auC ?_)|(refine wc_cond rfl (fun hc=>?_) (fun hc=>?_))|(refine wc_draw (by kernel_rfl) (by kernel_rfl) (by decide +kernel) ?_;intro w0 hw0 hm0;(try simp only [List.append_eq,List.cons_append,List.nil_append]))|(refine auP ?_)|((refine auR ?_);clear hK K)|(refine auR ?_)|((with_reducible refine hK _ _ ?_);clear hK K)|fail)
   first|refine end_ret (ResP.tmp rfl ResP.nil) ?_|refine end_normal (ResP.tmp rfl ResP.nil) ?_
   first|rfl|(show _=_;rfl)|(simp only [tupV, *];done)
theorem valid_no (w:World){v:Value}{l:List Att}(h:Ats w v l)(hs:Small l)(hk:¬AbOk (abs l)):Calls Tryd.prog 23 [v].toArray w (Ret (.bool false) w):=by
 haveI i0:=h.old
 haveI i1:=h.cs.old
 obtain ⟨c,CO⟩:=class_any (v:=v) hs
 have KD:=fun w'=>kinds_c w' c
 have hne:chkA (abs l)≠0:=fun he=>hk (chkA_zero.1 he)
 obtain ⟨er,her⟩:∃ z,chkA (abs l)=z:=⟨_,rfl⟩
 rw [her] at hne
 have CK:=fun w' (h:Ats w' v l)=>(show Calls Tryd.prog 40 [v].toArray w' (Ret (.int .i64 er) w') by
  have:=check_a w' h
  rwa [her] at this)
 have t0:(er != 0)=true:=by rw [bne_iff_ne];exact hne
 clear h hs
 refine fn_ret (N:=_) Tryd.func23 rfl Tryd.ntmps23 Tryd.results23 (by simp) ?_
 simp only [initS,Nat.reduceAdd,Nat.zero_add]
 repeat' (first|(refine wlS ?_)|(refine wlB ?_)|((with_reducible refine sel_call ?_);refine wl_rd rfl rfl (rd_call rfl rfl rfl (fun w hm=>by with_reducible first|exact CO w (VwT.out w hm)|exact CK w (VwT.out w hm))) ?_)|(refine wlE ?_)|(refine efSvao ?_;intro v oa ho)|((with_reducible refine sel_call ?_);first|(refine wl_newO rfl rfl rfl rfl rfl (fun w hm=>by with_reducible exact KD w) ?_;intro x oa hx))|(refine efBnn ?_;intro n hn)|(refine efB ?_)|(refine efBS ?_)|(refine wl_skip rfl rfl ?_)|(refine wdS ?_)|(refine wdV ?_)|(refine wdB ?_)|(refine wd_skip rfl rfl ?_)|((with_reducible refine seld_nil ?_);refine wd_nil hm0 ?_;clear hm0 hw0)|((with_reducible refine wc_seq ?_);intro K hK)|(refine auC ?_)|(refine wc_cond rfl (fun hc=>?_) (fun hc=>?_))|(refine wc_draw (by kernel_rfl) (by kernel_rfl) (by decide +kernel) ?_;intro w0 hw0 hm0;(try simp only [List.append_eq,List.cons_append,List.nil_append]))|(refine auP ?_)|((refine auR ?_);clear hK K)|(refine auR ?_)|((with_reducible refine hK _ _ ?_);clear hK K)|fail)
 first|refine end_ret (ResP.tmp rfl ResP.nil) ?_|refine end_normal (ResP.tmp rfl ResP.nil) ?_
 first|rfl|(show _=_;rfl)|(simp only [tupV, *];done)
end Go.Proofs.YthigacbelefadaaDoor
namespace Go.Proofs.YthigacbelefadaaDoor
set_option linter.unusedVariables false
set_option linter.unusedSimpArgs false
def seV (rw:Bool):Value:=.agg #[.bool rw]
abbrev Se:=Int×Bool×Nat
def seE (x:Se):Ent:=(x.1,seV x.2.1,x.2.2)
structure Dk where
 most:Int
 last:Int
 who:Int
 m:List Se
 clock:Nat
def dkC (g:Nat)(D:Dk):Array Value:=#[.int .i64 D.most,.int .i64 D.last,.int .i64 D.who,.map (some g)]
def sget:List Se→Int→Option Bool
 | [],_=>none
 | x::r,k=>if k=x.1 then some x.2.1 else sget r k
def sdel:List Se→Int→List Se
 | [],_=>[]
 | x::r,k=>if k=x.1 then r else x::sdel r k
theorem mfind_se (k:Int):∀ (m:List Se) (i:Nat),(mfind k (m.map seE) i).map (·.2)=(sget m k).map seV
 | [],_=>rfl
 | x::r,i=>by
  rw [List.map_cons,mfind,sget]
  by_cases e:k=x.1
  ·subst e;simp [seE]
  ·rw [if_neg e,show (k == (seE x).1)=false by simpa [seE] using e,cond_false]
   exact mfind_se k r (i+1)
theorem mget_se (m:List Se)(k:Int):mget (m.map seE) k=(sget m k).map seV:=mfind_se k m 0
theorem mfind_shift (k:Int):∀ (m:List Ent) (i:Nat),mfind k m (i+1)=(mfind k m i).map fun x=>(x.1+1,x.2)
 | [],_=>rfl
 | x::r,i=>by
  rw [mfind,mfind]
  cases k == x.1 with
  | true=>rfl
  | false=>exact mfind_shift k r (i+1)
theorem mdel_se:∀ (m:List Se) (k:Int),mdel (m.map seE) k=(sdel m k).map seE
 | [],_=>rfl
 | x::r,k=>by
  unfold mdel
  rw [List.map_cons,mfind,sdel]
  by_cases e:k=x.1
  ·subst e;simp [seE]
  ·rw [if_neg e,show (k == (seE x).1)=false by simpa [seE] using e,cond_false,mfind_shift]
   have ih:=mdel_se r k
   unfold mdel at ih
   rw [List.map_cons,←ih]
   cases mfind k (r.map seE) 0 with
   | none=>rfl
   | some y=>rfl
theorem mset_se {m:List Se}{k:Int}(h:sget m k=none)(rw':Bool)(clock:Nat):mset (m.map seE) k (seV rw') clock=((m++[(k,rw',clock)]).map seE,clock+1):=by
 unfold mset
 have h1:=mget_se m k
 rw [h] at h1
 unfold mget at h1
 cases h2:mfind k (m.map seE) 0 with
 | some x=>rw [h2] at h1;cases h1
 | none=>simp [seE]
theorem sget_none {m:List Se}{k:Int}:sget m k=none↔∀ x∈m,x.1≠k:=by
 induction m with
 | nil=>simp [sget]
 | cons x r ih=>
  rw [sget]
  by_cases e:k=x.1
  ·rw [if_pos e];simp [e]
  ·rw [if_neg e,ih];simp [Ne.symm e]
theorem sdel_mem {m:List Se}{k:Int}{y:Se}(h:y∈sdel m k):y∈m:=by
 induction m with
 | nil=>cases h
 | cons x r ih=>
  rw [sdel] at h
  split at h
  ·exact List.mem_cons_of_mem _ h
  ·rcases List.mem_cons.1 h with rfl|h
   ·exact List.mem_cons_self
   ·exact List.mem_cons_of_mem _ (ih h)
theorem sdel_sub (m:List Se)(k:Int):(sdel m k).Sublist m:=by
 induction m with
 | nil=>exact List.Sublist.refl _
 | cons x r ih=>
  rw [sdel]
  split
  ·exact List.sublist_cons_self _ _
  ·exact ih.cons_cons _
structure DkOk (D:Dk):Prop where
 lo:1≤D.most
 hi:D.most≤16
 last0:0≤D.last
 last1:D.last≤1073741823
 few:(D.m.length:Int)≤D.most
 lt:∀ x∈D.m,x.2.2<D.clock
 nd:(D.m.map (·.2.2)).Nodup
 keys:(D.m.map (·.1)).Nodup
 below:∀ x∈D.m,1≤x.1∧x.1≤D.last
 who:D.who=0∨D.who=1∨D.who=2
theorem DkOk.mok {D:Dk}(h:DkOk D):MOk (D.m.map seE) D.clock where
 lt:=fun x hx=>by obtain ⟨y,hy,rfl⟩:=List.mem_map.1 hx;exact h.lt y hy
 nd:=by have:=h.nd;simpa [seE,Function.comp_def] using this
 keys:=by have:=h.keys;simpa [seE,Function.comp_def] using this
def openE (D:Dk)(rw':Bool):Int:=if D.most≤(D.m.length:Int)∨D.last=1073741823 then 7 else if rw'=false∧D.who=2 then 8 else 0
def openD (D:Dk)(rw':Bool):Dk:=if openE D rw'=0 then {D with last:=D.last+1,m:=D.m++[(D.last+1,rw',D.clock)],clock:=D.clock+1} else D
def openN (D:Dk)(rw':Bool):Int:=if openE D rw'=0 then D.last+1 else 0
def closeE (D:Dk)(id:Int):Int:=if sget D.m id=none then 6 else 0
def closeD (D:Dk)(id:Int):Dk:=if sget D.m id=none then D else {D with m:=sdel D.m id,who:=if sdel D.m id=[] then 0 else D.who}
def allD (D:Dk):Dk:={D with m:=[],who:=0}
def loginE (D:Dk)(id role:Int):Int:=if sget D.m id=none then 6 else if role≠1∧role≠2 then 1 else if D.who≠0 then 8 else if role=2∧∃ x∈D.m,x.2.1=false then 8 else 0
def loginD (D:Dk)(id role:Int):Dk:=if loginE D id role=0 then {D with who:=role} else D
def logoutE (D:Dk)(id:Int):Int:=if sget D.m id=none then 6 else if D.who=0 then 8 else 0
def logoutD (D:Dk)(id:Int):Dk:=if logoutE D id=0 then {D with who:=0} else D
def stateN (D:Dk)(id:Int):Int:=match sget D.m id with
 | none=>0
 | some true=>3+D.who
 | some false=>1+D.who
def stateE (D:Dk)(id:Int):Int:=if sget D.m id=none then 6 else 0
end Go.Proofs.YthigacbelefadaaDoor
namespace Go.Proofs.YthigacbelefadaaDoor
open Go.RowKit
set_option linter.unusedVariables false
set_option linter.unusedSimpArgs false
set_option maxRecDepth 100000
def dkB (b g:Nat)(D:Dk):Blks:=[(b,(dkC g D,113)),(g,mapB (D.m.map seE) D.clock)]
theorem dk_nd {b g:Nat}{D:Dk}(h:b≠g):(keys (dkB b g D)).Nodup:=by simp [keys,dkB,h]
section
variable {b g:Nat}{D:Dk}{id role:Int}
end
end Go.Proofs.YthigacbelefadaaDoor
namespace Go.Proofs.YthigacbelefadaaDoor
open Go.RowKit
set_option linter.unusedVariables false
set_option linter.unusedSimpArgs false
set_option maxRecDepth 100000
section
variable {b g:Nat}{D:Dk}{id role:Int}
theorem newD_bad (w:World){most:Int}(h:most<1∨16<most)(hwf:(Lit.int .i64 most).wf=true):Calls Tryd.prog 25 [.int .i64 most].toArray w (Ret (.tuple #[.pointer none,.int .i64 1]) w):=by
 clear hwf
 by_cases h1:most<1
 ·have t1:decide (most<1)=true:=decide_eq_true h1
  clear h
  refine fn_ret (N:=_) Tryd.func25 rfl Tryd.ntmps25 Tryd.results25 (by simp) ?_
  simp only [initS,Nat.reduceAdd,Nat.zero_add]
  repeat' (first|(refine wlB ?_)|(refine wlE ?_)|(refine efBnn ?_;intro n hn)|(refine wl_skip rfl rfl ?_)|((with_reducible refine wc_seq ?_);intro K hK)|(refine auC ?_)|(refine wc_cond rfl (fun hc=>?_) (fun hc=>?_))|(refine wc_draw (by kernel_rfl) (by kernel_rfl) (by decide +kernel) ?_;intro w0 hw0 hm0;(try simp only [List.append_eq,List.cons_append,List.nil_append]))|(refine auP ?_)|((refine auR ?_);clear hK K)|(refine auR ?_)|((with_reducible refine hK _ _ ?_);clear hK K)|fail)
  first|refine end_ret (ResP.tmp rfl (ResP.tmp rfl ResP.nil)) ?_|refine end_normal (ResP.tmp rfl (ResP.tmp rfl ResP.nil)) ?_
  first|rfl|(show _=_;rfl)|(simp only [tupV, *];done)
 ·have t1:decide (most<1)=false:=decide_eq_false h1
  have t2:decide (most>16)=true:=decide_eq_true (by omega)
  clear h
  refine fn_ret (N:=_) Tryd.func25 rfl Tryd.ntmps25 Tryd.results25 (by simp) ?_
  simp only [initS,Nat.reduceAdd,Nat.zero_add]
  repeat' (first|(refine wlB ?_)|(refine wlE ?_)|(refine efBnn ?_;intro n hn)|(refine wl_skip rfl rfl ?_)|((with_reducible refine wc_seq ?_);intro K hK)|(refine auC ?_)|(refine wc_cond rfl (fun hc=>?_) (fun hc=>?_))|(refine wc_draw (by kernel_rfl) (by kernel_rfl) (by decide +kernel) ?_;intro w0 hw0 hm0;(try simp only [List.append_eq,List.cons_append,List.nil_append]))|(refine auP ?_)|((refine auR ?_);clear hK K)|(refine auR ?_)|((with_reducible refine hK _ _ ?_);clear hK K)|fail)
  first|refine end_ret (ResP.tmp rfl (ResP.tmp rfl ResP.nil)) ?_|refine end_normal (ResP.tmp rfl (ResP.tmp rfl ResP.nil)) ?_
  first|rfl|(show _=_;rfl)|(simp only [tupV, *];done)
theorem newD_c0 (w:World){most:Int}(h:1≤most∧most≤16):Calls Tryd.prog 25 [.int .i64 most].toArray w (RetO (fun b=>.tuple #[ptr b,.int .i64 0]) (fun b oa=>∃ g,oa=dkB b g ⟨most,0,0,[],0⟩) w):=by
 have t1:decide (most<1)=false:=decide_eq_false (by omega)
 have t2:decide (most>16)=false:=decide_eq_false (by omega)
 clear h
 refine fn_own (N:=_) Tryd.func25 rfl Tryd.ntmps25 Tryd.results25 (by simp) ?_
 simp only [initS,Nat.reduceAdd,Nat.zero_add]
 repeat' (first|(refine wlB ?_)|(refine wlE ?_)|((with_reducible refine sel_makeMap ?_);first|(refine wl_mmap rfl rfl rfl ?_;intro n hn))|(refine efBnn ?_;intro n hn)|(refine wl_skip rfl rfl ?_)|((with_reducible refine wc_seq ?_);intro K hK)|(refine auC ?_)|(refine wc_cond rfl (fun hc=>?_) (fun hc=>?_))|(refine wc_draw (by kernel_rfl) (by kernel_rfl) (by decide +kernel) ?_;intro w0 hw0 hm0;(try simp only [List.append_eq,List.cons_append,List.nil_append]))|(refine auP ?_)|((refine auR ?_);clear hK K)|(refine auR ?_)|((with_reducible refine hK _ _ ?_);clear hK K)|fail)
 first|refine end_ret (ResP.tmp rfl (ResP.tmp rfl ResP.nil)) ?_|refine end_normal (ResP.tmp rfl (ResP.tmp rfl ResP.nil)) ?_
 (try dsimp only [tupV])
 exact ⟨_,_,rfl,⟨_,rfl⟩,SubL.refl _⟩
theorem newD_c (w:World){most:Int}(h:1≤most∧most≤16):Calls Tryd.prog 25 [.int .i64 most].toArray w (RetO (fun b=>.tuple #[ptr b,.int .i64 0]) (fun b oa=>∃ g,b≠g∧oa=dkB b g ⟨most,0,0,[],0⟩) w):=
 (newD_c0 w h).mono fun e w' ⟨x,oa,he,⟨g,ho⟩,hup⟩=>⟨x,oa,he,⟨g,by
  have:=hup.nd
  rw [ho] at this
  simpa [keys,dkB] using this,ho⟩,hup⟩
end
end Go.Proofs.YthigacbelefadaaDoor
