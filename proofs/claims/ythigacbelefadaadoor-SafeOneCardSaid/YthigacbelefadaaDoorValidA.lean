/- rule.Valid,walked. -/
import Derived.Test.YthigacbelefadaaDoorSound
import Derived.Test.YthigacbelefadaaDoorJnAF
namespace Go.Proofs.YthigacbelefadaaDoor
open Go.RowKit
set_option linter.unusedVariables false
set_option linter.unusedSimpArgs false
set_option maxRecDepth 100000
theorem kinds_len (c:Nat):(kindsA c).length≤18:=by
 unfold kindsA upK
 repeat' split
 all_goals simp
set_option maxHeartbeats 8000000 in
theorem valid_c (w:World){v:Value}{l:List Att}{r:Bool}(h:Ats w v l)(hk:AbOk (abs l))(hr:validB (abs l)=r):Calls Tryd.prog 23 [v].toArray w (Ret (.bool r) w):=by
 haveI i0:=h.old
 haveI i1:=h.cs.old
 have CO:=fun w' (h:Ats w' v l)=>class_c w' h hk
 have KD:=fun w'=>kinds_c w' (clsA (abs l))
 have CK:=fun w' (h:Ats w' v l)=>(show Calls Tryd.prog 40 [v].toArray w' (Ret (.int .i64 0) w') by
  have:=check_a w' h
  rwa [chkA_zero.2 hk] at this)
 have hlen:l.length≤24:=by have:=hk.len;rwa [abs_len] at this
 have hone:=ats_one h
 obtain ⟨s,hs⟩:∃ s,soundB (abs l)=s:=⟨_,rfl⟩
 have SN:=fun w' (h:Ats w' v l)=>sound_c w' h hs
 obtain ⟨z,hz⟩:∃ z,sizedB (clsA (abs l)) (valN (abs l))=z:=⟨_,rfl⟩
 have SZ:=fun w'=>(show Calls Tryd.prog 42 [.int .u8 (clsA (abs l):Int),.int .i64 (valN (abs l):Int)].toArray w' (Ret (.bool z) w') by
  rw [←hz]
  refine sized_c w' _ _ ?_
  unfold valN
  cases hg:getA (abs l) 4 with
  | none=>simp
  | some q=>
   have:=fitsB_le (hk.each _ ((getA_mem hk.nd).1 hg)).2.2
   dsimp only at this
   show q.length≤1048576
   omega)
 have t0:((0:Int) != 0)=false:=rfl
 have hmap:(abs l).map (·.1)=l.map (·.1):=by simp [abs]
 have hvb:validB (abs l)=((l.map (·.1) == kindsA (clsA (abs l))) && !(abs l).isEmpty && z && s):=by rw [validB,hmap,hz,hs]
 rw [hvb] at hr
 have hKl:=kinds_len (clsA (abs l))
 have GN:=fun (hg:getA (abs l) 4=none) w' (h:Ats w' v l)=>get_no w' h hg
 have GY:=fun {q:List Nat} (hg:getA (abs l) 4=some q) w' (h:Ats w' v l)=>get_yesA w' h hk hg
 obtain ⟨n4,hn4⟩:∃ n,n=valN (abs l):=⟨_,rfl⟩
 rw [←hn4] at SZ
 clear h hs hz hvb hmap
 generalize hC:clsA (abs l)=C at *
 generalize hKK:kindsA C=KL at *
 by_cases hll:l.length=KL.length
 ·have t1:((l.length:Int) != (KL.length:Int))=false:=by rw [hll];simp
  by_cases h0:l.length=0
  ·have t2:((l.length:Int) == 0)=true:=by rw [h0];rfl
   obtain rfl:r=false:=by
    obtain rfl:l=[]:=List.eq_nil_of_length_eq_zero h0
    rw [←hr];simp [abs]
   clear SN SZ GN GY hr
   refine fn_ret (N:=_) Tryd.func23 rfl Tryd.ntmps23 Tryd.results23 (by simp) ?_
   simp only [initS,Nat.reduceAdd,Nat.zero_add]
   repeat' (first|(refine wlS ?_)|(refine wlB ?_)|((with_reducible refine sel_call ?_);refine wl_rd rfl rfl (rd_call rfl rfl rfl (fun w hm=>by with_reducible first|exact CO w (VwT.out w hm)|exact CK w (VwT.out w hm))) ?_)|(refine wlE ?_)|(refine efSvao ?_;intro v oa ho)|((with_reducible refine sel_call ?_);first|(refine wl_newO rfl rfl rfl rfl rfl (fun w hm=>by with_reducible exact KD w) ?_;intro x oa hx))|(refine efBnn ?_;intro n hn)|(refine efB ?_)|(refine efBS ?_)|(refine wl_skip rfl rfl ?_)|(refine wdS ?_)|(refine wdV ?_)|(refine wdB ?_)|(refine wd_skip rfl rfl ?_)|((with_reducible refine seld_nil ?_);refine wd_nil hm0 ?_;clear hm0 hw0)|((with_reducible refine wc_seq ?_);intro K hK)|(refine auC ?_)|(refine wc_cond rfl (fun hc=>?_) (fun hc=>?_))|(refine wc_draw (by kernel_rfl) (by kernel_rfl) (by decide +kernel) ?_;intro w0 hw0 hm0;(try simp only [List.append_eq,List.cons_append,List.nil_append]))|(refine auP ?_)|((refine auR ?_);clear hK K)|(refine auR ?_)|((with_reducible refine hK _ _ ?_);clear hK K)|fail)
   first|refine end_ret (ResP.tmp rfl ResP.nil) ?_|refine end_normal (ResP.tmp rfl ResP.nil) ?_
   first|rfl|(show _=_;rfl)|(simp only [tupV, *];done)
  have t2:((l.length:Int) == 0)=false:=by simp only [beq_eq_false_iff_ne,ne_eq];omega
  have hne:(abs l).isEmpty=false:=by
   cases l with
   | nil=>exact absurd rfl h0
   | cons=>rfl
  rw [hne] at hr
  refine fn_ret (N:=_) Tryd.func23 rfl Tryd.ntmps23 Tryd.results23 (by simp) ?_
  simp only [initS,Nat.reduceAdd,Nat.zero_add]
  repeat' (first|(refine wlS ?_)|(refine wlB ?_)|((with_reducible refine sel_call ?_);refine wl_rd rfl rfl (rd_call rfl rfl rfl (fun w hm=>by with_reducible first|exact CO w (VwT.out w hm)|exact CK w (VwT.out w hm))) ?_)|(refine wlE ?_)|(refine efSvao ?_;intro v oa ho)|((with_reducible refine sel_call ?_);first|(refine wl_newO rfl rfl rfl rfl rfl (fun w hm=>by with_reducible exact KD w) ?_;intro x oa hx))|(refine efBnn ?_;intro n hn)|(refine efB ?_)|(refine efBS ?_)|(refine wl_skip rfl rfl ?_)|(refine wdS ?_)|(refine wdV ?_)|(refine wdB ?_)|(refine wd_skip rfl rfl ?_)|((with_reducible refine seld_nil ?_);refine wd_nil hm0 ?_;clear hm0 hw0)|((with_reducible refine wc_seq ?_);intro K hK)|(refine auC ?_)|(refine wc_cond rfl (fun hc=>?_) (fun hc=>?_))|(refine wc_draw (by kernel_rfl) (by kernel_rfl) (by decide +kernel) ?_;intro w0 hw0 hm0;(try simp only [List.append_eq,List.cons_append,List.nil_append]))|(refine auP ?_)|((refine auR ?_);clear hK K)|(refine auR ?_)|((with_reducible refine hK _ _ ?_);clear hK K)|fail)
  obtain ⟨u,rfl⟩:∃ u,u=x:=⟨x,rfl⟩
  refine wc_loop (σ:=Nat) (fun i=>[(0,v),(3,.int .u8 (C:Int)),(4,u),(28,v),(29,.int .i64 (l.length:Int)),(30,.int .i64 (i:Int))]) (fun _=>oa) (fun i=>i≤l.length∧(l.map (·.1)).take i=KL.take i) (fun i=>l.length - i) 0 ⟨Nat.zero_le _,rfl⟩ (Fits.of ⟨rfl,rfl,rfl,rfl,rfl,rfl,trivial⟩ (SubL.refl _) rfl) ?_
  clear CO KD CK
  rintro i ⟨hi,htk⟩
  by_cases hlt:i<l.length
  ·obtain ⟨⟨k,bv,p⟩,hlx⟩:∃ x,l[i]? = some x:=⟨l[i]'(by omega),List.getElem?_eq_getElem _⟩
   obtain ⟨m,hmx⟩:∃ m,KL[i]? = some m:=⟨KL[i]'(by omega),List.getElem?_eq_getElem _⟩
   have hget:=atsC_get hlx
   have hgm:=ksC_get hmx
   haveI:One bv:=⟨hone _ (List.mem_of_getElem? hlx)⟩
   dsimp only at hget
   have u1:decide ((i:Int)<(l.length:Int))=true:=decide_eq_true (by omega)
   have u2:IntKind.i64.wrap ((i:Int)+1)=((i+1:Nat):Int):=by rw [wrap_i64 _ (by omega) (by omega)];omega
   have j1:(i:Int)<(l.length:Int):=by omega
   have j2:(i:Int)<(KL.length:Int):=by omega
   have hlm:(l.map (·.1))[i]? = some k:=by simp [hlx]
   by_cases hkm:k=m
   ·subst hkm
    have u3:(k != k)=false:=by simp
    have htk1:(l.map (·.1)).take (i+1)=KL.take (i+1):=by rw [List.take_add_one,List.take_add_one,htk,hlm,hmx]
    clear SN SZ GN GY hr
    repeat' (first|(refine wlS ?_)|(refine wlB ?_)|(refine wlE ?_)|(refine efSvao ?_;intro v oa ho)|(refine efZCnn ?_;intro n hn)|(refine efBnn ?_;intro n hn)|(refine efB ?_)|(refine efBS ?_)|(refine wl_skip rfl rfl ?_)|(refine wdS ?_)|(refine wdV ?_)|(refine wdB ?_)|(refine wd_skip rfl rfl ?_)|((with_reducible refine seld_nil ?_);refine wd_nil hm0 ?_;clear hm0 hw0)|((with_reducible refine wc_seq ?_);intro K hK)|(refine auC ?_)|(refine wc_cond rfl (fun hc=>?_) (fun hc=>?_))|(refine wc_draw (by kernel_rfl) (by kernel_rfl) (by decide +kernel) ?_;intro w0 hw0 hm0;(try simp only [List.append_eq,List.cons_append,List.nil_append]))|(refine auP ?_)|((refine auR ?_);clear hK K)|(refine auR ?_)|((with_reducible refine hK _ _ ?_);clear hK K)|fail)
    refine ⟨i+1,⟨hlt,htk1⟩,by omega,Fits.of ⟨rfl,rfl,rfl,rfl,rfl,rfl,trivial⟩ ?_ rfl⟩
    repeat (first|exact SubL.nil|exact SubL.refl _|refine SubL.keep ?_|exact SubL.headA _ _|refine SubL.keepA ?_ _|refine SubL.skip ?_|refine SubL.skipA ?_ _)
   ·have u3:(k != m)=true:=by simpa using hkm
    obtain rfl:r=false:=by
     rw [←hr,show (l.map (·.1) == KL)=false by
      rw [beq_eq_false_iff_ne]
      intro e
      rw [e,hmx] at hlm
      injection hlm with hlm;omega]
     rfl
    clear SN SZ GN GY hr
    repeat' (first|(refine wlS ?_)|(refine wlB ?_)|(refine wlE ?_)|(refine efSvao ?_;intro v oa ho)|(refine efZCnn ?_;intro n hn)|(refine efBnn ?_;intro n hn)|(refine efB ?_)|(refine efBS ?_)|(refine wl_skip rfl rfl ?_)|(refine wdS ?_)|(refine wdV ?_)|(refine wdB ?_)|(refine wd_skip rfl rfl ?_)|((with_reducible refine seld_nil ?_);refine wd_nil hm0 ?_;clear hm0 hw0)|((with_reducible refine wc_seq ?_);intro K hK)|(refine auC ?_)|(refine wc_cond rfl (fun hc=>?_) (fun hc=>?_))|(refine wc_draw (by kernel_rfl) (by kernel_rfl) (by decide +kernel) ?_;intro w0 hw0 hm0;(try simp only [List.append_eq,List.cons_append,List.nil_append]))|(refine auP ?_)|((refine auR ?_);clear hK K)|(refine auR ?_)|((with_reducible refine hK _ _ ?_);clear hK K)|fail)
    first|refine end_ret (ResP.tmp rfl ResP.nil) ?_|refine end_normal (ResP.tmp rfl ResP.nil) ?_
    first|rfl|(show _=_;rfl)|(simp only [tupV, *];done)
  ·obtain rfl:i=l.length:=by omega
   have u1:decide ((l.length:Int)<(l.length:Int))=false:=decide_eq_false (by omega)
   have hKe:(l.map (·.1) == KL)=true:=by
    rw [beq_iff_eq]
    rw [List.take_of_length_le (by simp),hll,List.take_length] at htk
    exact htk
   rw [hKe] at hr
   cases hg:getA (abs l) 4 with
   | none=>
    have GN1:=GN hg
    have h4:n4=0:=by rw [hn4,valN,hg];rfl
    subst h4
    clear GN GY
    subst hr
    clear hn4
    cases z <;> cases s
    all_goals (
     repeat' (first|(refine wlS ?_)|(refine wlB ?_)|((with_reducible refine sel_call ?_);refine wl_rd rfl rfl (rd_call rfl rfl rfl (fun w hm=>by with_reducible first|exact GN1 w (VwT.out w hm)|exact SZ w|exact SN w (VwT.out w hm))) ?_)|(refine wlE ?_)|(refine efSvao ?_;intro v oa ho)|(refine efBnn ?_;intro n hn)|(refine efB ?_)|(refine efBS ?_)|(refine wl_skip rfl rfl ?_)|(refine wdS ?_)|(refine wdV ?_)|(refine wdB ?_)|(refine wd_skip rfl rfl ?_)|((with_reducible refine seld_nil ?_);refine wd_nil hm0 ?_;clear hm0 hw0)|((with_reducible refine wc_seq ?_);intro K hK)|(refine auC ?_)|(refine wc_cond rfl (fun hc=>?_) (fun hc=>?_))|(refine wc_draw (by kernel_rfl) (by kernel_rfl) (by decide +kernel) ?_;intro w0 hw0 hm0;(try simp only [List.append_eq,List.cons_append,List.nil_append]))|(refine auP ?_)|((refine auR ?_);clear hK K)|(refine auR ?_)|((with_reducible refine hK _ _ ?_);clear hK K)|fail))
    all_goals (
     first|refine end_ret (ResP.tmp rfl ResP.nil) ?_|refine end_normal (ResP.tmp rfl ResP.nil) ?_
     first|rfl|(show _=_;rfl)|(simp only [tupV, *];done))
   | some q=>
    have GY1:=fun w' h=>GY hg w' h
    have h4:n4=q.length:=by rw [hn4,valN,hg];rfl
    subst h4
    clear GN GY
    subst hr
    clear hn4
    cases z <;> cases s
    all_goals (
     repeat' (first|(refine wlS ?_)|(refine wlB ?_)|((with_reducible refine sel_call ?_);refine wl_rd rfl rfl (rd_call rfl rfl rfl (fun w hm=>by with_reducible first|exact SZ w|exact SN w (VwT.out w hm))) ?_)|(refine wlE ?_)|(refine efSvao ?_;intro v oa ho)|((with_reducible refine sel_call ?_);first|(refine wl_newO rfl rfl rfl rfl rfl (fun w hm=>by with_reducible exact GY1 w (VwT.out w hm)) ?_;intro x oa hx))|(refine efBnn ?_;intro n hn)|(refine efB ?_)|(refine efBS ?_)|(refine wl_skip rfl rfl ?_)|(refine wdS ?_)|(refine wdV ?_)|(refine wdB ?_)|(refine wd_skip rfl rfl ?_)|((with_reducible refine seld_nil ?_);refine wd_nil hm0 ?_;clear hm0 hw0)|((with_reducible refine wc_seq ?_);intro K hK)|(refine auC ?_)|(refine wc_cond rfl (fun hc=>?_) (fun hc=>?_))|(refine wc_draw (by kernel_rfl) (by kernel_rfl) (by decide +kernel) ?_;intro w0 hw0 hm0;(try simp only [List.append_eq,List.cons_append,List.nil_append]))|(refine auP ?_)|((refine auR ?_);clear hK K)|(refine auR ?_)|((with_reducible refine hK _ _ ?_);clear hK K)|fail))
    all_goals (
     first|refine end_ret (ResP.tmp rfl ResP.nil) ?_|refine end_normal (ResP.tmp rfl ResP.nil) ?_
     first|rfl|(show _=_;rfl)|(simp only [tupV, *];done))
 ·have t1:((l.length:Int) != (KL.length:Int))=true:=by simp only [bne_iff_ne,ne_eq];omega
  obtain rfl:r=false:=by
   rw [←hr,show (l.map (·.1) == KL)=false by
    rw [beq_eq_false_iff_ne]
    intro e
    have:=congrArg List.length e
    rw [List.length_map] at this
    exact hll this]
   rfl
  clear SN SZ GN GY hr
  refine fn_ret (N:=_) Tryd.func23 rfl Tryd.ntmps23 Tryd.results23 (by simp) ?_
  simp only [initS,Nat.reduceAdd,Nat.zero_add]
  repeat' (first|(refine wlS ?_)|(refine wlB ?_)|((with_reducible refine sel_call ?_);refine wl_rd rfl rfl (rd_call rfl rfl rfl (fun w hm=>by with_reducible first|exact CO w (VwT.out w hm)|exact CK w (VwT.out w hm))) ?_)|(refine wlE ?_)|(refine efSvao ?_;intro v oa ho)|((with_reducible refine sel_call ?_);first|(refine wl_newO rfl rfl rfl rfl rfl (fun w hm=>by with_reducible exact KD w) ?_;intro x oa hx))|(refine efBnn ?_;intro n hn)|(refine efB ?_)|(refine efBS ?_)|(refine wl_skip rfl rfl ?_)|(refine wdS ?_)|(refine wdV ?_)|(refine wdB ?_)|(refine wd_skip rfl rfl ?_)|((with_reducible refine seld_nil ?_);refine wd_nil hm0 ?_;clear hm0 hw0)|((with_reducible refine wc_seq ?_);intro K hK)|(refine auC ?_)|(refine wc_cond rfl (fun hc=>?_) (fun hc=>?_))|(refine wc_draw (by kernel_rfl) (by kernel_rfl) (by decide +kernel) ?_;intro w0 hw0 hm0;(try simp only [List.append_eq,List.cons_append,List.nil_append]))|(refine auP ?_)|((refine auR ?_);clear hK K)|(refine auR ?_)|((with_reducible refine hK _ _ ?_);clear hK K)|fail)
  first|refine end_ret (ResP.tmp rfl ResP.nil) ?_|refine end_normal (ResP.tmp rfl ResP.nil) ?_
  first|rfl|(show _=_;rfl)|(simp only [tupV, *];done)
end Go.Proofs.YthigacbelefadaaDoor
