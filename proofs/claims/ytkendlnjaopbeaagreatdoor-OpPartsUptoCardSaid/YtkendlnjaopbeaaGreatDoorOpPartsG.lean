/- OpParts: the walk over whatever way. -/
import Derived.Test.YtkendlnjaopbeaaGreatDoorOpRunG
import Derived.Test.YtkendlnjaopbeaaGreatDoorJnAR
import Derived.Test.YtkendlnjaopbeaaGreatDoorPieces
import Derived.Test.YtkendlnjaopbeaaGreatDoorJnAH
namespace Go.Proofs.YtkendlnjaopbeaaGreatDoor
open Go.RowKit
attribute [local irreducible] rwA bys
set_option linter.unusedVariables false
set_option linter.unusedSimpArgs false
set_option maxRecDepth 100000
theorem flatP_le {qs:List (List Nat)}{q:List Nat}(h:qs.flatten=q)(i:Nat):((qs.take i).flatten).length≤q.length:=by
 have:=congrArg List.length (congrArg List.flatten (List.take_append_drop i qs))
 rw [List.flatten_append,List.length_append,h] at this
 omega
theorem Ret.toO {e:Int}{P:Program}{f:Nat}{vs:Array Value}{w:World}(h:Calls P f vs w (Ret (.tuple #[.slice none 0 0,.int .i64 e]) w)):Calls P f vs w (RetO (fun v:Value=>.tuple #[v,.int .i64 e]) (fun v oa=>CsB (Hd oa) v ([]:List Nat).length []) w):=
 h.mono fun e w3 ⟨h1,h2⟩=>⟨.slice none 0 0,[],h1,CsB.nil,Upd.of_below h2 (by simp [keys]) (by simp [keys]) (fun p hp=>by cases hp)⟩
set_option maxHeartbeats 4000000 in
theorem parts_bad (w:World)(hT:Tab w){kind e:Int}(he:(e != 0)=true){kz v2 u:Value}{m:Nat}{iv p:List Nat}(h0:Cb w kz m p)(hi:B16 iv)(NW:NewNo kind kz m p iv e) :
  Calls Tryz.prog 4 [.int .i64 kind,kz,.agg (bys iv),v2,u].toArray w (Ret (.bool true) w):=by
 have i0:=h0.old
 haveI:NBy iv 16:=⟨hi.len⟩
 have OPS:=fun w' (hb:Below w.heap.size w w')=>ops_c w' (hT.below hb)
 have RN:=fun w' (h:Cb w' kz m p)=>run_no (u:=v2) w' he h hi NW
 have ee:(e == e)=true:=by simp
 unfold NewNo at NW
 clear h0 hT
 refine fn_ret (N:=_) Tryz.func4 rfl Tryz.ntmps4 Tryz.results4 (by simp) ?_
 simp only [initS,Nat.reduceAdd,Nat.zero_add]
 repeat' (first|(refine wlS ?_)|(refine wlG ?_)|(refine wlB ?_)|(refine wlPNN ?_)|((with_reducible refine sel_call ?_);refine wl_rd rfl rfl (rd_call rfl rfl rfl (fun w hm=>by with_reducible first|exact OPS w (hm.below rfl)|exact RN w (VwB.out w hm)|exact NW w (VwB.out w hm))) ?_)|(refine wlE ?_)|(refine efSvao ?_;intro v oa ho)|(refine efBnn ?_;intro n hn)|(refine wl_skip rfl rfl ?_)|((with_reducible refine wc_seq ?_);intro K hK)|(refine auC ?_)|(refine wc_cond rfl (fun hc=>?_) (fun hc=>?_))|(refine wc_draw (by kernel_rfl) (by kernel_rfl) (by decide +kernel) ?_;intro w0 hw0 hm0;(try simp only [List.append_eq,List.cons_append,List.nil_append]))|(refine auP ?_)|((refine auR ?_);clear hK K)|(refine auR ?_)|((with_reducible refine hK _ _ ?_);clear hK K)|fail)
 first|refine end_ret (ResP.tmp rfl ResP.nil) ?_|refine end_normal (ResP.tmp rfl ResP.nil) ?_
 first|rfl|(show _=_;rfl)|(simp only [tupV, *];done)
structure PtS where
 i:Nat
 oW:Blks
 vo:Value
 oO:Blks
section
variable {t:TypeId}{St:Type}{one:Option St}{Ok:Nat→Nat→St→Blks→Prop}{up:St→List Nat→St}{out:St→List Nat→List Nat}{fin:St→List Nat×Int}{chk:St→List Nat→Int}{w:World}
set_option maxHeartbeats 16000000 in
theorem parts_go {jd:Bool}(hT:Tab w)(WC:WayC w t jd St one Ok up out fin chk){s0:St}(H:HomC s0 up out)(hone:∀ (s:St) x,one=some x→s=x){kind e:Int}{kz v2 u:Value}{m nn k:Nat}{iv p q want:List Nat}{zs:List Int}(h0:Cb w kz m p)(hi:B16 iv)(h2:Cb w v2 nn q)(h3:CsF (Old w []) u k (zs.map (Value.int .i64)))(hzl:zs.length=k)(hk:k≤1048576)
  (RUN:∀ w',Below w.heap.size w w'→Cb w' kz m p→Calls Tryz.prog 14 [.int .i64 kind,kz,.agg (bys iv),v2].toArray w' (RetO (fun v:Value=>.tuple #[v,.int .i64 e]) (fun v oa=>CsB (Hd oa) v want.length want) w'))
  (NW:NewOk w kind kz m p iv t Ok s0)
  (hc:(2048<nn∧e=2)∨(nn≤2048∧jd=true∧e=13)∨(nn≤2048∧jd=false∧((fin (up s0 q)).2 != 0)=true∧e=(fin (up s0 q)).2)∨(nn≤2048∧jd=false∧(fin (up s0 q)).2=0∧(fin (up s0 q)).1.length≤64∧e=0∧want=out s0 q++(fin (up s0 q)).1)) :
  Calls Tryz.prog 4 [.int .i64 kind,kz,.agg (bys iv),v2,u].toArray w (Ret (.bool true) w):=by
 have i0:=h0.old
 have i2:=h2.old
 haveI:NBy iv 16:=⟨hi.len⟩
 have OPS:=fun w' (hb:Below w.heap.size w w')=>ops_c w' (hT.below hb)
 have P1:∀ w',Below w.heap.size w w'→Calls Tryz.prog 15 [v2,u].toArray w' (RetO (fun x:PcS=>x.o) (fun x oa=>x.Ok w q (k+1) oa) w'):=fun w' hb=>pieces_c w w' hb h2.old h3 hzl hk
 have hql:=h2.ok.len
 have hqb:=h2.ok.by'
 unfold NewOk at NW
 clear h0
 refine fn_ret (N:=_) Tryz.func4 rfl Tryz.ntmps4 Tryz.results4 (by simp) ?_
 simp only [initS,Nat.reduceAdd,Nat.zero_add]
 repeat' (first|(refine wlS ?_)|(refine wlG ?_)|(refine wlB ?_)|(refine wlPN ?_)|((with_reducible refine sel_call ?_);refine wl_rd rfl rfl (rd_call rfl rfl rfl (fun w hm=>by with_reducible exact OPS w (hm.below rfl))) ?_)|(refine wlE ?_)|(refine efSvao ?_;intro v oa ho)|((with_reducible refine sel_call ?_);first|(refine wl_newO rfl rfl rfl rfl rfl (fun w hm=>by with_reducible exact RUN w (hm.below rfl) (VwB.out w hm)) ?_;intro x oa hx))|(refine efBnn ?_;intro n hn)|(refine wl_skip rfl rfl ?_)|((with_reducible refine wc_seq ?_);intro K hK)|(refine auC ?_)|(refine wc_cond rfl (fun hc=>?_) (fun hc=>?_))|(refine wc_draw (by kernel_rfl) (by kernel_rfl) (by decide +kernel) ?_;intro w0 hw0 hm0;(try simp only [List.append_eq,List.cons_append,List.nil_append]))|(refine auP ?_)|((refine auR ?_);clear hK K)|(refine auR ?_)|((with_reducible refine hK _ _ ?_);clear hK K)|fail)
 obtain ⟨vw0,rfl⟩:∃ a,a=x:=⟨x,rfl⟩
 obtain ⟨oQ,rfl⟩:∃ a,a=oa:=⟨oa,rfl⟩
 have hQ:=hx
 haveI:=hQ
 clear hx
 repeat' (first|(refine wlS ?_)|(refine wlG ?_)|(refine wlB ?_)|(refine wlPN ?_)|(refine wlE ?_)|(refine efSvao ?_;intro v oa ho)|((with_reducible refine sel_call ?_);first|(refine wl_newO rfl rfl rfl rfl rfl (fun w hm=>by with_reducible exact NW w (hm.below rfl) (VwB.out w hm)) ?_;intro x oa hx))|(refine efBnn ?_;intro n hn)|(refine wl_skip rfl rfl ?_)|((with_reducible refine wc_seq ?_);intro K hK)|(refine auC ?_)|(refine wc_cond rfl (fun hc=>?_) (fun hc=>?_))|(refine wc_draw (by kernel_rfl) (by kernel_rfl) (by decide +kernel) ?_;intro w0 hw0 hm0;(try simp only [List.append_eq,List.cons_append,List.nil_append]))|(refine auP ?_)|((refine auR ?_);clear hK K)|(refine auR ?_)|((with_reducible refine hK _ _ ?_);clear hK K)|fail)
 obtain ⟨b0,rfl⟩:∃ a,a=x:=⟨x,rfl⟩
 obtain ⟨g0,oW,rfl,hok⟩:=hx
 repeat' (first|(refine wlS ?_)|(refine wlG ?_)|(refine wlB ?_)|(refine wlE ?_)|(refine efSvao ?_;intro v oa ho)|((with_reducible refine sel_call ?_);first|(refine wl_newO rfl rfl rfl rfl rfl (fun w hm=>by with_reducible exact P1 w (hm.below rfl)) ?_;intro x oa hx))|(refine efBnn ?_;intro n hn)|(refine wl_skip rfl rfl ?_)|((with_reducible refine wc_seq ?_);intro K hK)|(refine auC ?_)|(refine wc_cond rfl (fun hc=>?_) (fun hc=>?_))|(refine wc_draw (by kernel_rfl) (by kernel_rfl) (by decide +kernel) ?_;intro w0 hw0 hm0;(try simp only [List.append_eq,List.cons_append,List.nil_append]))|(refine auP ?_)|((refine auR ?_);clear hK K)|(refine auR ?_)|((with_reducible refine hK _ _ ?_);clear hK K)|fail)
 obtain ⟨o,xs,qs⟩:=x
 obtain ⟨oP,rfl⟩:∃ a,a=oa:=⟨oa,rfl⟩
 obtain ⟨ho,hel,hfl,hxl⟩:=hx
 dsimp only at ho hel hfl hxl ⊢
 repeat' (first|(refine wlS ?_)|(refine wlG ?_)|(refine wlB ?_)|(refine wlE ?_)|(refine efSvao ?_;intro v oa ho)|(refine efBnn ?_;intro n hn)|(refine wl_skip rfl rfl ?_)|((with_reducible refine wc_seq ?_);intro K hK)|(refine auC ?_)|(refine wc_cond rfl (fun hc=>?_) (fun hc=>?_))|(refine wc_draw (by kernel_rfl) (by kernel_rfl) (by decide +kernel) ?_;intro w0 hw0 hm0;(try simp only [List.append_eq,List.cons_append,List.nil_append]))|(refine auP ?_)|((refine auR ?_);clear hK K)|(refine auR ?_)|((with_reducible refine hK _ _ ?_);clear hK K)|fail)
 refine wc_loop (σ:=PtS) (fun x=>[(10,.bool false),(11,vw0),(12,.int .i64 e),(13,ptr b0),(15,x.vo),(60,o),(61,.int .i64 (xs.length:Int)),(62,.int .i64 (x.i:Int))])
  (fun x=>oQ++(opB b0 t g0 ((qs.take x.i).flatten).length false::(x.oW++(oP++x.oO))))
  (fun x=>x.i≤xs.length∧((qs.take x.i).flatten).length≤2048∧Ok g0 ((qs.take x.i).flatten).length (up s0 (qs.take x.i).flatten) x.oW∧OwnB 5 x.vo (out s0 (qs.take x.i).flatten).length (out s0 (qs.take x.i).flatten) x.oO) (fun x=>xs.length - x.i)
  ⟨0,oW,.slice none 0 0,[]⟩ ⟨Nat.zero_le _,Nat.zero_le _,by dsimp only;rw [List.take_zero,List.flatten_nil,H.up0];exact hok,by dsimp only;rw [List.take_zero,List.flatten_nil,H.out0];exact inferInstance⟩ (Fits.of ⟨rfl,rfl,rfl,rfl,rfl,rfl,rfl,rfl,trivial⟩ (.skip (by dsimp only;rw [List.append_nil];exact SubL.refl _)) rfl) ?_
 clear hok
 rintro ⟨i,oW2,vo,oO⟩ ⟨hi2,hle0,hok2,hvo⟩
 dsimp only at hi2 hle0 hok2 hvo ⊢
 by_cases hlt:i<xs.length
 ·have t1:decide ((i:Int)<(xs.length:Int))=true:=decide_eq_true (by omega)
  have k1:IntKind.i64.wrap ((i:Int)+1)=((i+1:Nat):Int):=by rw [wrap_i64 _ (by omega) (by omega)];omega
  have j1:(i:Int)<(xs.length:Int):=by omega
  obtain ⟨y,q1,g1,g2,g3⟩:=hel.at hlt
  have hfl2:(qs.take (i+1)).flatten=(qs.take i).flatten++q1:=by
   rw [List.take_add_one,g2,List.flatten_append];simp
  have hle:=flatP_le hfl (i+1)
  rw [hfl2,List.length_append] at hle
  have hby:∀ x∈(qs.take i).flatten++q1,x<256:=fun x hx=>hqb x (by
   rw [←hfl,←List.take_append_drop (i+1) qs,List.flatten_append,hfl2]
   exact List.mem_append_left _ hx)
  have hout:=H.len _ hby
  have hup:=H.upA (qs.take i).flatten q1
  rw [H.outA,List.length_append,List.length_append] at hout
  have ho2:=H.outA (qs.take i).flatten q1
  repeat' (first|(refine wlS ?_)|(refine wlG ?_)|(refine wlB ?_)|(refine wlE ?_)|(refine efSvao ?_;intro v oa ho)|(refine efBnn ?_;intro n hn)|(refine wl_skip rfl rfl ?_)|((with_reducible refine wc_seq ?_);intro K hK)|(refine auC ?_)|(refine wc_cond rfl (fun hc=>?_) (fun hc=>?_))|(refine wc_draw (by kernel_rfl) (by kernel_rfl) (by decide +kernel) ?_;intro w0 hw0 hm0;(try simp only [List.append_eq,List.cons_append,List.nil_append]))|(refine auP ?_)|((refine auR ?_);clear hK K)|(refine auR ?_)|((with_reducible refine hK _ _ ?_);clear hK K)|fail)
  by_cases hL:((qs.take i).flatten).length+q1.length≤2048
  ·refine wl_updO rfl rfl rfl rfl rfl (fun w' hm' hw=>WC.upd w' (hm'.below rfl) (Mem.ndS hm') hw (Mem.freshS hm') hok2 (hone _) g3 hL) ?_
   rintro v1 oa ⟨oW3,oX,rfl,hok3,hG⟩
   simp only [List.cons_append,List.append_assoc]
   haveI:=hG.cs
   haveI:=hvo
   rw [←hup] at hok3
   have hlB:(out s0 (qs.take i).flatten).length≤2048∧(out (up s0 (qs.take i).flatten) q1).length≤2048:=by omega
   generalize hB:out (up s0 (qs.take i).flatten) q1=B at *
   generalize hA:out s0 (qs.take i).flatten=A at *
   repeat' (first|(refine wlS ?_)|(refine wlG ?_)|(refine wlB ?_)|(refine wlE ?_)|(refine efSvao ?_;intro v oa ho)|(refine efBnn ?_;intro n hn)|(refine wl_skip rfl rfl ?_)|((with_reducible refine wc_seq ?_);intro K hK)|(refine auC ?_)|(refine wc_cond rfl (fun hc=>?_) (fun hc=>?_))|(refine wc_draw (by kernel_rfl) (by kernel_rfl) (by decide +kernel) ?_;intro w0 hw0 hm0;(try simp only [List.append_eq,List.cons_append,List.nil_append]))|(refine auP ?_)|((refine auR ?_);clear hK K)|(refine auR ?_)|((with_reducible refine hK _ _ ?_);clear hK K)|fail)
   refine ⟨⟨i+1,oW3,v,oa⟩,⟨hlt,by dsimp only;rw [hfl2,List.length_append];exact hL,by dsimp only;rw [hfl2,List.length_append];exact hok3,by dsimp only;rw [hfl2,ho2,List.length_append];assumption⟩,by dsimp only;omega,Fits.of ⟨rfl,rfl,rfl,rfl,rfl,rfl,rfl,rfl,trivial⟩ ?_ rfl⟩
   dsimp only
   rw [hfl2,List.length_append]
   repeat (first|exact SubL.nil|exact SubL.refl _|refine SubL.keep ?_|exact SubL.headA _ _|refine SubL.keepA ?_ _|refine SubL.skip ?_|refine SubL.skipA ?_ _)
  ·have he2:e=2:=by
    rcases hc with ⟨_,h⟩ | ⟨h,_⟩ | ⟨h,_⟩ | ⟨h,_⟩
    ·exact h
    ·omega
    ·omega
    ·omega
   subst he2
   refine wl_updO rfl rfl rfl rfl rfl (fun w' hm' hw=>upd_large (b:=b0) (t:=t) (g:=g0) (many:=((qs.take i).flatten).length) w w' (hm'.below rfl) hw (Mem.freshS hm') g3 hle0 (by omega)) ?_
   rintro _ oa rfl
   repeat' (first|(refine wlS ?_)|(refine wlG ?_)|(refine wlB ?_)|(refine wlE ?_)|(refine efSvao ?_;intro v oa ho)|(refine efBnn ?_;intro n hn)|(refine wl_skip rfl rfl ?_)|((with_reducible refine wc_seq ?_);intro K hK)|(refine auC ?_)|(refine wc_cond rfl (fun hc=>?_) (fun hc=>?_))|(refine wc_draw (by kernel_rfl) (by kernel_rfl) (by decide +kernel) ?_;intro w0 hw0 hm0;(try simp only [List.append_eq,List.cons_append,List.nil_append]))|(refine auP ?_)|((refine auR ?_);clear hK K)|(refine auR ?_)|((with_reducible refine hK _ _ ?_);clear hK K)|fail)
   first|refine end_ret (ResP.tmp rfl ResP.nil) ?_|refine end_normal (ResP.tmp rfl ResP.nil) ?_
   first|rfl|(show _=_;rfl)|(simp only [tupV, *];done)
 ·obtain rfl:i=xs.length:=by omega
  have hel2:=hel.len
  have t1:decide ((xs.length:Int)<(xs.length:Int))=false:=decide_eq_false (by omega)
  rw [List.take_of_length_le (Nat.le_of_eq hel2),hfl] at hok2 hvo hle0
  rw [List.take_of_length_le (Nat.le_of_eq hel2),hfl]
  have hAl:=H.len q hqb
  rcases hc with ⟨h,_⟩ | ⟨h,rfl,rfl⟩ | ⟨h,rfl,he,rfl⟩ | ⟨h,rfl,he,hl,rfl,rfl⟩
  ·omega
  ·have FJ:=fun w' hd (r:Int)=>fin_judge (b:=b0) (many:=q.length) (WC.asr g0) w' hd r
   repeat' (first|(refine wlS ?_)|(refine wlG ?_)|(refine wlB ?_)|((with_reducible refine sel_call ?_);refine wl_rd rfl rfl (rd_call rfl rfl rfl (fun w hm=>by with_reducible exact FJ w (Mem.hd hm) _)) ?_)|(refine wlE ?_)|(refine efSvao ?_;intro v oa ho)|(refine efBnn ?_;intro n hn)|(refine wl_skip rfl rfl ?_)|((with_reducible refine wc_seq ?_);intro K hK)|(refine auC ?_)|(refine wc_cond rfl (fun hc=>?_) (fun hc=>?_))|(refine wc_draw (by kernel_rfl) (by kernel_rfl) (by decide +kernel) ?_;intro w0 hw0 hm0;(try simp only [List.append_eq,List.cons_append,List.nil_append]))|(refine auP ?_)|((refine auR ?_);clear hK K)|(refine auR ?_)|((with_reducible refine hK _ _ ?_);clear hK K)|fail)
   first|refine end_ret (ResP.tmp rfl ResP.nil) ?_|refine end_normal (ResP.tmp rfl ResP.nil) ?_
   first|rfl|(show _=_;rfl)|(simp only [tupV, *];done)
  ·have ee:((fin (up s0 q)).2 == (fin (up s0 q)).2)=true:=by simp
   repeat' (first|(refine wlS ?_)|(refine wlG ?_)|(refine wlB ?_)|(refine wlE ?_)|(refine efSvao ?_;intro v oa ho)|(refine efBnn ?_;intro n hn)|(refine wl_skip rfl rfl ?_)|((with_reducible refine wc_seq ?_);intro K hK)|(refine auC ?_)|(refine wc_cond rfl (fun hc=>?_) (fun hc=>?_))|(refine wc_draw (by kernel_rfl) (by kernel_rfl) (by decide +kernel) ?_;intro w0 hw0 hm0;(try simp only [List.append_eq,List.cons_append,List.nil_append]))|(refine auP ?_)|((refine auR ?_);clear hK K)|(refine auR ?_)|((with_reducible refine hK _ _ ?_);clear hK K)|fail)
   refine wl_updO rfl rfl rfl rfl rfl (fun w' hm' hw=>WC.finE w' (hm'.below rfl) (Mem.ndS hm') hw (Mem.freshS hm') hok2 he) ?_
   rintro _ oa rfl
   repeat' (first|(refine wlS ?_)|(refine wlG ?_)|(refine wlB ?_)|(refine wlE ?_)|(refine efSvao ?_;intro v oa ho)|(refine efBnn ?_;intro n hn)|(refine wl_skip rfl rfl ?_)|((with_reducible refine wc_seq ?_);intro K hK)|(refine auC ?_)|(refine wc_cond rfl (fun hc=>?_) (fun hc=>?_))|(refine wc_draw (by kernel_rfl) (by kernel_rfl) (by decide +kernel) ?_;intro w0 hw0 hm0;(try simp only [List.append_eq,List.cons_append,List.nil_append]))|(refine auP ?_)|((refine auR ?_);clear hK K)|(refine auR ?_)|((with_reducible refine hK _ _ ?_);clear hK K)|fail)
   first|refine end_ret (ResP.tmp rfl ResP.nil) ?_|refine end_normal (ResP.tmp rfl ResP.nil) ?_
   first|rfl|(show _=_;rfl)|(simp only [tupV, *];done)
  ·skip
   repeat' (first|(refine wlS ?_)|(refine wlG ?_)|(refine wlB ?_)|(refine wlE ?_)|(refine efSvao ?_;intro v oa ho)|(refine efBnn ?_;intro n hn)|(refine wl_skip rfl rfl ?_)|((with_reducible refine wc_seq ?_);intro K hK)|(refine auC ?_)|(refine wc_cond rfl (fun hc=>?_) (fun hc=>?_))|(refine wc_draw (by kernel_rfl) (by kernel_rfl) (by decide +kernel) ?_;intro w0 hw0 hm0;(try simp only [List.append_eq,List.cons_append,List.nil_append]))|(refine auP ?_)|((refine auR ?_);clear hK K)|(refine auR ?_)|((with_reducible refine hK _ _ ?_);clear hK K)|fail)
   refine wl_updO rfl rfl rfl rfl rfl (fun w' hm' hw=>WC.finO w' (hm'.below rfl) (Mem.ndS hm') hw (Mem.freshS hm') hok2 he (by decide) (by omega)) ?_
   rintro v5 oa ⟨oF,rfl,hv5⟩
   simp only [List.cons_append,List.append_assoc]
   haveI:=hv5
   haveI:=hvo
   have qq:(out s0 q++(fin (up s0 q)).1 == out s0 q++(fin (up s0 q)).1)=true:=by simp
   have ll:(((fin (up s0 q)).1.length:Int) == ((fin (up s0 q)).1.length:Int))=true:=by simp
   have hAl2:(out s0 q).length≤2048:=by omega
   generalize (fin (up s0 q)).1=F at *
   generalize out s0 q=A at *
   repeat' (first|(refine wlS ?_)|(refine wlG ?_)|(refine wlB ?_)|((with_reducible refine sel_call ?_);refine wl_rd rfl rfl (rd_call rfl rfl rfl (fun w hm=>by with_reducible exact beq_r w (VwB.out w hm) (VwB.out w hm) (by with_reducible assumption))) ?_)|(refine wlE ?_)|(refine efSvao ?_;intro v oa ho)|(refine efBnn ?_;intro n hn)|(refine wl_skip rfl rfl ?_)|((with_reducible refine wc_seq ?_);intro K hK)|(refine auC ?_)|(refine wc_cond rfl (fun hc=>?_) (fun hc=>?_))|(refine wc_draw (by kernel_rfl) (by kernel_rfl) (by decide +kernel) ?_;intro w0 hw0 hm0;(try simp only [List.append_eq,List.cons_append,List.nil_append]))|(refine auP ?_)|((refine auR ?_);clear hK K)|(refine auR ?_)|((with_reducible refine hK _ _ ?_);clear hK K)|fail)
   first|refine end_ret (ResP.tmp rfl ResP.nil) ?_|refine end_normal (ResP.tmp rfl ResP.nil) ?_
   first|rfl|(show _=_;rfl)|(simp only [tupV, *];done)
end
end Go.Proofs.YtkendlnjaopbeaaGreatDoor
