/- The package op,walked: the ends of streams and sealers;blocks that are seen and stay. -/
import Derived.Test.YtkendlnjaopbeaaGreatDoorOpS
namespace Go.Proofs.YtkendlnjaopbeaaGreatDoor
open Go.RowKit
attribute [local irreducible] rwA bys
set_option linter.unusedVariables false
set_option linter.unusedSimpArgs false
set_option maxRecDepth 100000
theorem Upd.seen {w w':World}{oa oX:Blks}(hd:Hd oa w)(h:Upd w oa w' (oa++oX)):Upd w [] w' oX:=by
 have hnd:=h.nd
 rw [keys_app,List.nodup_append] at hnd
 refine ⟨h.os,h.tape,h.output,h.size,fun k hk _=>?_,hnd.2.1,fun p hp=>h.now p (List.mem_append_right _ hp),fun n hn=>?_⟩
 ·by_cases hin:k∈keys oa
  ·obtain ⟨p,hp,rfl⟩:=List.mem_map.1 hin
   exact (h.now p (List.mem_append_left _ hp)).trans (hd p hp).symm
  ·exact h.old k hk hin
 ·rcases h.fresh n (by rw [keys_app];exact List.mem_append_right _ hn) with h1|h1
  ·exact absurd rfl (hnd.2.2 n h1 n hn)
  ·exact .inr h1
theorem RetU.seen {T:Type}{mk:T→Value}{oa:Blks}{Φ:T→Blks→Prop}{P:Program}{f:Nat}{vs:Array Value}{w:World}(hd:Hd oa w)(h:Calls P f vs w (RetU mk oa (fun x ob=>∃ oX,ob=oa++oX∧Φ x oX) w)):Calls P f vs w (RetO mk Φ w):=
 h.mono fun e w2 ⟨x,ob,h1,⟨oX,h2,h3⟩,h4⟩=>⟨x,oX,h1,h3,Upd.seen hd (by rw [←h2];exact h4)⟩
set_option maxHeartbeats 4000000 in
theorem st_end (w:World)(g:Nat):Calls Tryz.prog 113 [ptr g].toArray w (Ret (.tuple #[.slice none 0 0,.int .i64 0]) w):=by
 refine fn_ret (N:=_) Tryz.func113 rfl Tryz.ntmps113 Tryz.results113 (by simp) ?_
 simp only [initS,Nat.reduceAdd,Nat.zero_add]
 repeat' (first|(refine wlB ?_)|(refine wl_skip rfl rfl ?_)|((with_reducible refine wc_seq ?_);intro K hK)|(refine auC ?_)|(refine wc_cond rfl (fun hc=>?_) (fun hc=>?_))|(refine wc_draw (by kernel_rfl) (by kernel_rfl) (by decide +kernel) ?_;intro w0 hw0 hm0;(try simp only [List.append_eq,List.cons_append,List.nil_append]))|(refine auP ?_)|((refine auR ?_);clear hK K)|(refine auR ?_)|((with_reducible refine hK _ _ ?_);clear hK K)|fail)
 first|refine end_ret (ResP.tmp rfl (ResP.tmp rfl ResP.nil)) ?_|refine end_normal (ResP.tmp rfl (ResP.tmp rfl ResP.nil)) ?_
 first|rfl|(show _=_;rfl)|(simp only [tupV, *];done)
set_option maxHeartbeats 8000000 in
theorem se_end (w:World){g k:Nat}{W iv L:List Nat}{R:Nat}{lv:Value}{oo:Blks}[hkk:AKey W](hR:R≤14)(hi:B16 iv)(ho:OwnB 5 lv k L oo)(hk:k<16)
  (nd:(keys ((g,(rwA (sgSe W R iv lv),109))::oo)).Nodup) (hd:Hd ((g,(rwA (sgSe W R iv lv),109))::oo) w) :
  Calls Tryz.prog 122 [ptr g].toArray w (RetO (fun v:Value=>.tuple #[v,.int .i64 0]) (fun v oa=>OwnB 5 v 16 (cflat (encL W R) iv (padP L) 1) oa) w):=by
 refine RetU.seen hd ?_
 have ed:=edok hkk.ok R
 have EN:∀ b,B16 b→∀ w,Calls Tryz.prog 116 [kv W R,.agg (bys b)].toArray w (Ret (.agg (bys (encL W R b))) w):=fun b hb w=>enc_c w hR hb
 haveI:NBy iv 16:=⟨hi.len⟩
 haveI:One lv:=⟨by obtain ⟨_,_,rfl,_⟩:=ho.own.ln.out;rfl⟩
 haveI:SgOk (sgSe W R iv lv):=inferInstance
 have SE:∀ {u:Value} w'',Cb w'' u k L→Calls Tryz.prog 124 [kv W R,.agg (bys iv),u].toArray w'' (RetO (fun v=>v) (fun v oa=>OwnB 5 v 16 (cflat (encL W R) iv (padP L) 1) oa) w''):=fun w'' h=>by
  have:=seal_c w'' ed EN hi (by omega) h
  rwa [show k / 16=0 by omega] at this
 clear EN ed
 generalize cflat (encL W R) iv (padP L) 1=C at *
 refine fn_upd (N:=_) Tryz.func122 rfl Tryz.ntmps122 Tryz.results122 (by simp) nd hd ?_
 simp only [initS,Nat.reduceAdd,Nat.zero_add]
 repeat' (first|(refine wlS ?_)|(refine wlG ?_)|(refine wlB ?_)|(refine wlE ?_)|(refine efSvao ?_;intro v oa ho)|((with_reducible refine sel_call ?_);first|(refine wl_newO rfl rfl rfl rfl rfl (fun w hm=>by with_reducible exact SE w (VwB.out w hm)) ?_;intro x oa hx))|(refine wl_skip rfl rfl ?_)|((with_reducible refine wc_seq ?_);intro K hK)|(refine auC ?_)|(refine wc_cond rfl (fun hc=>?_) (fun hc=>?_))|((with_reducible refine wc_drawT (by kernel_rfl) ?_);(try simp only [List.append_eq,List.cons_append,List.nil_append,List.length_cons,List.length_nil,Nat.reduceAdd]))|((with_reducible refine sel_wh ?_);(refine wh_if (by decide +kernel) ?_);first|(refine wh_take (lq:=[]) rfl rfl rfl rfl (by first|exact rvS|exact rvG|exact rvB|exact rvE) (Or.inl rfl) ?_)|(refine wh_takeL rfl rfl rfl rfl (by first|exact rvS|exact rvG|exact rvB|exact rvE) (by decide +kernel) ?_))|(refine whS ?_;intro v hv hp)|((with_reducible refine sel_wh ?_);first|(refine wh_pass rfl rfl rfl rfl ?_)|(refine wh_done rfl ?_)|(refine wh_all rfl ?_))|((with_reducible refine sel_rest ?_);first|exact rest_nil rfl|refine rest_cons rfl rfl ?_ ?_)|((with_reducible refine sel_nx ?_);first|refine next_of ?_|refine next_late (by decide +kernel) ?_)|(refine auP ?_)|((refine auR ?_);clear hK K)|(refine auR ?_)|((with_reducible refine hK _ _ ?_);clear hK K)|fail)
 first|refine end_ret (ResP.tmp rfl (ResP.tmp rfl ResP.nil)) ?_|refine end_normal (ResP.tmp rfl (ResP.tmp rfl ResP.nil)) ?_
 (try dsimp only [tupV])
 exact ⟨_,_,rfl,⟨_,rfl,hx⟩,SubL.refl _⟩
end Go.Proofs.YtkendlnjaopbeaaGreatDoor
