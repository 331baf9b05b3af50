/- The package op,walked: what is new,for streams,sealers,openers. -/
import Derived.Test.YtkendlnjaopbeaaGreatDoorOpO
namespace Go.Proofs.YtkendlnjaopbeaaGreatDoor
open Go.RowKit
attribute [local irreducible] rwA bys
set_option linter.unusedVariables false
set_option linter.unusedSimpArgs false
set_option maxRecDepth 100000
theorem way_nil {t:TypeId}{v:Value}(w:World):(Op.equalIn 10000 54 (.iface t v) .nilIface).run Tryz.prog w=.ok false w:=by
 rw [show (10000:Nat)=9999+1 from rfl,Op.equalIn,Sem.run_bind,run_underlying Tryz.underlying54]
 rfl
theorem way_nil2 (w:World):(Op.equalIn 10000 54 .nilIface .nilIface).run Tryz.prog w=.ok true w:=by
 rw [show (10000:Nat)=9999+1 from rfl,Op.equalIn,Sem.run_bind,run_underlying Tryz.underlying54]
 rfl
section
variable {X:Cx}{s:Slots}{l:Blks}{o:Oper}
theorem rd_eqlI {t yt t':Nat}{x y:Operand}{u v:Value}{r:Bool}(ho:o.op=.binOp .eql t x y yt)(hx:val s x=some (.iface t' u))(hy:val s y=some v)
  (q:∀ w:World,(Op.equalIn 10000 t (.iface t' u) v).run X.P w=.ok r w:=by first|exact way_nil|exact way_nil2):RdV X s l o (.bool r):=
 rd_val fun e w he hm=>by
  simp only [execOp,ho,he.eval hx,he.eval hy,eqGuard]
  simp [run_eql w rfl (q w)]
end
instance sp_seal:SP Tryz.prog 109 [(0,241),(241,16),(257,1)]:=⟨by kernel_rfl⟩
instance sp_opn:SP Tryz.prog 111 [(0,241),(241,16),(257,1)]:=⟨by kernel_rfl⟩
instance sp_strm:SP Tryz.prog 106 [(0,241),(241,16),(257,1)]:=⟨by kernel_rfl⟩
theorem z240:∀ x∈List.replicate 240 0,x<256:=fun x hx=>by rw [(List.mem_replicate.1 hx).2];decide
instance key_zero:AKey (List.replicate 240 0):=⟨by simp,z240⟩
instance zg_seal:ZG Tryz.prog 109 (sgSe (List.replicate 240 0) 0 (List.replicate 16 0) (.slice none 0 0)):=⟨by kernel_rfl,inferInstance⟩
instance zg_opn:ZG Tryz.prog 111 (sgSe (List.replicate 240 0) 0 (List.replicate 16 0) (.slice none 0 0)):=⟨by kernel_rfl,inferInstance⟩
instance zg_strm:ZG Tryz.prog 106 (sgSt (List.replicate 240 0) 0 (List.replicate 16 0) 0):=⟨by kernel_rfl,inferInstance⟩
set_option maxHeartbeats 4000000 in
theorem way_se (w:World){v:Value}{n:Nat}{p:List Nat}(hp:Cb w v n p){W iv:List Nat}{R:Nat}[hkk:AKey W](hi:B16 iv)(EX:∀ w',Cb w' v n p→Calls Tryz.prog 25 [v].toArray w' (Ret (.tuple #[kv W R,.int .i64 0]) w')) :
  Calls Tryz.prog 18 [.int .i64 7,v,.agg (bys iv)].toArray w (RetO (fun g:Nat=>.iface 107 (ptr g)) (fun g oa=>oa=[(g,(rwA (sgSe W R iv (.slice none 0 0)),109))]) w):=by
 have i1:=hp.old
 haveI:NBy iv 16:=⟨hi.len⟩
 obtain ⟨k0,hk0⟩:∃ k,Nat.min n 32=k:=⟨_,rfl⟩
 obtain ⟨q0,hq0⟩:∃ q,(List.replicate 32 0).take 0++(p.take k0++(List.replicate 32 0).drop (0+k0))=q:=⟨_,rfl⟩
 have hfit:0+k0≤(List.replicate 32 0).length:=by rw [←hk0,List.length_replicate,Nat.zero_add];exact Nat.min_le_right _ _
 haveI:SgOk (sgSe W R iv (.slice none 0 0)):=inferInstance
 have hk1:k0≤n:=by rw [←hk0];exact Nat.min_le_left _ _
 have hk2:k0≤32:=by rw [←hk0];exact Nat.min_le_right _ _
 haveI:NBy q0 32:=⟨by rw [←hq0,List.take_zero,List.nil_append,List.length_append,List.length_take,List.length_drop,List.length_replicate,hp.ok.len];omega⟩
 have t0:((0:Int) != 0)=false:=rfl
 clear hp
 refine fn_own (N:=_) Tryz.func18 rfl Tryz.ntmps18 Tryz.results18 (by simp) ?_
 simp only [initS,Nat.reduceAdd,Nat.zero_add]
 repeat' (first|(refine wlS ?_)|(refine wlG ?_)|(refine wlB ?_)|((with_reducible refine sel_call ?_);refine wl_rd rfl rfl (rd_call rfl rfl rfl (fun w hm=>by with_reducible exact EX w (VwB.out w hm))) ?_)|((with_reducible refine sel_makeInterface ?_);refine wv rfl rfl (rd_mkI rfl rfl) ?_)|(refine wlE ?_)|(refine efSvvp ?_;intro v hv hp)|(refine efSvao ?_;intro v oa ho)|(refine efM ?_)|(refine efMvao ?_;intro v oa ho)|((with_reducible refine sel_store ?_);first|(refine wl_putB (e:=5) rfl rfl rfl rfl rfl ?_;intro oa ho))|(refine efG ?_)|(refine efGnn ?_;intro n hn)|(refine efZCnn ?_;intro n hn)|(refine efBnn ?_;intro n hn)|(refine efB ?_)|(refine efBS ?_)|(refine wl_skip rfl rfl ?_)|((with_reducible refine wc_seq ?_);intro K hK)|(refine auC ?_)|(refine wc_cond rfl (fun hc=>?_) (fun hc=>?_))|(refine wc_draw (by kernel_rfl) (by kernel_rfl) (by decide +kernel) ?_;intro w0 hw0 hm0;(try simp only [List.append_eq,List.cons_append,List.nil_append]))|(refine auP ?_)|((refine auR ?_);clear hK K)|(refine auR ?_)|((with_reducible refine hK _ _ ?_);clear hK K)|fail)
 first|refine end_ret (ResP.tmp rfl ResP.nil) ?_|refine end_normal (ResP.tmp rfl ResP.nil) ?_
 (try dsimp only [tupV])
 exact ⟨_,_,rfl,rfl,.keep .nil⟩
set_option maxHeartbeats 4000000 in
theorem way_st (w:World){v:Value}{n:Nat}{p:List Nat}(hp:Cb w v n p){W iv:List Nat}{R:Nat}[hkk:AKey W](hi:B16 iv)(EX:∀ w',Cb w' v n p→Calls Tryz.prog 25 [v].toArray w' (Ret (.tuple #[kv W R,.int .i64 0]) w')) :
  Calls Tryz.prog 18 [.int .i64 6,v,.agg (bys iv)].toArray w (RetO (fun g:Nat=>.iface 104 (ptr g)) (fun g oa=>oa=[(g,(rwA (sgSt W R iv 0),106))]) w):=by
 have i1:=hp.old
 haveI:NBy iv 16:=⟨hi.len⟩
 obtain ⟨k0,hk0⟩:∃ k,Nat.min n 32=k:=⟨_,rfl⟩
 obtain ⟨q0,hq0⟩:∃ q,(List.replicate 32 0).take 0++(p.take k0++(List.replicate 32 0).drop (0+k0))=q:=⟨_,rfl⟩
 have hfit:0+k0≤(List.replicate 32 0).length:=by rw [←hk0,List.length_replicate,Nat.zero_add];exact Nat.min_le_right _ _
 haveI:SgOk (sgSt W R iv 0):=inferInstance
 have hk1:k0≤n:=by rw [←hk0];exact Nat.min_le_left _ _
 have hk2:k0≤32:=by rw [←hk0];exact Nat.min_le_right _ _
 haveI:NBy q0 32:=⟨by rw [←hq0,List.take_zero,List.nil_append,List.length_append,List.length_take,List.length_drop,List.length_replicate,hp.ok.len];omega⟩
 have t0:((0:Int) != 0)=false:=rfl
 clear hp
 refine fn_own (N:=_) Tryz.func18 rfl Tryz.ntmps18 Tryz.results18 (by simp) ?_
 simp only [initS,Nat.reduceAdd,Nat.zero_add]
 repeat' (first|(refine wlS ?_)|(refine wlG ?_)|(refine wlB ?_)|((with_reducible refine sel_call ?_);refine wl_rd rfl rfl (rd_call rfl rfl rfl (fun w hm=>by with_reducible exact EX w (VwB.out w hm))) ?_)|((with_reducible refine sel_makeInterface ?_);refine wv rfl rfl (rd_mkI rfl rfl) ?_)|(refine wlE ?_)|(refine efSvvp ?_;intro v hv hp)|(refine efSvao ?_;intro v oa ho)|(refine efM ?_)|(refine efMvao ?_;intro v oa ho)|((with_reducible refine sel_store ?_);first|(refine wl_putB (e:=5) rfl rfl rfl rfl rfl ?_;intro oa ho))|(refine efG ?_)|(refine efGnn ?_;intro n hn)|(refine efZCnn ?_;intro n hn)|(refine efBnn ?_;intro n hn)|(refine efB ?_)|(refine efBS ?_)|(refine wl_skip rfl rfl ?_)|((with_reducible refine wc_seq ?_);intro K hK)|(refine auC ?_)|(refine wc_cond rfl (fun hc=>?_) (fun hc=>?_))|(refine wc_draw (by kernel_rfl) (by kernel_rfl) (by decide +kernel) ?_;intro w0 hw0 hm0;(try simp only [List.append_eq,List.cons_append,List.nil_append]))|(refine auP ?_)|((refine auR ?_);clear hK K)|(refine auR ?_)|((with_reducible refine hK _ _ ?_);clear hK K)|fail)
 first|refine end_ret (ResP.tmp rfl ResP.nil) ?_|refine end_normal (ResP.tmp rfl ResP.nil) ?_
 (try dsimp only [tupV])
 exact ⟨_,_,rfl,rfl,.keep .nil⟩
set_option maxHeartbeats 4000000 in
theorem way_op (w:World){v:Value}{n:Nat}{p:List Nat}(hp:Cb w v n p){W iv:List Nat}{R:Nat}[hkk:AKey W](hi:B16 iv)(EX:∀ w',Cb w' v n p→Calls Tryz.prog 25 [v].toArray w' (Ret (.tuple #[kv W R,.int .i64 0]) w')) :
  Calls Tryz.prog 18 [.int .i64 8,v,.agg (bys iv)].toArray w (RetO (fun g:Nat=>.iface 110 (ptr g)) (fun g oa=>oa=[(g,(rwA (sgSe W R iv (.slice none 0 0)),111))]) w):=by
 have i1:=hp.old
 haveI:NBy iv 16:=⟨hi.len⟩
 obtain ⟨k0,hk0⟩:∃ k,Nat.min n 32=k:=⟨_,rfl⟩
 obtain ⟨q0,hq0⟩:∃ q,(List.replicate 32 0).take 0++(p.take k0++(List.replicate 32 0).drop (0+k0))=q:=⟨_,rfl⟩
 have hfit:0+k0≤(List.replicate 32 0).length:=by rw [←hk0,List.length_replicate,Nat.zero_add];exact Nat.min_le_right _ _
 haveI:SgOk (sgSe W R iv (.slice none 0 0)):=inferInstance
 have hk1:k0≤n:=by rw [←hk0];exact Nat.min_le_left _ _
 have hk2:k0≤32:=by rw [←hk0];exact Nat.min_le_right _ _
 haveI:NBy q0 32:=⟨by rw [←hq0,List.take_zero,List.nil_append,List.length_append,List.length_take,List.length_drop,List.length_replicate,hp.ok.len];omega⟩
 have t0:((0:Int) != 0)=false:=rfl
 clear hp
 refine fn_own (N:=_) Tryz.func18 rfl Tryz.ntmps18 Tryz.results18 (by simp) ?_
 simp only [initS,Nat.reduceAdd,Nat.zero_add]
 repeat' (first|(refine wlS ?_)|(refine wlG ?_)|(refine wlB ?_)|((with_reducible refine sel_call ?_);refine wl_rd rfl rfl (rd_call rfl rfl rfl (fun w hm=>by with_reducible exact EX w (VwB.out w hm))) ?_)|((with_reducible refine sel_makeInterface ?_);refine wv rfl rfl (rd_mkI rfl rfl) ?_)|(refine wlE ?_)|(refine efSvvp ?_;intro v hv hp)|(refine efSvao ?_;intro v oa ho)|(refine efM ?_)|(refine efMvao ?_;intro v oa ho)|((with_reducible refine sel_store ?_);first|(refine wl_putB (e:=5) rfl rfl rfl rfl rfl ?_;intro oa ho))|(refine efG ?_)|(refine efGnn ?_;intro n hn)|(refine efZCnn ?_;intro n hn)|(refine efBnn ?_;intro n hn)|(refine efB ?_)|(refine efBS ?_)|(refine wl_skip rfl rfl ?_)|((with_reducible refine wc_seq ?_);intro K hK)|(refine auC ?_)|(refine wc_cond rfl (fun hc=>?_) (fun hc=>?_))|(refine wc_draw (by kernel_rfl) (by kernel_rfl) (by decide +kernel) ?_;intro w0 hw0 hm0;(try simp only [List.append_eq,List.cons_append,List.nil_append]))|(refine auP ?_)|((refine auR ?_);clear hK K)|(refine auR ?_)|((with_reducible refine hK _ _ ?_);clear hK K)|fail)
 first|refine end_ret (ResP.tmp rfl ResP.nil) ?_|refine end_normal (ResP.tmp rfl ResP.nil) ?_
 (try dsimp only [tupV])
 exact ⟨_,_,rfl,rfl,.keep .nil⟩
end Go.Proofs.YtkendlnjaopbeaaGreatDoor
