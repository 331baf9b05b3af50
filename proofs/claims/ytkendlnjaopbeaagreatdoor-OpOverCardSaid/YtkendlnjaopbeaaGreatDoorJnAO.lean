/- The package sign,walked: Sign. The package op,walked: all bytes kept,signers,judges. LAGRANGE: so often as there are points,each makes Zero;and how many there are. Plain laws,over whatever field. Steps by affine points: what is checked of each. Plain laws. The base L times is Zero;a point of order 8: step by step,by numbers. Printed by wip/genord.py. How often counts modulo L for the base;eight times any point,L times,is Zero. Plain laws. The walk of limb.Cmp. What Cmp answers. -/
import Derived.Test.YtkendlnjaopbeaaGreatDoorJnAN
import Derived.Test.YtkendlnjaopbeaaGreatDoorJnAD
import Derived.Test.YtkendlnjaopbeaaGreatDoorJnAJ
import Derived.Test.YtkendlnjaopbeaaGreatDoorJnAL
namespace Go.Proofs.YtkendlnjaopbeaaGreatDoor
open Go.RowKit
attribute [local irreducible] rwA bys iw
set_option linter.unusedVariables false
set_option linter.unusedSimpArgs false
set_option maxRecDepth 100000
def rS (seed:Nat)(p:List Nat):Nat:=atl (dgN 3 (mskS seed++p))
def sS (seed:Nat)(p:List Nat):Nat:=sadd (rS seed p) (smul (chal (basP (rS seed p)) (pubS seed) p) (secS seed))
theorem rS_L (seed:Nat)(p:List Nat):rS seed p<SLn:=atl_L (dgN_L _ _)
theorem rS_lt (seed:Nat)(p:List Nat):rS seed p<T256:=Nat.lt_trans (rS_L _ _) SL_T
theorem sS_L (seed:Nat)(p:List Nat):sS seed p<SLn:=sadd_L _ _
theorem sS_lt (seed:Nat)(p:List Nat):sS seed p<T256:=Nat.lt_trans (sS_L _ _) SL_T
def sigL (seed:Nat)(p:List Nat):List Nat:=lb (basP (rS seed p))++lb (sS seed p)
instance (seed:Nat)(p:List Nat):NBy (sigL seed p) 64:=⟨by simp [sigL,lb_len]⟩
instance (seed:Nat)(p:List Nat):BLc 64 (sigL seed p):=⟨⟨by simp [sigL,lb_len],ByL.out (p:=lb _++lb _)⟩,by decide⟩
instance zc_s64:ZC Tryz.prog 67 (bys (List.replicate 64 0)):=⟨by kernel_rfl⟩
instance zc_s32:ZC Tryz.prog 43 (bys (List.replicate 32 0)):=⟨by kernel_rfl⟩
section
variable {X:Cx}{s:Slots}{l:Blks}{o:Oper}{v:Value}{Q:Post}{ops:Array Oper}{r:List Oper}
theorem rd_appendE {x y:Operand}{t e k bytes b off n c:Nat}{z:Array Value}{u:Value}(hop:o.op=.call {callee:=.builtin .append,args:=#[x,y],argTypes:=#[t,t]})
  (hx:val s x=some (.slice (some ⟨b,off,none⟩) n c)) (hy:val s y=some u) [ht:UT X.P t (.slice e)] [hei:EI X.P e k bytes z] [hu:Ln u 0] (hnc:n≤c:=by omega):RdV X s l o (.slice (some ⟨b,off,none⟩) n c):=rd_val fun a w he hm=>by
 obtain ⟨i,zv,hi,rfl,rfl,hz,rfl,hzs⟩:=hei.out
 obtain ⟨p,c',rfl,_⟩:=hu.out
 have hr:(Builtin.append_ #[t,t] o.type #[.slice (some ⟨b,off,none⟩) n c,.slice p 0 c']).run X.P w=.ok (.slice (some ⟨b,off,none⟩) n c) w:=by
  cases p <;> simp [Builtin.append_,run_underlying ht.out,sizeOf,typeInfo,hi,Builtin.lenOf,Builtin.firstCells,loadCells,loadCellsFrom,hnc,storeCells]
 simp only [execOp,hop,resolve,invoke,builtin,Sem.run_bind,Sem.run_pure,Result.andThen_ok,List.map_toArray,List.map_cons,List.map_nil,he.eval hx,he.eval hy,hr]
end
set_option maxHeartbeats 16000000 in
theorem sign_c (w:World)(hT:Tab w)(w':World)(hb:Below w.heap.size w w')(seed:Nat)(hs:seed<T256){v:Value}{n:Nat}{p:List Nat}(hq:Cb w' v n p)(hn:n≤1048576) :
  Calls Tryz.prog 95 [.agg (bys (lb seed)),v].toArray w' (Ret (.agg (bys (sigL seed p))) w'):=by
 have hT':=hT.below hb
 have NS:∀ w'',Below w'.heap.size w' w''→Calls Tryz.prog 17 [.agg (bys (lb seed))].toArray w'' (Ret (.agg (rwA (sgP (secS seed) (mskS seed) (lb (pubS seed))))) w''):=fun w'' h=>new_s w' hT' w'' h seed hs
 have D3:∀ {u:Value} w'',Below w'.heap.size w' w''→Cb w'' u (32+n) (mskS seed++p)→Calls Tryz.prog 20 [.int .u8 3,u].toArray w'' (Ret (nu (dgN 3 (mskS seed++p))) w''):=fun w'' h1 h2=>dgn_c w' hT' w'' h1 3 (by decide) h2
 have D0:n=0→∀ {u:Value} w'',Below w'.heap.size w' w''→Cb w'' u 32 (mskS seed)→Calls Tryz.prog 20 [.int .u8 3,u].toArray w'' (Ret (nu (dgN 3 (mskS seed++p))) w''):=fun h0 {u} w'' h1 h2=>by
  have:p=[]:=List.eq_nil_of_length_eq_zero (by rw [hq.ok.len,h0])
  subst this
  rw [List.append_nil]
  exact dgn_c w' hT' w'' h1 3 (by decide) h2
 have AC:=atl_c (dgN 3 (mskS seed++p)) (dgN_lt _ _)
 have e0:atl (dgN 3 (mskS seed++p))=rS seed p:=rfl
 rw [e0] at AC
 have BC:=bas_c (rS seed p) (rS_lt _ _)
 have CH:∀ w'',Below w'.heap.size w' w''→Cb w'' v n p→Calls Tryz.prog 98 [.agg (bys (lb (basP (rS seed p)))),.agg (bys (lb (pubS seed))),v].toArray w'' (Ret (nu (chal (basP (rS seed p)) (pubS seed) p)) w''):=fun w'' h1 h2=>chal_c w' hT' w'' h1 _ _ h2 hn
 have MC:=mulS (chal (basP (rS seed p)) (pubS seed) p) (secS seed) (dgN_lt _ _) (secS_lt _)
 have DC:=addS (rS seed p) (smul (chal (basP (rS seed p)) (pubS seed) p) (secS seed)) (rS_lt _ _) (smul_lt _ _)
 have e1:sadd (rS seed p) (smul (chal (basP (rS seed p)) (pubS seed) p) (secS seed))=sS seed p:=rfl
 rw [e1] at DC
 have YC:=bytes_lb (sS seed p) (sS_lt _ _)
 have i1:=hq.old
 haveI:ByL p:=⟨hq.ok.by'⟩
 have e2:sigL seed p=lb (basP (rS seed p))++lb (sS seed p):=rfl
 rw [e2]
 have hv1:∀ F,(List.replicate 64 0).take 0++((lb F).take 32++(List.replicate 64 0).drop (0+32))=lb F++List.replicate 32 0:=fun F=>by
  rw [List.take_of_length_le (l:=lb F) (by rw [lb_len];exact Nat.le_refl _),List.take_zero,List.nil_append,List.drop_replicate]
 have hv2:∀ F S,(lb F++List.replicate 32 0).take 32++((lb S).take 32++(lb F++List.replicate 32 0).drop (32+32))=lb F++lb S:=fun F S=>by
  rw [List.take_left' (lb_len F),List.take_of_length_le (l:=lb S) (by rw [lb_len];exact Nat.le_refl _),List.drop_of_length_le (by simp [lb_len]),List.append_nil]
 have hl1:0+32≤(List.replicate 64 0).length:=by simp
 have hl2:∀ F,32+32≤(lb F++List.replicate 32 0).length:=fun F=>by simp [lb_len]
 have k1:Nat.min 32 64=32:=rfl
 have k2:Nat.min 32 32=32:=rfl
 have hv1':=hv1 (basP (rS seed p))
 have hv2':=hv2 (basP (rS seed p)) (sS seed p)
 have hl2':=hl2 (basP (rS seed p))
 haveI nb1:NBy (lb (basP (rS seed p))++List.replicate 32 0) 64:=⟨by simp [lb_len]⟩
 haveI nb2:NBy (lb (basP (rS seed p))++lb (sS seed p)) 64:=⟨by simp [lb_len]⟩
 clear hT hb hs hT' hq e0 e1 e2 hv1 hv2 hl2
 generalize chal (basP (rS seed p)) (pubS seed) p=C at *
 generalize smul C (secS seed)=CA at *
 generalize basP (rS seed p)=F at *
 generalize rS seed p=R at *
 generalize sS seed p=S' at *
 generalize secS seed=A at *
 generalize pubS seed=K' at *
 generalize dgN 3 (mskS seed++p)=D at *
 by_cases h0:n=0
 ·subst h0
  have D1:=fun {u:Value}=>D0 rfl (u:=u)
  clear D0 D3
  refine fn_ret (N:=_) Tryz.func95 rfl Tryz.ntmps95 Tryz.results95 (by simp) ?_
  simp only [initS,Nat.reduceAdd,Nat.zero_add]
  repeat' (first|(refine wlS ?_)|(refine wlG ?_)|(refine wlB ?_)|((with_reducible refine sel_call ?_);refine wl_rd rfl rfl (rd_call rfl rfl rfl (fun w hm=>by with_reducible first|exact NS w (hm.below rfl)|exact D1 w (hm.below rfl) (VwB.out w hm)|exact AC w|exact BC w|exact CH w (hm.below rfl) (VwB.out w hm)|exact MC w|exact DC w|exact YC w)) ?_)|((with_reducible refine sel_call ?_);refine wv rfl rfl (rd_appendE rfl rfl rfl) ?_)|(refine wlE ?_)|(refine efSvvp ?_;intro v hv hp)|(refine efSvao ?_;intro v oa ho)|(refine efG ?_)|(refine efGnn ?_;intro n hn)|(refine efZCnn ?_;intro n hn)|(refine efBnn ?_;intro n hn)|(refine efB ?_)|(refine efBS ?_)|(refine wl_skip rfl rfl ?_)|(refine wdS ?_)|(refine wdG ?_)|(refine wdV ?_)|(refine wdB ?_)|((with_reducible refine seld_call ?_);refine wd_rd hm0 rfl rfl rfl rfl (rd_call rfl rfl rfl (fun w hm=>by with_reducible first|exact NS w (hm.below rfl)|exact D1 w (hm.below rfl) (VwB.out w hm)|exact AC w|exact BC w|exact CH w (hm.below rfl) (VwB.out w hm)|exact MC w|exact DC w|exact YC w)) ?_)|((with_reducible refine seld_call ?_);refine wdv hm0 rfl rfl rfl rfl (rd_appendE rfl rfl rfl) ?_)|(refine wdE ?_)|(refine wd_allocC hm0 rfl rfl rfl ?_;intro n hn hn0)|(refine wd_alloc hm0 rfl rfl rfl ?_;intro n hn hn0)|(refine wdT ?_)|(refine wdTO ?_)|(refine wd_skip rfl rfl ?_)|((with_reducible refine seld_nil ?_);refine wd_nil hm0 ?_;clear hm0 hw0)|((with_reducible refine wc_seq ?_);intro K hK)|(refine auC ?_)|(refine wc_cond rfl (fun hc=>?_) (fun hc=>?_))|(refine wc_draw (id:=4) (by kernel_rfl) (by kernel_rfl) (by decide +kernel) ?_;intro w0 hw0 hm0;(try simp only [List.append_eq,List.cons_append,List.nil_append]))|((with_reducible refine wc_drawC (by kernel_rfl) ?_);(try simp only [List.append_eq,List.cons_append,List.nil_append,List.length_cons,List.length_nil,Nat.reduceAdd]))|((with_reducible refine sel_wh ?_);(refine wh_if (by decide +kernel) ?_);first|(refine wh_take (lq:=[]) rfl rfl rfl rfl (by first|exact rvS|exact rvG|exact rvB|((with_reducible apply selr_call);exact rd_appendE rfl rfl rfl)|exact rvE) (Or.inl rfl) ?_)|(refine wh_takeL rfl rfl rfl rfl (by first|exact rvS|exact rvG|exact rvB|((with_reducible apply selr_call);exact rd_appendE rfl rfl rfl)|exact rvE) (by decide +kernel) ?_))|(refine whS ?_;intro v hv hp)|((with_reducible refine sel_wh ?_);first|(refine wh_pass rfl rfl rfl rfl ?_)|(refine wh_done rfl ?_)|(refine wh_all rfl ?_))|((with_reducible refine sel_rest ?_);first|exact rest_nil rfl|refine rest_cons rfl rfl ?_ ?_)|((with_reducible refine sel_nx ?_);first|refine next_of ?_|refine next_late (by decide +kernel) ?_)|(refine auP ?_)|((refine auR ?_);clear hK K)|(refine auR ?_)|((with_reducible refine hK _ _ ?_);clear hK K)|fail)
  repeat' (first|(refine wlS ?_)|(refine wlB ?_)|(refine wlE ?_)|(refine efSvvp ?_;intro v hv hp)|(refine efSvao ?_;intro v oa ho)|(refine efM ?_)|(refine efMvao ?_;intro v oa ho)|((with_reducible refine sel_store ?_);first|(refine wl_putB (e:=5) rfl rfl rfl rfl rfl ?_;intro oa ho))|(refine efZCnn ?_;intro n hn)|(refine efBnn ?_;intro n hn)|(refine efB ?_)|(refine efBS ?_)|(refine wl_skip rfl rfl ?_)|((with_reducible refine wc_seq ?_);intro K hK)|(refine auC ?_)|(refine wc_cond rfl (fun hc=>?_) (fun hc=>?_))|((with_reducible refine wc_drawC (by kernel_rfl) ?_);(try simp only [List.append_eq,List.cons_append,List.nil_append,List.length_cons,List.length_nil,Nat.reduceAdd]))|((with_reducible refine sel_wh ?_);(refine wh_if (by decide +kernel) ?_);first|(refine wh_take (lq:=[]) rfl rfl rfl rfl (by first|exact rvS|exact rvB|exact rvE) (Or.inl rfl) ?_)|(refine wh_takeL rfl rfl rfl rfl (by first|exact rvS|exact rvB|exact rvE) (by decide +kernel) ?_))|(refine whS ?_;intro v hv hp)|((with_reducible refine sel_wh ?_);first|(refine wh_pass rfl rfl rfl rfl ?_)|(refine wh_done rfl ?_)|(refine wh_all rfl ?_))|((with_reducible refine sel_rest ?_);first|exact rest_nil rfl|refine rest_cons rfl rfl ?_ ?_)|((with_reducible refine sel_nx ?_);first|refine next_of ?_|refine next_late (by decide +kernel) ?_)|(refine auP ?_)|((refine auR ?_);clear hK K)|(refine auR ?_)|((with_reducible refine hK _ _ ?_);clear hK K)|fail)
  first|refine end_ret (ResP.cell rfl ld_whole ResP.nil) ?_|refine end_normal (ResP.cell rfl ld_whole ResP.nil) ?_
  first|rfl|(show _=_;rfl)|(simp only [tupV, *];done)
 ·have h0':0<n:=by omega
  clear D0
  refine fn_ret (N:=_) Tryz.func95 rfl Tryz.ntmps95 Tryz.results95 (by simp) ?_
  simp only [initS,Nat.reduceAdd,Nat.zero_add]
  repeat' (first|(refine wlS ?_)|(refine wlG ?_)|(refine wlB ?_)|((with_reducible refine sel_call ?_);refine wl_rd rfl rfl (rd_call rfl rfl rfl (fun w hm=>by with_reducible first|exact NS w (hm.below rfl)|exact D3 w (hm.below rfl) (VwB.out w hm)|exact AC w|exact BC w|exact CH w (hm.below rfl) (VwB.out w hm)|exact MC w|exact DC w|exact YC w)) ?_)|(refine wlE ?_)|(refine efSvvp ?_;intro v hv hp)|(refine efSvao ?_;intro v oa ho)|(refine efG ?_)|(refine efGnn ?_;intro n hn)|(refine efAFvao ?_;intro v oa ho)|(refine efZCnn ?_;intro n hn)|(refine efBnn ?_;intro n hn)|(refine efB ?_)|(refine efBS ?_)|(refine wl_skip rfl rfl ?_)|(refine wdS ?_)|(refine wdG ?_)|(refine wdV ?_)|(refine wdB ?_)|((with_reducible refine seld_call ?_);refine wd_rd hm0 rfl rfl rfl rfl (rd_call rfl rfl rfl (fun w hm=>by with_reducible first|exact NS w (hm.below rfl)|exact D3 w (hm.below rfl) (VwB.out w hm)|exact AC w|exact BC w|exact CH w (hm.below rfl) (VwB.out w hm)|exact MC w|exact DC w|exact YC w)) ?_)|(refine wdE ?_)|(refine wd_allocC hm0 rfl rfl rfl ?_;intro n hn hn0)|(refine wd_alloc hm0 rfl rfl rfl ?_;intro n hn hn0)|(refine wdT ?_)|(refine wdTO ?_)|(refine wd_skip rfl rfl ?_)|((with_reducible refine seld_nil ?_);refine wd_nil hm0 ?_;clear hm0 hw0)|((with_reducible refine wc_seq ?_);intro K hK)|(refine auC ?_)|(refine wc_cond rfl (fun hc=>?_) (fun hc=>?_))|(refine wc_draw (id:=4) (by kernel_rfl) (by kernel_rfl) (by decide +kernel) ?_;intro w0 hw0 hm0;(try simp only [List.append_eq,List.cons_append,List.nil_append]))|((with_reducible refine wc_drawC (by kernel_rfl) ?_);(try simp only [List.append_eq,List.cons_append,List.nil_append,List.length_cons,List.length_nil,Nat.reduceAdd]))|((with_reducible refine sel_wh ?_);(refine wh_if (by decide +kernel) ?_);first|(refine wh_take (lq:=[]) rfl rfl rfl rfl (by first|exact rvS|exact rvG|exact rvB|exact rvE) (Or.inl rfl) ?_)|(refine wh_takeL rfl rfl rfl rfl (by first|exact rvS|exact rvG|exact rvB|exact rvE) (by decide +kernel) ?_))|(refine whS ?_;intro v hv hp)|((with_reducible refine sel_wh ?_);first|(refine wh_pass rfl rfl rfl rfl ?_)|(refine wh_done rfl ?_)|(refine wh_all rfl ?_))|((with_reducible refine sel_rest ?_);first|exact rest_nil rfl|refine rest_cons rfl rfl ?_ ?_)|((with_reducible refine sel_nx ?_);first|refine next_of ?_|refine next_late (by decide +kernel) ?_)|(refine auP ?_)|((refine auR ?_);clear hK K)|(refine auR ?_)|((with_reducible refine hK _ _ ?_);clear hK K)|fail)
  repeat' (first|(refine wlS ?_)|(refine wlB ?_)|(refine wlE ?_)|(refine efSvvp ?_;intro v hv hp)|(refine efSvao ?_;intro v oa ho)|(refine efM ?_)|(refine efMvao ?_;intro v oa ho)|((with_reducible refine sel_store ?_);first|(refine wl_putB (e:=5) rfl rfl rfl rfl rfl ?_;intro oa ho))|(refine efZCnn ?_;intro n hn)|(refine efBnn ?_;intro n hn)|(refine efB ?_)|(refine efBS ?_)|(refine wl_skip rfl rfl ?_)|((with_reducible refine wc_seq ?_);intro K hK)|(refine auC ?_)|(refine wc_cond rfl (fun hc=>?_) (fun hc=>?_))|((with_reducible refine wc_drawC (by kernel_rfl) ?_);(try simp only [List.append_eq,List.cons_append,List.nil_append,List.length_cons,List.length_nil,Nat.reduceAdd]))|((with_reducible refine sel_wh ?_);(refine wh_if (by decide +kernel) ?_);first|(refine wh_take (lq:=[]) rfl rfl rfl rfl (by first|exact rvS|exact rvB|exact rvE) (Or.inl rfl) ?_)|(refine wh_takeL rfl rfl rfl rfl (by first|exact rvS|exact rvB|exact rvE) (by decide +kernel) ?_))|(refine whS ?_;intro v hv hp)|((with_reducible refine sel_wh ?_);first|(refine wh_pass rfl rfl rfl rfl ?_)|(refine wh_done rfl ?_)|(refine wh_all rfl ?_))|((with_reducible refine sel_rest ?_);first|exact rest_nil rfl|refine rest_cons rfl rfl ?_ ?_)|((with_reducible refine sel_nx ?_);first|refine next_of ?_|refine next_late (by decide +kernel) ?_)|(refine auP ?_)|((refine auR ?_);clear hK K)|(refine auR ?_)|((with_reducible refine hK _ _ ?_);clear hK K)|fail)
  first|refine end_ret (ResP.cell rfl ld_whole ResP.nil) ?_|refine end_normal (ResP.cell rfl ld_whole ResP.nil) ?_
  first|rfl|(show _=_;rfl)|(simp only [tupV, *];done)
end Go.Proofs.YtkendlnjaopbeaaGreatDoor
namespace Go.Proofs.YtkendlnjaopbeaaGreatDoor
open Go.RowKit
attribute [local irreducible] rwA bys
set_option linter.unusedVariables false
set_option linter.unusedSimpArgs false
set_option maxRecDepth 100000
abbrev sgB (lv:Value)(sd:List Nat):Sg:=[(1,#[lv]),(32,bys sd)]
set_option maxHeartbeats 4000000 in
theorem by_more (w0 w:World)(hb:Below w0.heap.size w0 w){g T k n:Nat}(hB:Nat.blt T BIG=true){lv:Value}{L sd:List Nat}{oo:Blks}[hsd:NBy sd 32](ho:OwnB 5 lv k L oo)(nd:(keys ((g,(rwA (sgB lv sd),T))::oo)).Nodup)(hd:Hd ((g,(rwA (sgB lv sd),T))::oo) w)(hf:∀ k∈keys ((g,(rwA (sgB lv sd),T))::oo),w0.heap.size≤k){v:Value}{p:List Nat}(hp:Cb w0 v n p)(hk:k+n≤2048) :
  Calls Tryz.prog 94 [ptr g,v].toArray w (RetU (fun v:Value=>v) ((g,(rwA (sgB lv sd),T))::oo) (fun u ob=>u=.slice none 0 0∧∃ lv' oL,ob=(g,(rwA (sgB lv' sd),T))::oL∧OwnB 5 lv' (k+n) (L++p) oL) w):=by
 have i1:CsB (Old w (keys ((g,(rwA (sgB lv sd),T))::oo))) v n p:=hp.oldB hb hf
 haveI:One lv:=⟨by obtain ⟨_,_,rfl,_⟩:=ho.own.ln.out;rfl⟩
 haveI:SgOk (sgB lv sd):=inferInstance
 clear hp
 refine fn_upd (N:=_) Tryz.func94 rfl Tryz.ntmps94 Tryz.results94 (by simp) nd hd ?_
 simp only [initS,Nat.reduceAdd,Nat.zero_add]
 repeat' (first|(refine wlS ?_)|(refine wlG ?_)|(refine wlB ?_)|(refine wlE ?_)|(refine efSvao ?_;intro v oa ho)|(refine efG ?_)|(refine efB ?_)|(refine efBS ?_)|(refine wl_skip rfl rfl ?_)|((with_reducible refine wc_seq ?_);intro K hK)|(refine auC ?_)|(refine wc_cond rfl (fun hc=>?_) (fun hc=>?_))|(refine wc_draw (by kernel_rfl) (by kernel_rfl) (by decide +kernel) ?_;intro w0 hw0 hm0;(try simp only [List.append_eq,List.cons_append,List.nil_append]))|(refine auP ?_)|((refine auR ?_);clear hK K)|(refine auR ?_)|((with_reducible refine hK _ _ ?_);clear hK K)|fail)
 first|refine end_ret (ResP.tmp rfl ResP.nil) ?_|refine end_normal (ResP.tmp rfl ResP.nil) ?_
 (try dsimp only [tupV])
 exact ⟨_,_,rfl,⟨rfl,_,_,rfl,inferInstance⟩,SubL.refl _⟩
set_option maxHeartbeats 4000000 in
theorem sg_end (w0 w:World)(hT:Tab w0)(hb:Below w0.heap.size w0 w){g T k seed:Nat}(hB:Nat.blt T BIG=true)(hs:seed<T256){lv:Value}{L:List Nat}{oo:Blks}(ho:OwnB 5 lv k L oo)(nd:(keys ((g,(rwA (sgB lv (lb seed)),T))::oo)).Nodup)(hd:Hd ((g,(rwA (sgB lv (lb seed)),T))::oo) w)(hf:∀ k∈keys ((g,(rwA (sgB lv (lb seed)),T))::oo),w0.heap.size≤k)(hk:k≤2048) :
  Calls Tryz.prog 93 [ptr g].toArray w (RetO (fun v:Value=>.tuple #[v,.int .i64 0]) (fun v oa=>CsB (Hd oa) v 64 (sigL seed L)) w):=by
 refine RetU.seen2 hd ?_
 haveI:One lv:=⟨by obtain ⟨_,_,rfl,_⟩:=ho.own.ln.out;rfl⟩
 haveI:SgOk (sgB lv (lb seed)):=inferInstance
 have SG:=fun {u:Value} w' (hb:Below w0.heap.size w0 w') (h:Cb w' u k L)=>sign_c w0 hT w' hb seed hs h (by omega)
 have z:ZC Tryz.prog 67 (bys (List.replicate 64 0)):=inferInstance
 refine fn_upd (N:=_) Tryz.func93 rfl Tryz.ntmps93 Tryz.results93 (by simp) nd hd ?_
 simp only [initS,Nat.reduceAdd,Nat.zero_add]
 repeat' (first|(refine wlS ?_)|(refine wlB ?_)|(refine efSvvp ?_;intro v hv hp)|(refine wl_skip rfl rfl ?_)|(refine wdS ?_)|(refine wdG ?_)|(refine wdV ?_)|(refine wdB ?_)|((with_reducible refine seld_call ?_);refine wd_rd hm0 rfl rfl rfl rfl (rd_call rfl rfl rfl (fun w hm=>by with_reducible exact SG w (Mem.belowO hm (by with_reducible assumption) (by with_reducible assumption)) (VwB.out w hm))) ?_)|(refine wdE ?_)|(refine wd_alloc hm0 rfl rfl rfl ?_;intro n hn hn0)|(refine wdT ?_)|(refine wdTO ?_)|(refine wd_skip rfl rfl ?_)|((with_reducible refine seld_nil ?_);refine wd_nil hm0 ?_;clear hm0 hw0)|((with_reducible refine wc_seq ?_);intro K hK)|(refine auC ?_)|(refine wc_cond rfl (fun hc=>?_) (fun hc=>?_))|(refine wc_draw (by kernel_rfl) (by kernel_rfl) (by decide +kernel) ?_;intro w0 hw0 hm0;(try simp only [List.append_eq,List.cons_append,List.nil_append]))|(refine auP ?_)|((refine auR ?_);clear hK K)|(refine auR ?_)|((with_reducible refine hK _ _ ?_);clear hK K)|fail)
 first|refine end_ret (ResP.tmp rfl (ResP.tmp rfl ResP.nil)) ?_|refine end_normal (ResP.tmp rfl (ResP.tmp rfl ResP.nil)) ?_
 (try dsimp only [tupV])
 refine ⟨_,_,rfl,⟨[_],rfl,?_⟩,SubL.refl _⟩
 exact csb_blkD inferInstance
set_option maxHeartbeats 4000000 in
theorem sj_check (w0 w:World)(hb:Below w0.heap.size w0 w){g T k m:Nat}{r:Int}(hB:Nat.blt T BIG=true){lv u:Value}{L sd sig:List Nat}{oo:Blks}[hsd:NBy sd 32](ho:OwnB 5 lv k L oo)(nd:(keys ((g,(rwA (sgB lv sd),T))::oo)).Nodup)(hd:Hd ((g,(rwA (sgB lv sd),T))::oo) w)(hf:∀ k∈keys ((g,(rwA (sgB lv sd),T))::oo),w0.heap.size≤k)(i1:CsB (Old w (keys ((g,(rwA (sgB lv sd),T))::oo))) u m sig)
  (VC:∀ {v:Value} w',Below w0.heap.size w0 w'→Cb w' v k L→Cb w' u m sig→Calls Tryz.prog 103 [.agg (bys sd),v,u].toArray w' (Ret (.int .i64 r) w')) :
  Calls Tryz.prog 101 [ptr g,u].toArray w (Ret (.int .i64 r) w):=by
 have h:Calls Tryz.prog 101 [ptr g,u].toArray w (RetO (fun _:Unit=>.int .i64 r) (fun _ oa=>oa=[]) w):=by
  refine RetU.seen2 hd ?_
  haveI:One lv:=⟨by obtain ⟨_,_,rfl,_⟩:=ho.own.ln.out;rfl⟩
  haveI:SgOk (sgB lv sd):=inferInstance
  refine fn_upd (N:=_) Tryz.func101 rfl Tryz.ntmps101 Tryz.results101 (by simp) nd hd ?_
  simp only [initS,Nat.reduceAdd,Nat.zero_add]
  repeat' (first|(refine wlB ?_)|(refine wl_skip rfl rfl ?_)|(refine wdS ?_)|(refine wdG ?_)|(refine wdV ?_)|(refine wdB ?_)|((with_reducible refine seld_call ?_);refine wd_rd hm0 rfl rfl rfl rfl (rd_call rfl rfl rfl (fun w hm=>by with_reducible exact VC w (Mem.belowO hm (by with_reducible assumption) (by with_reducible assumption)) (VwB.out w hm) (VwB.out w hm))) ?_)|(refine wdE ?_)|(refine wd_skip rfl rfl ?_)|((with_reducible refine seld_nil ?_);refine wd_nil hm0 ?_;clear hm0 hw0)|((with_reducible refine wc_seq ?_);intro K hK)|(refine auC ?_)|(refine wc_cond rfl (fun hc=>?_) (fun hc=>?_))|(refine wc_draw (by kernel_rfl) (by kernel_rfl) (by decide +kernel) ?_;intro w0 hw0 hm0;(try simp only [List.append_eq,List.cons_append,List.nil_append]))|(refine auP ?_)|((refine auR ?_);clear hK K)|(refine auR ?_)|((with_reducible refine hK _ _ ?_);clear hK K)|fail)
  first|refine end_ret (ResP.tmp rfl ResP.nil) ?_|refine end_normal (ResP.tmp rfl ResP.nil) ?_
  (try dsimp only [tupV])
  exact ⟨(),_,rfl,⟨[],rfl,rfl⟩,SubL.refl _⟩
 exact h.mono fun e w2 ⟨_,oa,h1,h2,h3⟩=>⟨h1,h3.below⟩
set_option maxHeartbeats 4000000 in
theorem mj_check (w0 w:World)(hT:Tab w0)(hb:Below w0.heap.size w0 w){g T m:Nat}(hB:Nat.blt T BIG=true){st:MS}[MSo st]{u:Value}{sig:List Nat}(nd:(keys [(g,(rwA (sgM st),T))]).Nodup)(hd:Hd [(g,(rwA (sgM st),T))] w)(hf:∀ k∈keys [(g,(rwA (sgM st),T))],w0.heap.size≤k)(i1:CsB (Old w (keys [(g,(rwA (sgM st),T))])) u m sig) :
  Calls Tryz.prog 111 [ptr g,u].toArray w (Ret (.int .i64 (if m=32 then (if st.sum=sig then 0 else 5) else 1)) w):=by
 have h:Calls Tryz.prog 111 [ptr g,u].toArray w (RetO (fun _:Unit=>.int .i64 (if m=32 then (if st.sum=sig then 0 else 5) else 1)) (fun _ oa=>oa=[]) w):=by
  refine RetU.seen2 hd ?_
  have SG:=fun w' (hb:Below w0.heap.size w0 w')=>msum_g w0 hT w' hb (st:=st)
  have SM:=fun {v:Value} w' (h1:Cb w' v 32 st.sum) (h2:Cb w' u m sig)=>same_g w' h1 h2 rfl
  haveI:BLc 32 st.sum:=⟨⟨msum_len,ByL.out⟩,by decide⟩
  by_cases hm:m=32
  ·have t1:(((m:Nat):Int) != 32)=false:=by subst hm;rfl
   rw [if_pos hm]
   by_cases hq:st.sum=sig
   ·have t2:(!(st.sum == sig))=false:=by simp [hq]
    rw [if_pos hq]
    refine fn_upd (N:=_) Tryz.func111 rfl Tryz.ntmps111 Tryz.results111 (by simp) nd hd ?_
    simp only [initS,Nat.reduceAdd,Nat.zero_add]
    repeat' (first|(refine wlS ?_)|(refine wlG ?_)|(refine wlB ?_)|((with_reducible refine sel_call ?_);refine wl_rd rfl rfl (rd_call rfl rfl rfl (fun w hm=>by with_reducible first|exact SG w (Mem.belowO hm (by with_reducible assumption) (by with_reducible assumption))|exact SM w (VwB.out w hm) (VwB.out w hm))) ?_)|(refine wlE ?_)|(refine efSvvp ?_;intro v hv hp)|(refine efSvao ?_;intro v oa ho)|(refine efG ?_)|(refine efGnn ?_;intro n hn)|(refine efBnn ?_;intro n hn)|(refine efB ?_)|(refine efBS ?_)|(refine wl_skip rfl rfl ?_)|((with_reducible refine wc_seq ?_);intro K hK)|(refine auC ?_)|(refine wc_cond rfl (fun hc=>?_) (fun hc=>?_))|(refine wc_draw (by kernel_rfl) (by kernel_rfl) (by decide +kernel) ?_;intro w0 hw0 hm0;(try simp only [List.append_eq,List.cons_append,List.nil_append]))|(refine auP ?_)|((refine auR ?_);clear hK K)|(refine auR ?_)|((with_reducible refine hK _ _ ?_);clear hK K)|fail)
    first|refine end_ret (ResP.tmp rfl ResP.nil) ?_|refine end_normal (ResP.tmp rfl ResP.nil) ?_
    (try dsimp only [tupV])
    exact ⟨(),_,rfl,⟨[],rfl,rfl⟩,.skip (SubL.refl _)⟩
   ·have t2:(!(st.sum == sig))=true:=by simp [hq]
    rw [if_neg hq]
    refine fn_upd (N:=_) Tryz.func111 rfl Tryz.ntmps111 Tryz.results111 (by simp) nd hd ?_
    simp only [initS,Nat.reduceAdd,Nat.zero_add]
    repeat' (first|(refine wlS ?_)|(refine wlG ?_)|(refine wlB ?_)|((with_reducible refine sel_call ?_);refine wl_rd rfl rfl (rd_call rfl rfl rfl (fun w hm=>by with_reducible first|exact SG w (Mem.belowO hm (by with_reducible assumption) (by with_reducible assumption))|exact SM w (VwB.out w hm) (VwB.out w hm))) ?_)|(refine wlE ?_)|(refine efSvvp ?_;intro v hv hp)|(refine efSvao ?_;intro v oa ho)|(refine efG ?_)|(refine efGnn ?_;intro n hn)|(refine efBnn ?_;intro n hn)|(refine efB ?_)|(refine efBS ?_)|(refine wl_skip rfl rfl ?_)|((with_reducible refine wc_seq ?_);intro K hK)|(refine auC ?_)|(refine wc_cond rfl (fun hc=>?_) (fun hc=>?_))|(refine wc_draw (by kernel_rfl) (by kernel_rfl) (by decide +kernel) ?_;intro w0 hw0 hm0;(try simp only [List.append_eq,List.cons_append,List.nil_append]))|(refine auP ?_)|((refine auR ?_);clear hK K)|(refine auR ?_)|((with_reducible refine hK _ _ ?_);clear hK K)|fail)
    first|refine end_ret (ResP.tmp rfl ResP.nil) ?_|refine end_normal (ResP.tmp rfl ResP.nil) ?_
    (try dsimp only [tupV])
    exact ⟨(),_,rfl,⟨[],rfl,rfl⟩,.skip (SubL.refl _)⟩
  ·have t1:(((m:Nat):Int) != 32)=true:=by rw [bne_iff_ne];omega
   rw [if_neg hm]
   refine fn_upd (N:=_) Tryz.func111 rfl Tryz.ntmps111 Tryz.results111 (by simp) nd hd ?_
   simp only [initS,Nat.reduceAdd,Nat.zero_add]
   repeat' (first|(refine wlS ?_)|(refine wlG ?_)|(refine wlB ?_)|((with_reducible refine sel_call ?_);refine wl_rd rfl rfl (rd_call rfl rfl rfl (fun w hm=>by with_reducible exact SG w (Mem.belowO hm (by with_reducible assumption) (by with_reducible assumption)))) ?_)|(refine wlE ?_)|(refine efSvvp ?_;intro v hv hp)|(refine efSvao ?_;intro v oa ho)|(refine efG ?_)|(refine efGnn ?_;intro n hn)|(refine efBnn ?_;intro n hn)|(refine efB ?_)|(refine efBS ?_)|(refine wl_skip rfl rfl ?_)|((with_reducible refine wc_seq ?_);intro K hK)|(refine auC ?_)|(refine wc_cond rfl (fun hc=>?_) (fun hc=>?_))|(refine wc_draw (by kernel_rfl) (by kernel_rfl) (by decide +kernel) ?_;intro w0 hw0 hm0;(try simp only [List.append_eq,List.cons_append,List.nil_append]))|(refine auP ?_)|((refine auR ?_);clear hK K)|(refine auR ?_)|((with_reducible refine hK _ _ ?_);clear hK K)|fail)
   first|refine end_ret (ResP.tmp rfl ResP.nil) ?_|refine end_normal (ResP.tmp rfl ResP.nil) ?_
   (try dsimp only [tupV])
   exact ⟨(),_,rfl,⟨[],rfl,rfl⟩,.skip (SubL.refl _)⟩
 exact h.mono fun e w2 ⟨_,oa,h1,h2,h3⟩=>⟨h1,h3.below⟩
end Go.Proofs.YtkendlnjaopbeaaGreatDoor
namespace Go.Proofs.YtkendlnjaopbeaaGreatDoor
set_option linter.unusedVariables false
set_option linter.unusedSectionVars false
variable {n:Nat}[NeZero n]{K:Fl n}(E:Ed K)
end Go.Proofs.YtkendlnjaopbeaaGreatDoor
namespace Go.Proofs.YtkendlnjaopbeaaGreatDoor
set_option linter.unusedVariables false
end Go.Proofs.YtkendlnjaopbeaaGreatDoor
namespace Go.Proofs.YtkendlnjaopbeaaGreatDoor
set_option maxRecDepth 100000
end Go.Proofs.YtkendlnjaopbeaaGreatDoor
namespace Go.Proofs.YtkendlnjaopbeaaGreatDoor
set_option linter.unusedVariables false
end Go.Proofs.YtkendlnjaopbeaaGreatDoor
namespace Go.Proofs.YtkendlnjaopbeaaGreatDoor
open Go.RowKit
set_option linter.unusedVariables false
set_option maxHeartbeats 1000000 in
theorem cmp_3_lt (a0 a1 a2 a3 b0 b1 b2 b3:Int)(h:a3<b3)(w:World) :
  Calls Tryz.prog 105 #[.agg #[.int .u64 a0,.int .u64 a1,.int .u64 a2,.int .u64 a3],.agg #[.int .u64 b0,.int .u64 b1,.int .u64 b2,.int .u64 b3]] w (Ret (.int .i64 (-1)) w):=by
 have dh:decide (a3<b3)=true:=decide_eq_true h
 go_enter Tryz.func105,Tryz.ntmps105
 go_wp2
 refine wp_loop_rounds 5 ?_
 rw [rounds_succ]
 go_wp2
 go_region
 go_wp2
 go_returns
 refine ⟨rfl,?_⟩
 repeat' (first|(with_reducible exact Below.refl _ _)|(with_reducible assumption)|(with_reducible refine up_alloc ?_ _)|(with_reducible refine up ?_ _)|(with_reducible refine up_drew ?_)|(with_reducible refine up_row ?_ ?_ _)|(with_reducible refine up_set ?_ ?_ _)|((try dsimp only);first|omega|exact le_size|exact le_size1|exact le_size2|exact le_size3))
set_option maxHeartbeats 1000000 in
theorem cmp_3_gt (a0 a1 a2 a3 b0 b1 b2 b3:Int)(h:b3<a3)(w:World) :
  Calls Tryz.prog 105 #[.agg #[.int .u64 a0,.int .u64 a1,.int .u64 a2,.int .u64 a3],.agg #[.int .u64 b0,.int .u64 b1,.int .u64 b2,.int .u64 b3]] w (Ret (.int .i64 1) w):=by
 have nl:¬a3<b3:=by omega
 have dn:decide (a3<b3)=false:=decide_eq_false nl
 have dh:decide (b3<a3)=true:=decide_eq_true h
 go_enter Tryz.func105,Tryz.ntmps105
 go_wp2
 refine wp_loop_rounds 5 ?_
 rw [rounds_succ]
 go_wp2
 go_region
 go_wp2
 go_region
 go_wp2
 go_returns
 refine ⟨rfl,?_⟩
 repeat' (first|(with_reducible exact Below.refl _ _)|(with_reducible assumption)|(with_reducible refine up_alloc ?_ _)|(with_reducible refine up ?_ _)|(with_reducible refine up_drew ?_)|(with_reducible refine up_row ?_ ?_ _)|(with_reducible refine up_set ?_ ?_ _)|((try dsimp only);first|omega|exact le_size|exact le_size1|exact le_size2|exact le_size3))
set_option maxHeartbeats 1000000 in
theorem cmp_2_lt (a0 a1 a2 a3 b0 b1 b2 b3:Int)(l3:¬a3<b3)(g3:¬b3<a3)(h:a2<b2)(w:World) :
  Calls Tryz.prog 105 #[.agg #[.int .u64 a0,.int .u64 a1,.int .u64 a2,.int .u64 a3],.agg #[.int .u64 b0,.int .u64 b1,.int .u64 b2,.int .u64 b3]] w (Ret (.int .i64 (-1)) w):=by
 have dl3:decide (a3<b3)=false:=decide_eq_false l3
 have dg3:decide (b3<a3)=false:=decide_eq_false g3
 have dh:decide (a2<b2)=true:=decide_eq_true h
 go_enter Tryz.func105,Tryz.ntmps105
 go_wp2
 refine wp_loop_rounds 5 ?_
 rw [rounds_succ]
 go_wp2
 go_region
 go_wp2
 go_region
 go_wp2
 rw [rounds_succ]
 go_wp2
 go_region
 go_wp2
 go_returns
 refine ⟨rfl,?_⟩
 repeat' (first|(with_reducible exact Below.refl _ _)|(with_reducible assumption)|(with_reducible refine up_alloc ?_ _)|(with_reducible refine up ?_ _)|(with_reducible refine up_drew ?_)|(with_reducible refine up_row ?_ ?_ _)|(with_reducible refine up_set ?_ ?_ _)|((try dsimp only);first|omega|exact le_size|exact le_size1|exact le_size2|exact le_size3))
set_option maxHeartbeats 1000000 in
theorem cmp_2_gt (a0 a1 a2 a3 b0 b1 b2 b3:Int)(l3:¬a3<b3)(g3:¬b3<a3)(h:b2<a2)(w:World) :
  Calls Tryz.prog 105 #[.agg #[.int .u64 a0,.int .u64 a1,.int .u64 a2,.int .u64 a3],.agg #[.int .u64 b0,.int .u64 b1,.int .u64 b2,.int .u64 b3]] w (Ret (.int .i64 1) w):=by
 have nl:¬a2<b2:=by omega
 have dl3:decide (a3<b3)=false:=decide_eq_false l3
 have dg3:decide (b3<a3)=false:=decide_eq_false g3
 have dn:decide (a2<b2)=false:=decide_eq_false nl
 have dh:decide (b2<a2)=true:=decide_eq_true h
 go_enter Tryz.func105,Tryz.ntmps105
 go_wp2
 refine wp_loop_rounds 5 ?_
 rw [rounds_succ]
 go_wp2
 go_region
 go_wp2
 go_region
 go_wp2
 rw [rounds_succ]
 go_wp2
 go_region
 go_wp2
 go_region
 go_wp2
 go_returns
 refine ⟨rfl,?_⟩
 repeat' (first|(with_reducible exact Below.refl _ _)|(with_reducible assumption)|(with_reducible refine up_alloc ?_ _)|(with_reducible refine up ?_ _)|(with_reducible refine up_drew ?_)|(with_reducible refine up_row ?_ ?_ _)|(with_reducible refine up_set ?_ ?_ _)|((try dsimp only);first|omega|exact le_size|exact le_size1|exact le_size2|exact le_size3))
set_option maxHeartbeats 1000000 in
theorem cmp_1_lt (a0 a1 a2 a3 b0 b1 b2 b3:Int)(l3:¬a3<b3)(g3:¬b3<a3)(l2:¬a2<b2)(g2:¬b2<a2)(h:a1<b1)(w:World) :
  Calls Tryz.prog 105 #[.agg #[.int .u64 a0,.int .u64 a1,.int .u64 a2,.int .u64 a3],.agg #[.int .u64 b0,.int .u64 b1,.int .u64 b2,.int .u64 b3]] w (Ret (.int .i64 (-1)) w):=by
 have dl3:decide (a3<b3)=false:=decide_eq_false l3
 have dg3:decide (b3<a3)=false:=decide_eq_false g3
 have dl2:decide (a2<b2)=false:=decide_eq_false l2
 have dg2:decide (b2<a2)=false:=decide_eq_false g2
 have dh:decide (a1<b1)=true:=decide_eq_true h
 go_enter Tryz.func105,Tryz.ntmps105
 go_wp2
 refine wp_loop_rounds 5 ?_
 rw [rounds_succ]
 go_wp2
 go_region
 go_wp2
 go_region
 go_wp2
 rw [rounds_succ]
 go_wp2
 go_region
 go_wp2
 go_region
 go_wp2
 rw [rounds_succ]
 go_wp2
 go_region
 go_wp2
 go_returns
 refine ⟨rfl,?_⟩
 repeat' (first|(with_reducible exact Below.refl _ _)|(with_reducible assumption)|(with_reducible refine up_alloc ?_ _)|(with_reducible refine up ?_ _)|(with_reducible refine up_drew ?_)|(with_reducible refine up_row ?_ ?_ _)|(with_reducible refine up_set ?_ ?_ _)|((try dsimp only);first|omega|exact le_size|exact le_size1|exact le_size2|exact le_size3))
set_option maxHeartbeats 1000000 in
theorem cmp_1_gt (a0 a1 a2 a3 b0 b1 b2 b3:Int)(l3:¬a3<b3)(g3:¬b3<a3)(l2:¬a2<b2)(g2:¬b2<a2)(h:b1<a1)(w:World) :
  Calls Tryz.prog 105 #[.agg #[.int .u64 a0,.int .u64 a1,.int .u64 a2,.int .u64 a3],.agg #[.int .u64 b0,.int .u64 b1,.int .u64 b2,.int .u64 b3]] w (Ret (.int .i64 1) w):=by
 have nl:¬a1<b1:=by omega
 have dl3:decide (a3<b3)=false:=decide_eq_false l3
 have dg3:decide (b3<a3)=false:=decide_eq_false g3
 have dl2:decide (a2<b2)=false:=decide_eq_false l2
 have dg2:decide (b2<a2)=false:=decide_eq_false g2
 have dn:decide (a1<b1)=false:=decide_eq_false nl
 have dh:decide (b1<a1)=true:=decide_eq_true h
 go_enter Tryz.func105,Tryz.ntmps105
 go_wp2
 refine wp_loop_rounds 5 ?_
 rw [rounds_succ]
 go_wp2
 go_region
 go_wp2
 go_region
 go_wp2
 rw [rounds_succ]
 go_wp2
 go_region
 go_wp2
 go_region
 go_wp2
 rw [rounds_succ]
 go_wp2
 go_region
 go_wp2
 go_region
 go_wp2
 go_returns
 refine ⟨rfl,?_⟩
 repeat' (first|(with_reducible exact Below.refl _ _)|(with_reducible assumption)|(with_reducible refine up_alloc ?_ _)|(with_reducible refine up ?_ _)|(with_reducible refine up_drew ?_)|(with_reducible refine up_row ?_ ?_ _)|(with_reducible refine up_set ?_ ?_ _)|((try dsimp only);first|omega|exact le_size|exact le_size1|exact le_size2|exact le_size3))
set_option maxHeartbeats 1000000 in
theorem cmp_0_lt (a0 a1 a2 a3 b0 b1 b2 b3:Int)(l3:¬a3<b3)(g3:¬b3<a3)(l2:¬a2<b2)(g2:¬b2<a2)(l1:¬a1<b1)(g1:¬b1<a1)(h:a0<b0)(w:World) :
  Calls Tryz.prog 105 #[.agg #[.int .u64 a0,.int .u64 a1,.int .u64 a2,.int .u64 a3],.agg #[.int .u64 b0,.int .u64 b1,.int .u64 b2,.int .u64 b3]] w (Ret (.int .i64 (-1)) w):=by
 have dl3:decide (a3<b3)=false:=decide_eq_false l3
 have dg3:decide (b3<a3)=false:=decide_eq_false g3
 have dl2:decide (a2<b2)=false:=decide_eq_false l2
 have dg2:decide (b2<a2)=false:=decide_eq_false g2
 have dl1:decide (a1<b1)=false:=decide_eq_false l1
 have dg1:decide (b1<a1)=false:=decide_eq_false g1
 have dh:decide (a0<b0)=true:=decide_eq_true h
 go_enter Tryz.func105,Tryz.ntmps105
 go_wp2
 refine wp_loop_rounds 5 ?_
 rw [rounds_succ]
 go_wp2
 go_region
 go_wp2
 go_region
 go_wp2
 rw [rounds_succ]
 go_wp2
 go_region
 go_wp2
 go_region
 go_wp2
 rw [rounds_succ]
 go_wp2
 go_region
 go_wp2
 go_region
 go_wp2
 rw [rounds_succ]
 go_wp2
 go_region
 go_wp2
 go_returns
 refine ⟨rfl,?_⟩
 repeat' (first|(with_reducible exact Below.refl _ _)|(with_reducible assumption)|(with_reducible refine up_alloc ?_ _)|(with_reducible refine up ?_ _)|(with_reducible refine up_drew ?_)|(with_reducible refine up_row ?_ ?_ _)|(with_reducible refine up_set ?_ ?_ _)|((try dsimp only);first|omega|exact le_size|exact le_size1|exact le_size2|exact le_size3))
set_option maxHeartbeats 1000000 in
theorem cmp_0_gt (a0 a1 a2 a3 b0 b1 b2 b3:Int)(l3:¬a3<b3)(g3:¬b3<a3)(l2:¬a2<b2)(g2:¬b2<a2)(l1:¬a1<b1)(g1:¬b1<a1)(h:b0<a0)(w:World) :
  Calls Tryz.prog 105 #[.agg #[.int .u64 a0,.int .u64 a1,.int .u64 a2,.int .u64 a3],.agg #[.int .u64 b0,.int .u64 b1,.int .u64 b2,.int .u64 b3]] w (Ret (.int .i64 1) w):=by
 have nl:¬a0<b0:=by omega
 have dl3:decide (a3<b3)=false:=decide_eq_false l3
 have dg3:decide (b3<a3)=false:=decide_eq_false g3
 have dl2:decide (a2<b2)=false:=decide_eq_false l2
 have dg2:decide (b2<a2)=false:=decide_eq_false g2
 have dl1:decide (a1<b1)=false:=decide_eq_false l1
 have dg1:decide (b1<a1)=false:=decide_eq_false g1
 have dn:decide (a0<b0)=false:=decide_eq_false nl
 have dh:decide (b0<a0)=true:=decide_eq_true h
 go_enter Tryz.func105,Tryz.ntmps105
 go_wp2
 refine wp_loop_rounds 5 ?_
 rw [rounds_succ]
 go_wp2
 go_region
 go_wp2
 go_region
 go_wp2
 rw [rounds_succ]
 go_wp2
 go_region
 go_wp2
 go_region
 go_wp2
 rw [rounds_succ]
 go_wp2
 go_region
 go_wp2
 go_region
 go_wp2
 rw [rounds_succ]
 go_wp2
 go_region
 go_wp2
 go_region
 go_wp2
 go_returns
 refine ⟨rfl,?_⟩
 repeat' (first|(with_reducible exact Below.refl _ _)|(with_reducible assumption)|(with_reducible refine up_alloc ?_ _)|(with_reducible refine up ?_ _)|(with_reducible refine up_drew ?_)|(with_reducible refine up_row ?_ ?_ _)|(with_reducible refine up_set ?_ ?_ _)|((try dsimp only);first|omega|exact le_size|exact le_size1|exact le_size2|exact le_size3))
set_option maxHeartbeats 1000000 in
theorem cmp_eq (a0 a1 a2 a3 b0 b1 b2 b3:Int)(l3:¬a3<b3)(g3:¬b3<a3)(l2:¬a2<b2)(g2:¬b2<a2)(l1:¬a1<b1)(g1:¬b1<a1)(l0:¬a0<b0)(g0:¬b0<a0)(w:World) :
  Calls Tryz.prog 105 #[.agg #[.int .u64 a0,.int .u64 a1,.int .u64 a2,.int .u64 a3],.agg #[.int .u64 b0,.int .u64 b1,.int .u64 b2,.int .u64 b3]] w (Ret (.int .i64 0) w):=by
 have dl3:decide (a3<b3)=false:=decide_eq_false l3
 have dg3:decide (b3<a3)=false:=decide_eq_false g3
 have dl2:decide (a2<b2)=false:=decide_eq_false l2
 have dg2:decide (b2<a2)=false:=decide_eq_false g2
 have dl1:decide (a1<b1)=false:=decide_eq_false l1
 have dg1:decide (b1<a1)=false:=decide_eq_false g1
 have dl0:decide (a0<b0)=false:=decide_eq_false l0
 have dg0:decide (b0<a0)=false:=decide_eq_false g0
 go_enter Tryz.func105,Tryz.ntmps105
 go_wp2
 refine wp_loop_rounds 5 ?_
 rw [rounds_succ]
 go_wp2
 go_region
 go_wp2
 go_region
 go_wp2
 rw [rounds_succ]
 go_wp2
 go_region
 go_wp2
 go_region
 go_wp2
 rw [rounds_succ]
 go_wp2
 go_region
 go_wp2
 go_region
 go_wp2
 rw [rounds_succ]
 go_wp2
 go_region
 go_wp2
 go_region
 go_wp2
 rw [rounds_succ]
 go_wp2
 go_returns
 refine ⟨rfl,?_⟩
 repeat' (first|(with_reducible exact Below.refl _ _)|(with_reducible assumption)|(with_reducible refine up_alloc ?_ _)|(with_reducible refine up ?_ _)|(with_reducible refine up_drew ?_)|(with_reducible refine up_row ?_ ?_ _)|(with_reducible refine up_set ?_ ?_ _)|((try dsimp only);first|omega|exact le_size|exact le_size1|exact le_size2|exact le_size3))
def cmpI (a b:Nat):Int:=if a<b then -1 else if a=b then 0 else 1
theorem cmp_all (a b:Nat)(ha:a<T256)(hb:b<T256)(w:World):Calls Tryz.prog 105 #[num a,num b] w (Ret (.int .i64 (cmpI a b)) w):=by
 obtain ⟨a0,a1,a2,a3,k0,k1,k2,k3,rfl⟩:=four_of a ha
 obtain ⟨b0,b1,b2,b3,l0,l1,l2,l3,rfl⟩:=four_of b hb
 have k:=limb_four a0 a1 a2 a3 k0 k1 k2 k3
 have l:=limb_four b0 b1 b2 b3 l0 l1 l2 l3
 have lt (h:four a0 a1 a2 a3<four b0 b1 b2 b3):cmpI (four a0 a1 a2 a3) (four b0 b1 b2 b3) = -1:=by unfold cmpI;rw [if_pos h]
 have gt (h:four b0 b1 b2 b3<four a0 a1 a2 a3):cmpI (four a0 a1 a2 a3) (four b0 b1 b2 b3)=1:=by unfold cmpI;rw [if_neg (by omega),if_neg (by omega)]
 have eq (h:four a0 a1 a2 a3=four b0 b1 b2 b3):cmpI (four a0 a1 a2 a3) (four b0 b1 b2 b3)=0:=by unfold cmpI;rw [if_neg (by omega),if_pos h]
 simp only [num,k.1,k.2.1,k.2.2.1,k.2.2.2,l.1,l.2.1,l.2.2.1,l.2.2.2]
 clear k l ha hb
 by_cases p3:a3<b3
 ·rw [lt (by unfold four;omega)];exact cmp_3_lt _ _ _ _ _ _ _ _ (by omega) w
 by_cases q3:b3<a3
 ·rw [gt (by unfold four;omega)];exact cmp_3_gt _ _ _ _ _ _ _ _ (by omega) w
 by_cases p2:a2<b2
 ·rw [lt (by unfold four;omega)];exact cmp_2_lt _ _ _ _ _ _ _ _ (by omega) (by omega) (by omega) w
 by_cases q2:b2<a2
 ·rw [gt (by unfold four;omega)];exact cmp_2_gt _ _ _ _ _ _ _ _ (by omega) (by omega) (by omega) w
 by_cases p1:a1<b1
 ·rw [lt (by unfold four;omega)];exact cmp_1_lt _ _ _ _ _ _ _ _ (by omega) (by omega) (by omega) (by omega) (by omega) w
 by_cases q1:b1<a1
 ·rw [gt (by unfold four;omega)];exact cmp_1_gt _ _ _ _ _ _ _ _ (by omega) (by omega) (by omega) (by omega) (by omega) w
 by_cases p0:a0<b0
 ·rw [lt (by unfold four;omega)];exact cmp_0_lt _ _ _ _ _ _ _ _ (by omega) (by omega) (by omega) (by omega) (by omega) (by omega) (by omega) w
 by_cases q0:b0<a0
 ·rw [gt (by unfold four;omega)];exact cmp_0_gt _ _ _ _ _ _ _ _ (by omega) (by omega) (by omega) (by omega) (by omega) (by omega) (by omega) w
 rw [eq (by unfold four;omega)];exact cmp_eq _ _ _ _ _ _ _ _ (by omega) (by omega) (by omega) (by omega) (by omega) (by omega) (by omega) (by omega) w
end Go.Proofs.YtkendlnjaopbeaaGreatDoor
namespace Go.Proofs.YtkendlnjaopbeaaGreatDoor
open Go.RowKit
set_option linter.unusedVariables false
theorem cmp_nu (a b:Nat)(ha:a<T256)(hb:b<T256)(w:World):Calls Tryz.prog 105 #[nu a,nu b] w (Ret (.int .i64 (cmpI a b)) w):=by
 rw [←nu_num,←nu_num];exact cmp_all a b ha hb w
end Go.Proofs.YtkendlnjaopbeaaGreatDoor
