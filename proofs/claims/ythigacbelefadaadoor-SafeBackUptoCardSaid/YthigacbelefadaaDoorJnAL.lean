/- The package safe,walked: Unpack,told by what is unpacked. A lock's state is equal to itself. The laws' sameHeld and sameKept: walked. What came in: attributes,lists of these,held objects;how large they are. What a [32]uint8 is that came in,as a list of bytes. What is kept,as it came in. Closed facts of the translation that hang on its long word of the order of beginnings: read once,by the signs of the word. The table of the roots: what a row's list gives,and a world for the witness. -/
import Derived.Test.YthigacbelefadaaDoorSafeU
import Derived.Test.YthigacbelefadaaDoorJnAC
import Derived.Test.YthigacbelefadaaDoorJnAB
import Derived.Test.YthigacbelefadaaDoorTok
import Derived.Test.YthigacbelefadaaDoorJnAE
import Derived.Test.YthigacbelefadaaDoorJnAD
import Derived.Test.YthigacbelefadaaDoorStoC
import Derived.Test.YthigacbelefadaaDoorProg
import Derived.JoinedOf
import Derived.WalkKit
import Derived.Test.YthigacbelefadaaDoorRows
import Derived.Test.YthigacbelefadaaDoorShaB
import Derived.Lib.LaidTab
import Derived.Deep.DeepHandedRow
namespace Go.Proofs.YthigacbelefadaaDoor
open Go.RowKit
attribute [local irreducible] rwA bys iw blkD byteD MS.sum MS.write
set_option linter.unusedVariables false
set_option linter.unusedSimpArgs false
set_option maxRecDepth 100000
set_option maxHeartbeats 4000000 in
theorem sun_err (w:World){v:Value}{n:Nat}{p:List Nat}(h:Cb w v n p)(he:(rdD p).1≠0) :
  Calls Tryd.prog 6 [v].toArray w (RetO (fun x:Int=>.tuple #[kzV,.int .i64 x]) (fun x oa=>(x != 0)=true) w):=by
 have i0:=h.old
 have RN:=fun w' (h:Cb w' v n p)=>read_no w' h rfl he
 have t1:(((rdD p).1:Int) != 0)=true:=by simp only [bne_iff_ne,ne_eq];omega
 clear h he
 generalize (rdD p).1=er at *
 refine fn_own (N:=_) Tryd.func6 rfl Tryd.ntmps6 Tryd.results6 (by simp) ?_
 simp only [initS,Nat.reduceAdd,Nat.zero_add]
 repeat' (first|(refine wlS ?_)|(refine wlG ?_)|(refine wlBZ ?_)|(refine wlB ?_)|((with_reducible refine sel_call ?_);refine wl_rd rfl rfl (rd_call rfl rfl rfl (fun w hm=>by with_reducible exact RN w (VwB.out w hm))) ?_)|(refine wlE ?_)|(refine efSvao ?_;intro v oa ho)|(refine efG ?_)|(refine efGnn ?_;intro n hn)|(refine efBnn ?_;intro n hn)|(refine efB ?_)|(refine efBS ?_)|(refine wl_skip rfl rfl ?_)|(refine wdS ?_)|(refine wdG ?_)|(refine wdV ?_)|(refine wdB ?_)|((with_reducible refine seld_call ?_);refine wd_rd hm0 rfl rfl rfl rfl (rd_call rfl rfl rfl (fun w hm=>by with_reducible exact RN w (VwB.out w hm))) ?_)|(refine wdE ?_)|(refine wdT ?_)|(refine wdTO ?_)|(refine wd_skip rfl rfl ?_)|((with_reducible refine seld_nil ?_);refine wd_nil hm0 ?_;clear hm0 hw0)|((with_reducible refine wc_seq ?_);intro K hK)|(refine auC ?_)|(refine wc_cond rfl (fun hc=>?_) (fun hc=>?_))|(refine wc_draw (by kernel_rfl) (by kernel_rfl) (by decide +kernel) ?_;intro w0 hw0 hm0;(try simp only [List.append_eq,List.cons_append,List.nil_append]))|(refine auP ?_)|((refine auR ?_);clear hK K)|(refine auR ?_)|((with_reducible refine hK _ _ ?_);clear hK K)|fail)
 first|refine end_ret (ResP.cell rfl ld_wholeG (ResP.tmp rfl ResP.nil)) ?_|refine end_normal (ResP.cell rfl ld_wholeG (ResP.tmp rfl ResP.nil)) ?_
 (try dsimp only [tupV])
 exact ⟨(er:Int),[],rfl,t1,.nil⟩
theorem sun_no (w:World)(hT:Tab w){v:Value}{n:Nat}{p:List Nat}(h:Cb w v n p)(hs:¬SafeOk p) :
  Calls Tryd.prog 6 [v].toArray w (RetO (fun x:Int=>.tuple #[kzV,.int .i64 x]) (fun x oa=>(x != 0)=true) w):=by
 by_cases he:(rdD p).1=0
 ·refine (sun_c w hT h he).mono fun e w2 ⟨x,oa,h1,h2,h3⟩=>?_
  rcases h2 with ⟨a1,a2,a3,a4⟩ | ⟨a1,a2,pv,lv,cv,l,a3,a4,a5,a6⟩
  ·exact ⟨x.2,oa,by rw [h1];dsimp only;rw [a2],by dsimp only;rw [bne_iff_ne];exact a1,h3⟩
  ·exact absurd ⟨he,a2,l,a5,a6⟩ hs
 ·exact sun_err w h he
theorem sun_yes (w:World)(hT:Tab w){v:Value}{n:Nat}{p:List Nat}(h:Cb w v n p)(hs:SafeOk p) :
  Calls Tryd.prog 6 [v].toArray w (RetO (fun y:Option Addr×Nat×Nat=>.tuple #[kpV' (unPl (rdD p).2) (unM (rdD p).2 1) (unZ (rdD p).2 1:Int) (unM (rdD p).2 2) (unZ (rdD p).2 2:Int) (unNx (rdD p).2:Int) (.slice y.1 y.2.1 y.2.2),.int .i64 0])
   (fun y oa=>∃ l:List He,OwnH (.slice y.1 y.2.1 y.2.2) l oa∧l.map absH=unH (rdD p).2∧KOk (unZ (rdD p).2 1:Int) (unZ (rdD p).2 2:Int) (unNx (rdD p).2:Int) l) w):=
 (sun_c w hT h hs.rd).mono fun e w2 ⟨x,oa,h1,h2,h3⟩=>by
  rcases h2 with ⟨a1,a2,a3,a4⟩ | ⟨a1,a2,pv,lv,cv,l,a3,a4,a5,a6⟩
  ·exact absurd hs a4
  ·exact ⟨(pv,lv,cv),oa,by rw [h1];dsimp only;rw [a1,a3],⟨l,a4,a5,a6⟩,h3⟩
end Go.Proofs.YthigacbelefadaaDoor
namespace Go.Proofs.YthigacbelefadaaDoor
open Go.RowKit
set_option linter.unusedVariables false
set_option linter.unusedSimpArgs false
theorem lock_fields:∃ f0 f1:Field,(Tryd.prog.fieldsOf 25).toList=[f0,f1]∧decide (f0.name≠ "_")=true∧decide (f1.name≠ "_")=true∧f0.type=23∧f1.type=3∧f0.offset=0∧f1.offset=32:=
 ⟨(Tryd.prog.fieldsOf 25)[0]!,(Tryd.prog.fieldsOf 25)[1]!,by kernel_rfl,by decide +kernel,by decide +kernel,by kernel_rfl,by kernel_rfl,by kernel_rfl,by kernel_rfl⟩
theorem eql_bysD (d:Nat){a:List Nat}(ha:a.length=32)(w:World):(Op.equalIn (d+2) 23 (.agg (bys a)) (.agg (bys a))).run Tryd.prog w=.ok true w:=by
 have h:=eql_ints (P:=Tryd.prog) (t:=23) (e:=5) (k:=.u8) (k':=.u8) w d 32 (a.map fun k:Nat=>(k:Int)) (a.map fun k:Nat=>(k:Int)) (by kernel_rfl) (by kernel_rfl) (by kernel_rfl) (by kernel_rfl) (by kernel_rfl) (by simp [ha]) (by simp [ha])
 rw [←bys_Z] at h
 rw [h];simp
theorem lk_a0 (A:Array Value)(mk:List Nat)(lf:Nat)(hl:(bl mk).length=32)(hA:A.toList=bl mk++[.int .i64 (lf:Int)])(w:World):(part 23 A 0).run Tryd.prog w=.ok (.agg (bys mk)) w:=by
  exact part_row (P:=Tryd.prog) (t:=23) (off:=0) (k:=32) (cs:=A) (cs':=bl mk) (by rw [hA,List.drop_zero];exact List.take_left' hl) w
theorem lk_a1 (A:Array Value)(mk:List Nat)(lf:Nat)(hl:(bl mk).length=32)(hA:A.toList=bl mk++[.int .i64 (lf:Int)])(w:World):(part 3 A 32).run Tryd.prog w=.ok (.int .i64 (lf:Int)) w:=
  run_part_plain (P:=Tryd.prog) w (by kernel_rfl) (by rw [←Array.getElem?_toList,hA,List.getElem?_append_right (by omega),hl];rfl)
theorem lk_e1 (d lf:Nat)(w:World):(Op.equalIn (d+2) 3 (.int .i64 (lf:Int)) (.int .i64 (lf:Int))).run Tryd.prog w=.ok true w:=by
  have:=run_equalIn_int (P:=Tryd.prog) w (d+1) 3 .i64 .i64 (lf:Int) (lf:Int) (by kernel_rfl)
  rwa [beq_self_eq_true] at this
theorem lk_st (d:Nat)(A:Array Value)(f0 f1:Field)(hf:(Tryd.prog.fieldsOf 25).toList=[f0,f1])(w:World):(Op.equalIn (d+3) 25 (.agg A) (.agg A)).run Tryd.prog w=(Op.eqFields (d+2) A A [f0,f1]).run Tryd.prog w:=by
 rw [run_equalIn_struct w (d+2) _ _ _ (by kernel_rfl) (by kernel_rfl),hf]
theorem lk_fin {P:Program}(d:Nat)(A:Array Value)(f0 f1:Field)(x y:Value)(a b:Nat)(w:World)(n0':f0.name≠ "_")(n1':f1.name≠ "_")(t0:f0.type=a)(t1:f1.type=b)(o0:f0.offset=0)(o1:f1.offset=32)
  (a0:(part a A 0).run P w=.ok x w) (a1:(part b A 32).run P w=.ok y w) (e0:(Op.equalIn d a x x).run P w=.ok true w) (e1:(Op.equalIn d b y y).run P w=.ok true w):(Op.eqFields d A A [f0,f1]).run P w=.ok true w:=by
 simp only [Op.eqFields,n0',n1',t0,t1,o0,o1,not_false_eq_true,ne_eq,if_true,if_false,Sem.run_bind,a0,a1,Result.andThen_ok,e0,e1,Bool.not_true,Bool.not_false,Bool.false_eq_true,Sem.run_pure]
theorem eq_lockD (d:Nat)(mk:List Nat)(lf:Nat)(hm:mk.length=32)(w:World):(Op.equalIn (d+3) 25 (.agg (rwA (sgK mk lf))) (.agg (rwA (sgK mk lf)))).run Tryd.prog w=.ok true w:=by
 obtain ⟨f0,f1,hf,n0,n1,t0,t1,o0,o1⟩:=lock_fields
 have hl:(bl mk).length=32:=by rw [bl_len,hm]
 have hA:(rwA (sgK mk lf)).toList=bl mk++[.int .i64 (lf:Int)]:=by simp [rwA,rwL,bys]
 rw [lk_st d _ f0 f1 hf]
 exact lk_fin (d+2) _ f0 f1 _ _ _ _ w (of_decide_eq_true n0) (of_decide_eq_true n1) t0 t1 o0 o1 (lk_a0 _ mk lf hl hA w) (lk_a1 _ mk lf hl hA w) (eql_bysD d hm w) (lk_e1 d lf w)
theorem eq_lock (mk:List Nat)(lf:Nat)(hm:mk.length=32)(w:World):(Op.equalIn 10000 25 (.agg (rwA (sgK mk lf))) (.agg (rwA (sgK mk lf)))).run Tryd.prog w=.ok true w:=eq_lockD 9997 mk lf hm w
end Go.Proofs.YthigacbelefadaaDoor
namespace Go.Proofs.YthigacbelefadaaDoor
open Go.RowKit
attribute [local irreducible] rwA bys iw
set_option linter.unusedVariables false
set_option linter.unusedSimpArgs false
set_option maxRecDepth 100000
theorem hesC_at {l:List He}{i j:Nat}{x:He}(h:l[i]? = some x)(hj:j<3):(hesC l)[i * 3+j]? = (heC x)[j]?:=by
 have:=congrArg (·[j]?) (hesC_get h)
 simp only [List.getElem?_take,List.getElem?_drop,if_pos hj] at this
 exact this
set_option maxHeartbeats 8000000 in
theorem sameH_c (w:World){va vb:Value}{ps qs:List He}(h1:Hes w va ps)(h2:Hes w vb qs)(he:ps.map absH=qs.map absH) :
  Calls Tryd.prog 18 [va,vb].toArray w (Ret (.bool true) w):=by
 haveI i1:=h1.cs.old
 haveI i2:=h2.cs.old
 have hl63:ps.length≤9223372036854775807:=by obtain ⟨_,_,_,h1,h2,_⟩:=h1.cs.ln.out;simp only [maxLen] at h2;omega
 have hB:=h1.body
 have hC:=h2.body
 have hl:ps.length=qs.length:=by have:=congrArg List.length he;rwa [List.length_map,List.length_map] at this
 have t1:((ps.length:Int) != (qs.length:Int))=false:=by rw [hl];simp
 clear h1 h2
 refine fn_ret (N:=_) Tryd.func18 rfl Tryd.ntmps18 Tryd.results18 (by simp) ?_
 simp only [initS,Nat.reduceAdd,Nat.zero_add]
 repeat' (first|(refine wlS ?_)|(refine wlB ?_)|(refine wlE ?_)|(refine efSvao ?_;intro v oa ho)|(refine wl_skip rfl rfl ?_)|(refine wdS ?_)|(refine wdV ?_)|(refine wdB ?_)|(refine wdE ?_)|(refine wd_skip rfl rfl ?_)|((with_reducible refine seld_nil ?_);refine wd_nil hm0 ?_;clear hm0 hw0)|((with_reducible refine wc_seq ?_);intro K hK)|(refine auC ?_)|(refine wc_cond rfl (fun hc=>?_) (fun hc=>?_))|(refine wc_draw (by kernel_rfl) (by kernel_rfl) (by decide +kernel) ?_;intro w0 hw0 hm0;(try simp only [List.append_eq,List.cons_append,List.nil_append]))|(refine auP ?_)|((refine auR ?_);clear hK K)|(refine auR ?_)|((with_reducible refine hK _ _ ?_);clear hK K)|fail)
 refine wc_loop (σ:=Nat) (fun i=>[(0,va),(1,vb),(12,.int .i64 (ps.length:Int)),(13,.int .i64 (i:Int))]) (fun _=>[]) (fun i=>i≤ps.length) (fun i=>ps.length - i) 0 (Nat.zero_le _) (Fits.of ⟨rfl,rfl,rfl,rfl,trivial⟩ .nil rfl) ?_
 rintro i hi
 by_cases hlt:i<ps.length
 ·have t2:decide ((i:Int)<(ps.length:Int))=true:=decide_eq_true (by omega)
  have k1:IntKind.i64.wrap ((i:Int)+1)=((i+1:Nat):Int):=by rw [wrap_i64 _ (by omega) (by omega)];omega
  have j1:(i:Int)<(ps.length:Int):=by omega
  have j2:(i:Int)<(qs.length:Int):=by omega
  obtain ⟨⟨ha,oa_,x,p⟩,g1⟩:∃ x,ps[i]? = some x:=⟨ps[i],List.getElem?_eq_getElem hlt⟩
  obtain ⟨⟨hb,ob_,y,q⟩,f1⟩:∃ x,qs[i]? = some x:=⟨qs[i],List.getElem?_eq_getElem (by omega)⟩
  have hxy:absH (ha,oa_,x,p)=absH (hb,ob_,y,q):=by
   have:=congrArg (·[i]?) he
   simp only [List.getElem?_map,g1,f1,Option.map_some,Option.some.injEq] at this
   exact this
  have e1:ha=hb:=congrArg (·.1) hxy
  have e2:oa_=ob_:=congrArg (·.2.1) hxy
  have e3:abs p=abs q:=congrArg (·.2.2) hxy
  subst e1;subst e2
  have c1:=(hB _ (List.mem_of_getElem? g1)).old
  have c2:=(hC _ (List.mem_of_getElem? f1)).old
  have ga:=hesC_at g1 (j:=0) (by decide)
  have gb:=hesC_at g1 (j:=1) (by decide)
  have gc:=hesC_at g1 (j:=2) (by decide)
  have fa:=hesC_at f1 (j:=0) (by decide)
  have fb:=hesC_at f1 (j:=1) (by decide)
  have fc:=hesC_at f1 (j:=2) (by decide)
  simp only [heC,List.getElem?_cons_zero,List.getElem?_cons_succ,Nat.add_zero] at ga gb gc fa fb fc
  dsimp only at c1 c2
  have t3:(ha != ha)=false:=by simp
  have t4:(oa_ != oa_)=false:=by simp
  have SA:=fun w' (h1:Ats w' x p) (h2:Ats w' y q)=>sameA_c w' h1 h2 (r:=true) (by rw [e3];simp)
  clear hB hC g1 f1 he hxy
  repeat' (first|(refine wlS ?_)|(refine wlB ?_)|((with_reducible refine sel_call ?_);refine wl_rd rfl rfl (rd_call rfl rfl rfl (fun w hm=>by with_reducible exact SA w (VwT.out w hm) (VwT.out w hm))) ?_)|(refine wlE ?_)|(refine efSvao ?_;intro v oa ho)|(refine wl_skip rfl rfl ?_)|(refine wdS ?_)|(refine wdV ?_)|(refine wdB ?_)|((with_reducible refine seld_call ?_);refine wd_rd hm0 rfl rfl rfl rfl (rd_call rfl rfl rfl (fun w hm=>by with_reducible exact SA w (VwT.out w hm) (VwT.out w hm))) ?_)|(refine wdE ?_)|(refine wd_skip rfl rfl ?_)|((with_reducible refine seld_nil ?_);refine wd_nil hm0 ?_;clear hm0 hw0)|((with_reducible refine wc_seq ?_);intro K hK)|(refine auC ?_)|(refine wc_cond rfl (fun hc=>?_) (fun hc=>?_))|(refine wc_draw (by kernel_rfl) (by kernel_rfl) (by decide +kernel) ?_;intro w0 hw0 hm0;(try simp only [List.append_eq,List.cons_append,List.nil_append]))|(refine auP ?_)|((refine auR ?_);clear hK K)|(refine auR ?_)|((with_reducible refine hK _ _ ?_);clear hK K)|fail)
  exact ⟨i+1,hlt,by omega,Fits.of ⟨rfl,rfl,rfl,rfl,trivial⟩ .nil rfl⟩
 ·obtain rfl:i=ps.length:=by omega
  have t2:decide ((ps.length:Int)<(ps.length:Int))=false:=decide_eq_false (by omega)
  clear hB hC
  repeat' (first|(refine wlS ?_)|(refine wlB ?_)|(refine wlE ?_)|(refine efSvao ?_;intro v oa ho)|(refine wl_skip rfl rfl ?_)|(refine wdS ?_)|(refine wdV ?_)|(refine wdB ?_)|(refine wdE ?_)|(refine wd_skip rfl rfl ?_)|((with_reducible refine seld_nil ?_);refine wd_nil hm0 ?_;clear hm0 hw0)|((with_reducible refine wc_seq ?_);intro K hK)|(refine auC ?_)|(refine wc_cond rfl (fun hc=>?_) (fun hc=>?_))|(refine wc_draw (by kernel_rfl) (by kernel_rfl) (by decide +kernel) ?_;intro w0 hw0 hm0;(try simp only [List.append_eq,List.cons_append,List.nil_append]))|(refine auP ?_)|((refine auR ?_);clear hK K)|(refine auR ?_)|((with_reducible refine hK _ _ ?_);clear hK K)|fail)
  first|refine end_ret (ResP.tmp rfl ResP.nil) ?_|refine end_normal (ResP.tmp rfl ResP.nil) ?_
  first|rfl|(show _=_;rfl)|(simp only [tupV, *];done)
set_option maxHeartbeats 8000000 in
theorem sameK_c (w:World){va vb:Value}{ps qs:List He}(h1:Hes w va ps)(h2:Hes w vb qs)(he:ps.map absH=qs.map absH){pl k1 k2:Nat}{nx:Int}{m1 m2:List Nat}[NBy m1 32][ByL m1][NBy m2 32][ByL m2] :
  Calls Tryd.prog 7 [kpV' pl m1 (k1:Int) m2 (k2:Int) nx va,kpV' pl m1 (k1:Int) m2 (k2:Int) nx vb].toArray w (Ret (.bool true) w):=by
 have SH:=fun w' (hb:Below w.heap.size w w')=>sameH_c w' (h1.below hb) (h2.below hb) he
 haveI:One va:=⟨by obtain ⟨_,_,rfl,_⟩:=h1.cs.ln.out;rfl⟩
 haveI:One vb:=⟨by obtain ⟨_,_,rfl,_⟩:=h2.cs.ln.out;rfl⟩
 have i1:=h1.cs.old
 have i2:=h2.cs.old
 have q1:=eq_lock m1 k1 NBy.out
 have q2:=eq_lock m2 k2 NBy.out
 have t1:((pl:Int) == (pl:Int))=true:=by simp
 have t2:(nx == nx)=true:=by simp
 clear h1 h2
 refine fn_ret (N:=_) Tryd.func7 rfl Tryd.ntmps7 Tryd.results7 (by simp) ?_
 simp only [initS,Nat.reduceAdd,Nat.zero_add]
 repeat' (first|(refine wlS ?_)|(refine wlG ?_)|(refine wlB ?_)|((with_reducible refine sel_b_eql ?_);refine wv rfl rfl (rd_eqlV rfl rfl rfl (by with_reducible exact q1)) ?_)|((with_reducible refine sel_b_eql ?_);refine wv rfl rfl (rd_eqlV rfl rfl rfl (by with_reducible exact q2)) ?_)|((with_reducible refine sel_call ?_);refine wl_rd rfl rfl (rd_call rfl rfl rfl (fun w hm=>by with_reducible exact SH w (hm.below rfl))) ?_)|(refine wlE ?_)|(refine efSvao ?_;intro v oa ho)|(refine efBnn ?_;intro n hn)|(refine wl_skip rfl rfl ?_)|((with_reducible refine wc_seq ?_);intro K hK)|(refine auC ?_)|(refine wc_cond rfl (fun hc=>?_) (fun hc=>?_))|(refine wc_draw (by kernel_rfl) (by kernel_rfl) (by decide +kernel) ?_;intro w0 hw0 hm0;(try simp only [List.append_eq,List.cons_append,List.nil_append]))|(refine auP ?_)|((refine auR ?_);clear hK K)|(refine auR ?_)|((with_reducible refine hK _ _ ?_);clear hK K)|fail)
 first|refine end_ret (ResP.tmp rfl ResP.nil) ?_|refine end_normal (ResP.tmp rfl ResP.nil) ?_
 first|rfl|(show _=_;rfl)|(simp only [tupV, *];done)
end Go.Proofs.YthigacbelefadaaDoor
namespace Go.Proofs.YthigacbelefadaaDoor
open Go.RowKit Go.ChangeShapes Go.WideShapes
set_option linter.unusedVariables false
set_option linter.unusedSimpArgs false
set_option maxRecDepth 100000
structure SmB (k:Nat)(l:List Att):Prop where
 len:l.length≤k
 each:∀ x∈l,x.2.2.length≤k
theorem SmB.small {k:Nat}{l:List Att}(h:SmB k l)(hk:k≤1048576):Small l:=⟨Nat.le_trans h.len hk,fun x hx=>Nat.le_trans (h.each x hx) hk⟩
theorem SmB.mono {k m:Nat}{l:List Att}(h:SmB k l)(hk:k≤m):SmB m l:=⟨Nat.le_trans h.len hk,fun x hx=>Nat.le_trans (h.each x hx) hk⟩
structure SmH (k:Nat)(l:List He):Prop where
 len:l.length≤k
 each:∀ x∈l,SmB k x.2.2.2
abbrev At2:=Value×List Att
structure AtsL (w:World)(v:Value)(l:List At2):Prop where
 cs:Cs w v l.length (l.map (·.1))
 body:∀ x∈l,Ats w x.1 x.2
structure SmL (k:Nat)(l:List At2):Prop where
 len:l.length≤k
 each:∀ x∈l,SmB k x.2
section
variable {W:World}
theorem rdg_attsK:Rdg Tryd.prog W 47 fun cs b=>∃ v,∃ l:List Att,cs=[v]∧Ats W v l∧SmB b l∧1≤b:=fun H enc fuel cs x hx=>by
 obtain ⟨v,n,cc,h1,h2,h3,h4,h5⟩:=rdg_slice (e:=86) (by kernel_rfl) cells_att (by decide) rdg_att H enc fuel cs x hx
 have key:∀ l:List (List Value×Nat),(∀ c∈l,(∃ x:Att,c.1=atC x∧Cb W x.2.1 x.2.2.length x.2.2∧x.2.2.length+2≤c.2)∧c.1.length=2)→∃ its:List Att,(l.map (·.1)).flatten=atsC its∧its.length=l.length∧(∀ x∈its,Cb W x.2.1 x.2.2.length x.2.2)∧l.length≤(l.map (·.2)).sum∧∀ x∈its,x.2.2.length≤(l.map (·.2)).sum:=by
  intro l
  induction l with
  | nil=>intro _;exact ⟨[],rfl,rfl,by simp,by simp,by simp⟩
  | cons c r ih=>
   intro h
   obtain ⟨its,e1,e2,e3,e4,e5⟩:=ih fun d hd=>h d (by simp [hd])
   obtain ⟨⟨x,f1,f2,f4⟩,_⟩:=h c (by simp)
   refine ⟨x::its,?_,by simp [e2],fun y hy=>?_,by simp only [List.map_cons,List.sum_cons,List.length_cons];omega,fun y hy=>?_⟩
   ·rw [List.map_cons,List.flatten_cons,e1,f1];simp [atsC]
   ·rcases List.mem_cons.1 hy with rfl|hy
    ·exact f2
    ·exact e3 y hy
   ·simp only [List.map_cons,List.sum_cons]
    rcases List.mem_cons.1 hy with rfl|hy
    ·omega
    ·have:=e5 y hy;omega
 obtain ⟨its,e1,e2,e3,e4,e5⟩:=key cc h3
 rw [e1] at h4
 exact ⟨v,its,h1,⟨by rw [e2,h2];exact h4,e3⟩,⟨by omega,fun x hx=>by have:=e5 x hx;omega⟩,by omega⟩
theorem open_attsK {r:Reach}{b0:Nat}{v:Value}{H:Type}{enc:TypeId×Value→H}{d:DataW H}{q:List MemPlace}(hv:Value.okWide Tryd.prog W r b0 47 v)(h:DataW.Trod enc Tryd.prog W 0 (fun _=>true) true 47 v d q) :
  ∃ l:List Att,Ats W v l∧SmB (Rows.uptoBulk d) l:=by
 obtain ⟨a,len,cap,rfl⟩:=okWide_slice (e:=86) (by kernel_rfl) hv
 obtain ⟨v',l,h1,h2,h3,_⟩:=open_cell (r:=r) (b0:=b0) rdg_attsK rfl h
 cases h1
 exact ⟨l,h2,h3⟩
theorem cells_attsK:Tryd.prog.cellsOf 47=1:=by kernel_rfl
theorem cells_held:Tryd.prog.cellsOf 49=3:=by kernel_rfl
theorem cells_intH:Tryd.prog.cellsOf 3=1:=by kernel_rfl
theorem rdg_held:Rdg Tryd.prog W 49 fun cs b=>∃ x:He,cs=heC x∧Ats W x.2.2.1 x.2.2.2∧SmB b x.2.2.2∧1≤b:=
 (rdg_struct Tryd.underlying49 (fun i cs b=>if i=2 then ∃ v,∃ l:List Att,cs=[v]∧Ats W v l∧SmB b l∧1≤b else ∃ z,cs=[.int .i64 z]) (fun i f hf=>by
  match i,hf with
  | 0,hf=>simp at hf;subst hf;exact (rdg_int (k:=.i64) (by kernel_rfl)).mono fun cs b ⟨z,hz,_⟩=>⟨z,hz⟩
  | 1,hf=>simp at hf;subst hf;exact (rdg_int (k:=.i64) (by kernel_rfl)).mono fun cs b ⟨z,hz,_⟩=>⟨z,hz⟩
  | 2,hf=>simp at hf;subst hf;exact rdg_attsK
  | n+3,hf=>simp at hf)).mono fun cs b ⟨bs,hl,hbs,hf,hb⟩=>by
  rw [cells_held] at hl
  obtain ⟨c0,c1,c2,rfl⟩:∃ c0 c1 c2,cs=[c0,c1,c2]:=by
   match cs,hl with | [c0,c1,c2],_=>exact ⟨c0,c1,c2,rfl⟩
  obtain ⟨z0,h0⟩:∃ z,List.take (Tryd.prog.cellsOf 3) (List.drop 0 [c0,c1,c2])=[.int .i64 z]:=hf 0 _ rfl
  obtain ⟨z1,h1⟩:∃ z,List.take (Tryd.prog.cellsOf 3) (List.drop 1 [c0,c1,c2])=[.int .i64 z]:=hf 1 _ rfl
  obtain ⟨v,l,h2,h3,h4,h5⟩:∃ v,∃ l:List Att,List.take (Tryd.prog.cellsOf 47) (List.drop 2 [c0,c1,c2])=[v]∧Ats W v l∧SmB (bs.getD 2 0) l∧1≤bs.getD 2 0:=hf 2 _ rfl
  rw [cells_intH] at h0 h1
  rw [cells_attsK] at h2
  simp at h0 h1 h2
  subst h0;subst h1;subst h2
  have hle:bs.getD 2 0≤bs.sum:=by
   match bs,hbs with
   | [a,b,c],_=>simp;omega
  exact ⟨(z0,z1,c2,l),rfl,h3,h4.mono (by omega),by omega⟩
theorem rdg_heldsK:Rdg Tryd.prog W 26 fun cs b=>∃ v,∃ l:List He,cs=[v]∧Hes W v l∧SmH b l∧1≤b:=fun H enc fuel cs x hx=>by
 obtain ⟨v,n,cc,h1,h2,h3,h4,h5⟩:=rdg_slice (e:=49) (by kernel_rfl) cells_held (by decide) rdg_held H enc fuel cs x hx
 have key:∀ l:List (List Value×Nat),(∀ c∈l,(∃ x:He,c.1=heC x∧Ats W x.2.2.1 x.2.2.2∧SmB c.2 x.2.2.2∧1≤c.2)∧c.1.length=3)→∃ its:List He,(l.map (·.1)).flatten=hesC its∧its.length=l.length∧(∀ x∈its,Ats W x.2.2.1 x.2.2.2)∧l.length≤(l.map (·.2)).sum∧∀ x∈its,SmB (l.map (·.2)).sum x.2.2.2:=by
  intro l
  induction l with
  | nil=>intro _;exact ⟨[],rfl,rfl,by simp,by simp,by simp⟩
  | cons c r ih=>
   intro h
   obtain ⟨its,e1,e2,e3,e4,e5⟩:=ih fun d hd=>h d (by simp [hd])
   obtain ⟨⟨x,f1,f2,f3,f4⟩,_⟩:=h c (by simp)
   refine ⟨x::its,?_,by simp [e2],fun y hy=>?_,by simp only [List.map_cons,List.sum_cons,List.length_cons];omega,fun y hy=>?_⟩
   ·rw [List.map_cons,List.flatten_cons,e1,f1];simp [hesC]
   ·rcases List.mem_cons.1 hy with rfl|hy
    ·exact f2
    ·exact e3 y hy
   ·simp only [List.map_cons,List.sum_cons]
    rcases List.mem_cons.1 hy with rfl|hy
    ·exact f3.mono (by omega)
    ·exact (e5 y hy).mono (by omega)
 obtain ⟨its,e1,e2,e3,e4,e5⟩:=key cc h3
 rw [e1] at h4
 refine ⟨v,its,h1,⟨?_,e3⟩,⟨by omega,fun x hx=>(e5 x hx).mono (by omega)⟩,by omega⟩
 rw [e2,h2];exact h4
theorem open_held {r:Reach}{b0:Nat}{v:Value}{H:Type}{enc:TypeId×Value→H}{d:DataW H}{q:List MemPlace}(hv:Value.okWide Tryd.prog W r b0 26 v)(h:DataW.Trod enc Tryd.prog W 0 (fun _=>true) true 26 v d q) :
  ∃ l:List He,Hes W v l∧SmH (Rows.uptoBulk d) l:=by
 obtain ⟨a,len,cap,rfl⟩:=okWide_slice (e:=49) (by kernel_rfl) hv
 obtain ⟨v',l,h1,h2,h3,h4⟩:=open_cell (r:=r) (b0:=b0) rdg_heldsK rfl h
 cases h1
 exact ⟨l,h2,h3⟩
end
end Go.Proofs.YthigacbelefadaaDoor
namespace Go.Proofs.YthigacbelefadaaDoor
open Go.RowKit Go.ChangeShapes Go.WideShapes
set_option linter.unusedVariables false
structure ArB (n:Nat)(v:Value)(d:List Nat):Prop where
 eq:v=.agg (bys d)
 len:d.length=n
 by':∀ x∈d,x<256
theorem open_arrl {P:Program}{t e:TypeId}{n:Nat}{H:Type}{enc:TypeId×Value→H}{W:World}{r:Reach}{b0:Nat}{v:Value}{d:DataW H}{q:List MemPlace}(ht:P.underlying t=some (.array n e))(he:P.underlying e=some (.int .u8))(hce:P.cellsOf e=1)(hct:P.cellsOf t=n)
  (hv:Value.okWide P W r b0 t v) (h:DataW.Trod enc P W 0 (fun _=>true) true t v d q):∃ d:List Nat,ArB n v d∧True:=by
 obtain ⟨zs,h1,h2,h3⟩:=open_array ht he hce hct hv h
 refine ⟨zs.map Int.toNat,⟨?_,by rw [List.length_map,h1],?_⟩,trivial⟩
 ·rw [h2,bys,bl,List.map_map]
  congr 2
  refine List.map_congr_left fun z hz=>?_
  have:=h3 z hz
  simp [Lit.wf,IntKind.min,IntKind.max,IntKind.signed,IntKind.bits] at this
  show Value.int .u8 z=Value.int .u8 ((z.toNat:Nat):Int)
  rw [Int.toNat_of_nonneg this.1]
 ·intro x hx
  obtain ⟨z,hz,rfl⟩:=List.mem_map.1 hx
  have:=h3 z hz
  simp [Lit.wf,IntKind.min,IntKind.max,IntKind.signed,IntKind.bits] at this
  omega
end Go.Proofs.YthigacbelefadaaDoor
namespace Go.Proofs.YthigacbelefadaaDoor
open Go.RowKit Go.ChangeShapes Go.WideShapes
set_option linter.unusedVariables false
set_option linter.unusedSimpArgs false
set_option maxRecDepth 100000
section
variable {W:World}
theorem rdg_b32K:Rdg Tryd.prog W 23 fun cs b=>∃ p:List Nat,p.length=32∧(∀ x∈p,x<256)∧cs=bl p:=fun H enc fuel cs x hx=>by
 obtain ⟨zs,l0,q0,w0⟩:=cells_ints (t:=23) (e:=5) (n:=32) (k:=.u8) (by kernel_rfl) (by kernel_rfl) (by kernel_rfl) (by kernel_rfl) hx
 have hz:∀ z∈zs,0≤z∧z<256:=fun z hz=>by
  have:=w0 z hz
  simp [Lit.wf,IntKind.min,IntKind.max,IntKind.signed,IntKind.bits] at this
  omega
 refine ⟨zs.map Int.toNat,by rw [List.length_map,l0],fun x hx=>?_,?_⟩
 ·obtain ⟨z,hz',rfl⟩:=List.mem_map.1 hx
  have:=hz z hz'
  omega
 ·rw [q0,bl,List.map_map]
  refine List.map_congr_left fun z hz'=>?_
  have:=hz z hz'
  simp only [Function.comp]
  rw [Int.toNat_of_nonneg this.1]
theorem cells_b32K:Tryd.prog.cellsOf 23=32:=by kernel_rfl
theorem cells_lockK:Tryd.prog.cellsOf 25=33:=by kernel_rfl
theorem cells_intK:Tryd.prog.cellsOf 3=1:=by kernel_rfl
theorem cells_u64K:Tryd.prog.cellsOf 22=1:=by kernel_rfl
theorem cells_heldsK:Tryd.prog.cellsOf 26=1:=by kernel_rfl
theorem cells_keptK:Tryd.prog.cellsOf 28=69:=by kernel_rfl
theorem split2 {α:Type}{cs:List α}{a b:Nat}(h:cs.length=a+b):cs=cs.take a++(cs.drop a).take b:=by
 rw [List.take_of_length_le (l:=cs.drop a) (by rw [List.length_drop];omega),List.take_append_drop]
theorem rdg_lockK:Rdg Tryd.prog W 25 fun cs b=>∃ (p:List Nat) (z:Int),p.length=32∧(∀ x∈p,x<256)∧cs=bl p++[.int .i64 z]:=
 (rdg_struct Tryd.underlying25 (fun i cs b=>if i=0 then ∃ p:List Nat,p.length=32∧(∀ x∈p,x<256)∧cs=bl p else ∃ z,cs=[.int .i64 z]) (fun i f hf=>by
  match i,hf with
  | 0,hf=>simp at hf;subst hf;exact rdg_b32K
  | 1,hf=>simp at hf;subst hf;exact (rdg_int (k:=.i64) (by kernel_rfl)).mono fun cs b ⟨z,hz,_⟩=>⟨z,hz⟩
  | n+2,hf=>simp at hf)).mono fun cs b ⟨bs,hl,hbs,hf,hb⟩=>by
  rw [cells_lockK] at hl
  obtain ⟨p,h1,h2,h3⟩:∃ p:List Nat,p.length=32∧(∀ x∈p,x<256)∧List.take (Tryd.prog.cellsOf 23) (List.drop 0 cs)=bl p:=hf 0 _ rfl
  obtain ⟨z,h4⟩:∃ z,List.take (Tryd.prog.cellsOf 3) (List.drop 32 cs)=[.int .i64 z]:=hf 1 _ rfl
  rw [cells_b32K,List.drop_zero] at h3
  rw [cells_intK] at h4
  exact ⟨p,z,h1,h2,by rw [split2 (a:=32) (b:=1) hl,h3,h4]⟩
structure KeptA (W:World)(v:Value)(pl:Nat)(m1:List Nat)(z1:Int)(m2:List Nat)(z2 nx:Int)(hv:Value)(l:List He):Prop where
 val:v=kpV' pl m1 z1 m2 z2 nx hv
 pl:pl<18446744073709551616
 m1:m1.length=32∧∀ x∈m1,x<256
 m2:m2.length=32∧∀ x∈m2,x<256
 hes:Hes W hv l
set_option maxHeartbeats 1000000 in
theorem rdg_kept:Rdg Tryd.prog W 28 fun cs b=>∃ (pl:Nat) (m1:List Nat) (z1:Int) (m2:List Nat) (z2 nx:Int) (hv:Value) (l:List He),cs=[.int .u64 (pl:Int)]++((bl m1++[.int .i64 z1])++((bl m2++[.int .i64 z2])++([.int .i64 nx]++[hv])))∧
  pl<18446744073709551616∧(m1.length=32∧∀ x∈m1,x<256)∧(m2.length=32∧∀ x∈m2,x<256)∧Hes W hv l∧SmH b l:=
 (rdg_struct Tryd.underlying28 (fun i cs b=>match i with|0=>∃ z:Int,cs=[.int .u64 z]∧(Lit.int .u64 z).wf=true|1=>∃ (p:List Nat) (z:Int),p.length=32∧(∀ x∈p,x<256)∧cs=bl p++[.int .i64 z]|2=>∃ (p:List Nat) (z:Int),p.length=32∧(∀ x∈p,x<256)∧cs=bl p++[.int .i64 z]|3=>∃ z,cs=[.int .i64 z]|_=>∃ v,∃ l:List He,cs=[v]∧Hes W v l∧SmH b l∧1≤b) (fun i f hf=>by
  match i,hf with
  | 0,hf=>simp at hf;subst hf;exact rdg_int (k:=.u64) (by kernel_rfl)
  | 1,hf=>simp at hf;subst hf;exact rdg_lockK
  | 2,hf=>simp at hf;subst hf;exact rdg_lockK
  | 3,hf=>simp at hf;subst hf;exact (rdg_int (k:=.i64) (by kernel_rfl)).mono fun cs b ⟨z,hz,_⟩=>⟨z,hz⟩
  | 4,hf=>simp at hf;subst hf;exact rdg_heldsK
  | n+5,hf=>simp at hf)).mono fun cs b ⟨bs,hl,hbs,hf,hb⟩=>by
  rw [cells_keptK] at hl
  obtain ⟨zp,h0,w0⟩:∃ z:Int,List.take (Tryd.prog.cellsOf 22) (List.drop 0 cs)=[.int .u64 z]∧(Lit.int .u64 z).wf=true:=hf 0 _ rfl
  obtain ⟨m1,z1,a1,a2,h1⟩:∃ (p:List Nat) (z:Int),p.length=32∧(∀ x∈p,x<256)∧List.take (Tryd.prog.cellsOf 25) (List.drop 1 cs)=bl p++[Value.int .i64 z]:=hf 1 _ rfl
  obtain ⟨m2,z2,a3,a4,h2⟩:∃ (p:List Nat) (z:Int),p.length=32∧(∀ x∈p,x<256)∧List.take (Tryd.prog.cellsOf 25) (List.drop 34 cs)=bl p++[Value.int .i64 z]:=hf 2 _ rfl
  obtain ⟨nx,h3⟩:∃ z,List.take (Tryd.prog.cellsOf 3) (List.drop 67 cs)=[.int .i64 z]:=hf 3 _ rfl
  obtain ⟨hv,l,h4,b1,b2,b3⟩:∃ v,∃ l:List He,List.take (Tryd.prog.cellsOf 26) (List.drop 68 cs)=[v]∧Hes W v l∧SmH (bs.getD 4 0) l∧1≤bs.getD 4 0:=hf 4 _ rfl
  rw [cells_u64K,List.drop_zero] at h0
  rw [cells_lockK] at h1 h2
  rw [cells_intK] at h3
  rw [cells_heldsK] at h4
  simp [Lit.wf,IntKind.min,IntKind.max,IntKind.signed,IntKind.bits] at w0
  have hle:bs.getD 4 0≤bs.sum:=by
   match bs,hbs with
   | [a,b,c,d,e],_=>simp;omega
  have d1:(cs.drop 1).drop 33=cs.drop 34:=by rw [List.drop_drop]
  have d2:(cs.drop 34).drop 33=cs.drop 67:=by rw [List.drop_drop]
  have d3:(cs.drop 67).drop 1=cs.drop 68:=by rw [List.drop_drop]
  have e4:cs.drop 68=[hv]:=by rw [←h4,List.take_of_length_le (by rw [List.length_drop];omega)]
  have e3:cs.drop 67=[.int .i64 nx]++[hv]:=by rw [←h3,←e4,←d3,List.take_append_drop]
  have e2:cs.drop 34=(bl m2++[.int .i64 z2])++([.int .i64 nx]++[hv]):=by rw [←h2,←e3,←d2,List.take_append_drop]
  have e1:cs.drop 1=(bl m1++[.int .i64 z1])++((bl m2++[.int .i64 z2])++([.int .i64 nx]++[hv])):=by rw [←h1,←e2,←d1,List.take_append_drop]
  refine ⟨zp.toNat,m1,z1,m2,z2,nx,hv,l,?_,by omega,⟨a1,a2⟩,⟨a3,a4⟩,b1,⟨by have:=b2.len;omega,fun x hx=>(b2.each x hx).mono (by omega)⟩⟩
  rw [←e1,Int.toNat_of_nonneg w0.1,←h0,List.take_append_drop]
theorem open_kept {r:Reach}{b0:Nat}{v:Value}{H:Type}{enc:TypeId×Value→H}{d:DataW H}{q:List MemPlace}(hv:Value.okWide Tryd.prog W r b0 28 v)(h:DataW.Trod enc Tryd.prog W 0 (fun _=>true) true 28 v d q) :
  ∃ x:Nat×List Nat×Int×List Nat×Int×Int×Value×List He,KeptA W v x.1 x.2.1 x.2.2.1 x.2.2.2.1 x.2.2.2.2.1 x.2.2.2.2.2.1 x.2.2.2.2.2.2.1 x.2.2.2.2.2.2.2∧SmH (Rows.uptoBulk d) x.2.2.2.2.2.2.2:=by
 obtain ⟨cs,rfl,_⟩:=okWide_struct Tryd.underlying28 hv
 obtain ⟨fuel,hf⟩:=h
 obtain ⟨pl,m1,z1,m2,z2,nx,hv,l,h1,h2,h3,h4,h5,h6⟩:=rdg_kept H enc fuel _ _ hf
 refine ⟨⟨pl,m1,z1,m2,z2,nx,hv,l⟩,⟨?_,h2,h3,h4,h5⟩,h6⟩
 have h7:cs.toList=_:=h1
 rw [←Array.toArray_toList (xs:=cs),h7]
 dsimp only [kpV',kpG]
 congr 1
end
end Go.Proofs.YthigacbelefadaaDoor
namespace Go.Proofs.YthigacbelefadaaDoor
set_option maxRecDepth 100000
theorem mayEnter_of {P:Program}{l:List Char}{rest:List (List Char)}(h0:P.initOrder=String.ofList l)(h:behindMainWord (wordsSigns l) = "cut".toList::rest)(hs:stripLifts liftWords ("cut".toList::rest)=([], "cut".toList::rest))(h1:P.laysLater=false)(h2:P.bearsReflect=false)(h3:P.doorFits []=true):P.mayEnter=true:=by
 unfold Program.mayEnter
 rw [h0,String.toList_ofList,h]
 generalize "cut".toList=c at *
 simp only [hs,h1,h2,h3]
 simp
theorem headLifts_of {P:Program}{l:List Char}{rest:List (List Char)}(h0:P.initOrder=String.ofList l)(h:behindMainWord (wordsSigns l) = "cut".toList::rest)(hs:stripLifts liftWords ("cut".toList::rest)=([], "cut".toList::rest)):P.headLifts=[]:=by
 unfold Program.headLifts
 rw [h0,String.toList_ofList,h,hs]
 simp
theorem liftsFinal_of {P:Program}{l:List Char}{rest:List (List Char)}(h0:P.initOrder=String.ofList l)(h:behindMainWord (wordsSigns l) = "cut".toList::rest)(hs:stripLifts liftWords ("cut".toList::rest)=([], "cut".toList::rest)):P.liftsFinal=false:=by
 unfold Program.liftsFinal
 rw [headLifts_of h0 h hs,h0,String.toList_ofList,h]
 simp
theorem make_of {P:Program}{l:List Char}{rest:List (List Char)}(h0:P.initOrder=String.ofList l)(h:behindMainWord (wordsSigns l) = "cut".toList::rest):P.make=some .cut:=by
 unfold Program.make
 rw [h0,String.toList_ofList,h]
 have e1:("cut".toList == "gc".toList || "cut".toList == "spec".toList)=false:=by decide +kernel
 simp only [e1]
 simp
theorem word0:∃ (l:List Char),Tryd.prog.initOrder=String.ofList l∧behindMainWord (wordsSigns l) = "cut".toList::(behindMainWord (wordsSigns l)).tail∧stripLifts liftWords ("cut".toList::(behindMainWord (wordsSigns l)).tail)=([], "cut".toList::(behindMainWord (wordsSigns l)).tail):=⟨_,rfl,by kernel_rfl,by kernel_rfl⟩
theorem word1:∃ (l:List Char) (rest:List (List Char)),Tryd.prog.initOrder=String.ofList l∧behindMainWord (wordsSigns l) = "cut".toList::rest∧stripLifts liftWords ("cut".toList::rest)=([], "cut".toList::rest):=by
 obtain ⟨l,h⟩:=word0
 exact ⟨l,_,h⟩
theorem mayEnters:Tryd.prog.mayEnter=true:=by
 obtain ⟨l,r,h0,h,hs⟩:=word1
 exact mayEnter_of h0 h hs (by kernel_rfl) (by kernel_rfl) (by kernel_rfl)
theorem liftsNone:Tryd.prog.liftsFinal=false:=by
 obtain ⟨l,r,h0,h,hs⟩:=word1
 exact liftsFinal_of h0 h hs
theorem makeCut:Tryd.prog.make=some .cut:=by
 obtain ⟨l,r,h0,h,hs⟩:=word1
 exact make_of h0 h
end Go.Proofs.YthigacbelefadaaDoor
namespace Go.Proofs.YthigacbelefadaaDoor
open Go.RowKit
theorem gTab:Tryd.prog.globalNamed "sealring/hash.primeRoots" = some 0:=by kernel_rfl
theorem gTabType:(Tryd.prog.globals[0]?).map (·.type)=some 156:=by kernel_rfl
theorem tab_of {W:World}(h:Lib.TabIs Tryd.prog W "sealring/hash.primeRoots" .u32 roots):Tab W:=fun i hi=>h.cell gTab i hi
noncomputable def laidWorld (os:Os):World:=
 {World.holding Tryd.prog os ⟨#[],#[],[]⟩ with heap:=(World.holding Tryd.prog os ⟨#[],#[],[]⟩).heap.modify 0 fun
   | .cells _ t frozen=>.cells (iw roots) t frozen
   | o=>o}
end Go.Proofs.YthigacbelefadaaDoor
