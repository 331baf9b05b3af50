/- The package safe,walked: Pack of what is to be kept. -/
import Derived.Test.YthigacbelefadaaDoorJnAJ
namespace Go.Proofs.YthigacbelefadaaDoor
open Go.RowKit
attribute [local irreducible] rwA bys iw blkD byteD MS.sum MS.write
set_option linter.unusedVariables false
set_option linter.unusedSimpArgs false
set_option maxRecDepth 100000
theorem heOk_ho {x:He}(h:HeOk x){nx:Int}{l:List He}(hr:RiseH l nx)(hx:x∈l)(hn:nx≤1073741824):HoOk (absH x):=⟨by
  have:=hr.2 x hx
  show 0≤x.1∧x.1<9223372036854775808
  omega,h.ok,h.valid⟩
theorem kok_kpp {k1 k2 nx:Nat}{l:List He}(h:KOk (k1:Int) (k2:Int) (nx:Int) l){pl:Nat}(hpl:pl<18446744073709551616){m1 m2:List Nat}[NBy m1 32][ByL m1][NBy m2 32][ByL m2]:KpP pl m1 k1 m2 k2 nx (l.map absH) where
 pl:=hpl
 m1:=⟨NBy.out,ByL.out⟩
 m2:=⟨NBy.out,ByL.out⟩
 k1:=by have:=h.l1;unfold lkE at this;split at this <;> omega
 k2:=by have:=h.l2;unfold lkE at this;split at this <;> omega
 nx:=by have:=h.sto.num;omega
 few:=by rw [List.length_map];exact h.sto.few
 each:=fun x hx=>by
  obtain ⟨y,hy,rfl⟩:=List.mem_map.1 hx
  exact heOk_ho (h.each y hy) h.sto.rise hy (by have:=h.sto.num;omega)
theorem pack_rise (w:World){v:Value}{l:List Att}(h:Ats w v l)(hk:AbOk (abs l))(hr:Rises (abs l)):Calls Tryd.prog 12 [v].toArray w (RetO (fun b:Value=>.tuple #[b,.int .i64 0]) (fun b oa=>OwnB 5 b (packA (abs l)).length (packA (abs l)) oa) w):=
 (pack_ok w h hk).mono fun e w2 ⟨b,oa,h1,⟨m,h2,h3⟩,h4⟩=>⟨b,oa,h1,by rw [norm_rises h2 hr] at h3;exact h3,h4⟩
structure PkS where
 i:Nat
 v:Value
 its:List It
 oo:Blks
 ob:Blks
structure PkS.Ok (o1:Blks)(l:List He)(P:List (Nat×List Nat))(x:PkS):Prop where
 le:x.i≤l.length
 own:OwnL 44 2 x.v x.its.length (itsC x.its) x.oo
 bod:BodI x.its (o1++x.ob)
 its:itP x.its=P++((l.take x.i).map absH).map fun y=>(5,heL y)
set_option maxHeartbeats 16000000 in
theorem spack_yes {k1 k2 nx pl:Nat}(hpl:pl<18446744073709551616){l:List He}(hk:KOk (k1:Int) (k2:Int) (nx:Int) l)(hsm:∀ x∈l,Small x.2.2.2){m1 m2:List Nat}[NBy m1 32][ByL m1][NBy m2 32][ByL m2](w:World)(hT:Tab w){hv:Value}(hl:Hes w hv l) :
  Calls Tryd.prog 5 [kpV' pl m1 (k1:Int) m2 (k2:Int) (nx:Int) hv].toArray w (RetO (fun v:Value=>.tuple #[v,.int .i64 0]) (fun v oa=>OwnB 5 v (wrL (kpL pl m1 k1 m2 k2 nx (l.map absH))).length (wrL (kpL pl m1 k1 m2 k2 nx (l.map absH))) oa) w):=by
 have RN:=fun w' (hb:Below w.heap.size w w')=>rest_yes (pl:=pl) (m1:=m1) (m2:=m2) hk hsm w' (hT.below hb) (cb_nil w') (hl.below hb)
 have hP:=kok_kpp (pl:=pl) (m1:=m1) (m2:=m2) hk hpl
 haveI:One hv:=⟨by obtain ⟨_,_,rfl,_⟩:=hl.cs.ln.out;rfl⟩
 have t1:((0:Int) != 0)=false:=rfl
 have z1:k1<256:=hP.k1
 have z2:k2<256:=hP.k2
 have hnx:nx<9223372036854775808:=hP.nx
 have NM:=fun w'=>snum_c w' (a:=pl) hpl
 have NX:=fun w'=>snum_c w' (a:=nx) (by omega)
 have L1:=fun w'=>slock_c w' (mk:=m1) (z:=k1) (by omega)
 have L2:=fun w'=>slock_c w' (mk:=m2) (z:=k2) (by omega)
 have q1:IntKind.u64.wrap (nx:Int)=(nx:Int):=by rw [wrapU,Nat.mod_eq_of_lt (by omega)]
 haveI i2:=hl.cs.old
 have hbody:=hl.body
 have h16:=hk.sto.few
 have hrise:=hk.sto.rise
 have hnum:=hk.sto.num
 have heach:=hk.each
 clear hT hl hk
 refine fn_own (N:=_) Tryd.func5 rfl Tryd.ntmps5 Tryd.results5 (by simp) ?_
 simp only [initS,Nat.reduceAdd,Nat.zero_add]
 repeat' (first|(refine wlS ?_)|(refine wlG ?_)|(refine wlB ?_)|(refine wlE ?_)|(refine efSvao ?_;intro v oa ho)|(refine efG ?_)|(refine efGnn ?_;intro n hn)|((with_reducible refine sel_call ?_);first|(refine wl_newO rfl rfl rfl rfl rfl (fun w hm=>by with_reducible exact RN w (hm.below rfl)) ?_;intro x oa hx)|(refine wl_newO rfl rfl rfl rfl rfl (fun w hm=>by with_reducible exact NM w) ?_;intro x oa hx)|(refine wl_newO rfl rfl rfl rfl rfl (fun w hm=>by with_reducible exact L1 w) ?_;intro x oa hx)|(refine wl_newO rfl rfl rfl rfl rfl (fun w hm=>by with_reducible exact L2 w) ?_;intro x oa hx)|(refine wl_newO rfl rfl rfl rfl rfl (fun w hm=>by with_reducible exact NX w) ?_;intro x oa hx))|(refine efBnn ?_;intro n hn)|(refine efB ?_)|(refine efBS ?_)|(refine wl_skip rfl rfl ?_)|((with_reducible refine wc_seq ?_);intro K hK)|(refine auC ?_)|(refine wc_cond rfl (fun hc=>?_) (fun hc=>?_))|((with_reducible refine wc_drawT (by kernel_rfl) ?_);(try simp only [List.append_eq,List.cons_append,List.nil_append,List.length_cons,List.length_nil,Nat.reduceAdd]))|((with_reducible refine sel_wh ?_);(refine wh_if (by decide +kernel) ?_);first|(refine wh_take (lq:=[]) rfl rfl rfl rfl (by first|exact rvS|exact rvG|exact rvB|exact rvE) (Or.inl rfl) ?_)|(refine wh_takeL rfl rfl rfl rfl (by first|exact rvS|exact rvG|exact rvB|exact rvE) (by decide +kernel) ?_))|(refine whS ?_;intro v hv hp)|((with_reducible refine sel_wh ?_);first|(refine wh_pass rfl rfl rfl rfl ?_)|(refine wh_done rfl ?_)|(refine wh_all rfl ?_))|((with_reducible refine sel_rest ?_);first|exact rest_nil rfl|refine rest_cons rfl rfl ?_ ?_)|((with_reducible refine sel_nx ?_);first|refine next_of ?_|refine next_late (by decide +kernel) ?_)|(refine auP ?_)|((refine auR ?_);clear hK K)|(refine auR ?_)|((with_reducible refine hK _ _ ?_);clear hK K)|fail)
 rename_i xt oR hR xa oA hA xb oB hB xc oC hC oD
 obtain ⟨oi,rfl⟩:∃ o,o=oa:=⟨oa,rfl⟩
 obtain ⟨vi,rfl⟩:∃ o,o=v:=⟨v,rfl⟩
 have hB0:BodI [(1,xa,numL pl),(2,xb,m1++[k1]),(3,xc,m2++[k2]),(4,x,numL nx)] (oA++(oB++(oC++oD))):=by
  have a1:OwnB 5 xa (numL pl).length (numL pl) oA:=by rw [numL_len];exact hA
  have a2:OwnB 5 xb (m1++[k1]).length (m1++[k1]) oB:=by rw [List.length_append,hP.m1.1];exact hB
  have a3:OwnB 5 xc (m2++[k2]).length (m2++[k2]) oC:=by rw [List.length_append,hP.m2.1];exact hC
  have a4:OwnB 5 x (numL nx).length (numL nx) oD:=by rw [numL_len];exact hx
  exact (BodI.one a1 (by decide)).app ((BodI.one a2 (by decide)).app ((BodI.one a3 (by decide)).app (BodI.one a4 (by decide))))
 refine wc_loop (σ:=PkS) (fun x=>[(6,x.v),(40,hv),(41,.int .i64 (l.length:Int)),(42,.int .i64 (x.i:Int))]) (fun x=>(n,(rwA (kpG pl m1 (k1:Int) m2 (k2:Int) (nx:Int) hv),28))::(oA++(oB++(oC++(oD++(x.oo++x.ob))))))
  (PkS.Ok (oA++(oB++(oC++oD))) l (kpF pl m1 k1 m2 k2 nx)) (fun x=>l.length - x.i) ⟨0,vi,[(1,xa,numL pl),(2,xb,m1++[k1]),(3,xc,m2++[k2]),(4,x,numL nx)],oi,[]⟩ ⟨Nat.zero_le _,ho,by rw [List.append_nil];exact hB0,by rfl⟩
  (Fits.of ⟨rfl,rfl,rfl,rfl,trivial⟩ (.keep (by rw [List.append_nil];exact SubL.skipA (SubL.refl _) _)) rfl) ?_
 clear RN NM NX L1 L2 hA hB hC hx hR ho hB0
 rintro ⟨i,v4,its,oo,ob⟩ ⟨hi,ho,hbod,hits⟩
 dsimp only at hi ho hbod hits ⊢
 have hil:its.length=4+i:=by
  have:=congrArg List.length hits
  simp only [itP,List.length_map,List.length_append,kpF,List.length_cons,List.length_nil,List.length_take] at this
  omega
 by_cases hlt:i<l.length
 ·obtain ⟨⟨hh,ow,vx,at_⟩,hx⟩:∃ x,l[i]? = some x:=⟨l[i]'hlt,List.getElem?_eq_getElem _⟩
  have hx0:=hx
  have hget:=hesC_get hx
  have hmem:=List.mem_of_getElem? hx
  have hat:=hbody _ hmem
  have hsx:=hsm _ hmem
  have hho:=hP.each _ (List.mem_map_of_mem (f:=absH) hmem)
  obtain ⟨pv,cv,hv',_⟩:=hat.cs.ln.out
  dsimp only at hv' hat hsx
  subst hv'
  have hget2:((hesC l).drop (i * 3)).take 3=[.int .i64 hh,.int .i64 ow,.slice pv at_.length cv]:=hget
  haveI i3:=hat.old
  have hn:=hho.num
  have hab:=hho.ok
  have hva:=hho.valid
  simp only [absH] at hn hab hva
  have u1:decide ((i:Int)<(l.length:Int))=true:=decide_eq_true (by omega)
  have u2:IntKind.i64.wrap ((i:Int)+1)=((i+1:Nat):Int):=by rw [wrap_i64 _ (by omega) (by omega)];omega
  have u3:IntKind.u64.wrap hh=((hh.toNat:Nat):Int):=by rw [show hh=((hh.toNat:Nat):Int) by omega,wrapU,Nat.mod_eq_of_lt (by omega)];omega
  have j1:(i:Int)<(l.length:Int):=by omega
  have PA:=fun w' (h:Ats w' (.slice pv at_.length cv) at_)=>pack_rise w' h hab (valid_rises hva)
  have NH:=fun w'=>snum_c w' (a:=hh.toNat) (by omega)
  clear hget hbody hsm hx hat
  repeat' (first|(refine wlS ?_)|(refine wlG ?_)|(refine wlB ?_)|(refine wlE ?_)|(refine efSvao ?_;intro v oa ho)|(refine efG ?_)|(refine efGnn ?_;intro n hn)|((with_reducible refine sel_call ?_);first|(refine wl_newO rfl rfl rfl rfl rfl (fun w hm=>by with_reducible exact PA w (VwT.out w hm)) ?_;intro x oa hx)|(refine wl_newO rfl rfl rfl rfl rfl (fun w hm=>by with_reducible exact NH w) ?_;intro x oa hx))|(refine efBnn ?_;intro n hn)|(refine efB ?_)|(refine efBS ?_)|(refine wl_skip rfl rfl ?_)|(refine wdS ?_)|(refine wdG ?_)|(refine wdV ?_)|(refine wdB ?_)|(refine wdE ?_)|(refine wd_skip rfl rfl ?_)|((with_reducible refine seld_nil ?_);refine wd_nil hm0 ?_;clear hm0 hw0)|((with_reducible refine wc_seq ?_);intro K hK)|(refine auC ?_)|(refine wc_cond rfl (fun hc=>?_) (fun hc=>?_))|(refine wc_draw (by kernel_rfl) (by kernel_rfl) (by decide +kernel) ?_;intro w0 hw0 hm0;(try simp only [List.append_eq,List.cons_append,List.nil_append]))|(refine auP ?_)|((refine auR ?_);clear hK K)|(refine auR ?_)|((with_reducible refine hK _ _ ?_);clear hK K)|fail)
  rename_i xp op hp oq
  obtain ⟨xn,rfl⟩:∃ u,u=x:=⟨x,rfl⟩
  obtain ⟨vw,rfl⟩:∃ u,u=v:=⟨v,rfl⟩
  obtain ⟨ow2,rfl⟩:∃ u,u=oa:=⟨oa,rfl⟩
  have hxn:OwnB 5 xn (numL hh.toNat).length (numL hh.toNat) oq:=by rw [numL_len];exact hx
  have how2:=ho
  haveI hF:IsF _ vw [(1,xn,numL hh.toNat),(2,xp,packA (abs at_))]:=isF_of (Φ:=Hd ow2) (Ψ:=fun w=>Hd oq w∧Hd op w) (OwnL.cs (h:=how2)) (fun y hy=>by
   simp only [List.mem_cons,List.not_mem_nil,or_false] at hy
   rcases hy with rfl|rfl
   ·exact ⟨(by decide:1<256),hxn.ok,fun w hw=>hxn.own.cs.out w hw.1⟩
   ·exact ⟨(by decide:2<256),hp.ok,fun w hw=>hp.own.cs.out w hw.2⟩)
  have WR:∀ w',Its w' vw [(1,xn,numL hh.toNat),(2,xp,packA (abs at_))]→Calls Tryd.prog 13 [vw].toArray w' (RetO (fun b:Value=>.tuple #[b,.int .i64 0]) (fun b oa=>OwnB 5 b (heL (hh,ow,abs at_)).length (heL (hh,ow,abs at_)) oa) w'):=fun w' h=>write_ok w' h (heL_fits (x:=(hh,ow,abs at_)) hab hva hho.lt)
  clear PA NH
  repeat' (first|(refine wlS ?_)|(refine wlG ?_)|(refine wlB ?_)|(refine wlE ?_)|(refine efSvao ?_;intro v oa ho)|(refine efG ?_)|(refine efGnn ?_;intro n hn)|((with_reducible refine sel_call ?_);first|(refine wl_newO rfl rfl rfl rfl rfl (fun w hm=>by with_reducible exact WR w (VwI.out w hm)) ?_;intro x oa hx))|(refine efBnn ?_;intro n hn)|(refine efB ?_)|(refine efBS ?_)|(refine wl_skip rfl rfl ?_)|(refine wdS ?_)|(refine wdG ?_)|(refine wdV ?_)|(refine wdB ?_)|(refine wdE ?_)|(refine wd_skip rfl rfl ?_)|((with_reducible refine seld_nil ?_);refine wd_nil hm0 ?_;clear hm0 hw0)|((with_reducible refine wc_seq ?_);intro K hK)|(refine auC ?_)|(refine wc_cond rfl (fun hc=>?_) (fun hc=>?_))|(refine wc_draw (by kernel_rfl) (by kernel_rfl) (by decide +kernel) ?_;intro w0 hw0 hm0;(try simp only [List.append_eq,List.cons_append,List.nil_append]))|(refine auP ?_)|((refine auR ?_);clear hK K)|(refine auR ?_)|((with_reducible refine hK _ _ ?_);clear hK K)|fail)
  rename_i o9 v9 o8 h9
  refine ⟨⟨i+1,v,its++[(5,x,heL (hh,ow,abs at_))],oa,ob++o9⟩,⟨hlt,?_,?_,?_⟩,by dsimp only;omega,Fits.of ⟨rfl,rfl,rfl,rfl,trivial⟩ ?_ rfl⟩
  ·have e1:(its++[(5,x,heL (hh,ow,abs at_))]).length=its.length+1:=by simp
   dsimp only
   rw [e1,itsC_app]
   exact ho
  ·dsimp only
   rw [←List.append_assoc]
   exact hbod.app (BodI.one hx (by decide))
  ·dsimp only
   rw [List.take_add_one,hx0,itP,List.map_append,←itP,hits]
   simp only [Option.toList,List.map_append,List.map_cons,List.map_nil,List.append_assoc]
   rfl
  ·dsimp only
   repeat (first|exact SubL.nil|exact SubL.refl _|refine SubL.keep ?_|exact SubL.headA _ _|refine SubL.keepA ?_ _|refine SubL.skip ?_|refine SubL.skipA ?_ _)
 ·obtain rfl:i=l.length:=by omega
  have u1:decide ((l.length:Int)<(l.length:Int))=false:=decide_eq_false (by omega)
  rw [List.take_length] at hits
  haveI hF:IsF _ v4 its:=isF_of (Φ:=Hd oo) (Ψ:=fun w=>Hd oA w∧Hd oB w∧Hd oC w∧Hd oD w∧Hd ob w) (OwnL.cs (h:=ho)) (fun y hy=>by
   obtain ⟨h1,h2,h3⟩:=hbod y hy
   exact ⟨h1,h2.1,fun w hw=>h3 w fun p hp=>by
    obtain ⟨a1,a2,a3,a4,a5⟩:=hw
    rcases List.mem_append.1 hp with hp|hp
    ·rcases List.mem_append.1 hp with hp|hp
     ·exact a1 p hp
     rcases List.mem_append.1 hp with hp|hp
     ·exact a2 p hp
     rcases List.mem_append.1 hp with hp|hp
     ·exact a3 p hp
     ·exact a4 p hp
    ·exact a5 p hp⟩)
  have hfit:=hP.fits
  have WR:∀ w',Its w' v4 its→Calls Tryd.prog 13 [v4].toArray w' (RetO (fun b:Value=>.tuple #[b,.int .i64 0]) (fun b oa=>OwnB 5 b (wrL (kpL pl m1 k1 m2 k2 nx (l.map absH))).length (wrL (kpL pl m1 k1 m2 k2 nx (l.map absH))) oa) w'):=fun w' h=>by
   have h1:=write_ok w' h (by rw [hits];exact hfit)
   rw [hits] at h1
   exact h1
  clear hbody hsm hits hP hbod
  repeat' (first|(refine wlS ?_)|(refine wlG ?_)|(refine wlB ?_)|(refine wlE ?_)|(refine efSvao ?_;intro v oa ho)|(refine efG ?_)|(refine efGnn ?_;intro n hn)|((with_reducible refine sel_call ?_);first|(refine wl_newO rfl rfl rfl rfl rfl (fun w hm=>by with_reducible exact WR w (VwI.out w hm)) ?_;intro x oa hx))|(refine efBnn ?_;intro n hn)|(refine efB ?_)|(refine efBS ?_)|(refine wl_skip rfl rfl ?_)|(refine wdS ?_)|(refine wdG ?_)|(refine wdV ?_)|(refine wdB ?_)|(refine wdE ?_)|(refine wd_skip rfl rfl ?_)|((with_reducible refine seld_nil ?_);refine wd_nil hm0 ?_;clear hm0 hw0)|((with_reducible refine wc_seq ?_);intro K hK)|(refine auC ?_)|(refine wc_cond rfl (fun hc=>?_) (fun hc=>?_))|(refine wc_draw (by kernel_rfl) (by kernel_rfl) (by decide +kernel) ?_;intro w0 hw0 hm0;(try simp only [List.append_eq,List.cons_append,List.nil_append]))|(refine auP ?_)|((refine auR ?_);clear hK K)|(refine auR ?_)|((with_reducible refine hK _ _ ?_);clear hK K)|fail)
  first|refine end_ret (ResP.tmp rfl (ResP.tmp rfl ResP.nil)) ?_|refine end_normal (ResP.tmp rfl (ResP.tmp rfl ResP.nil)) ?_
  (try dsimp only [tupV])
  exact ⟨_,_,rfl,hx,by
   repeat (first|exact SubL.nil|exact SubL.refl _|refine SubL.keep ?_|exact SubL.headA _ _|refine SubL.keepA ?_ _|refine SubL.skip ?_|refine SubL.skipA ?_ _)⟩
end Go.Proofs.YthigacbelefadaaDoor
