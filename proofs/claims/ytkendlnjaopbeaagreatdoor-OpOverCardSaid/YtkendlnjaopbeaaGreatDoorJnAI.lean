/- Bytes that are told as strings;bytes.Equal. The laws of many blocks: what they need of ends,and of what is opened. Sealing and opening in parts: plain laws. The package mode,walked: Stream. The walk over lists: interfaces: a value in one,a call by one,what it holds. The package op,walked: streams. -/
import Derived.Test.YtkendlnjaopbeaaGreatDoorJnAB
import Derived.Test.YtkendlnjaopbeaaGreatDoorJnAC
import Derived.Laws.BytesArg
import Derived.Laws.Strings
import Derived.Test.YtkendlnjaopbeaaGreatDoorModeO
import Derived.Test.YtkendlnjaopbeaaGreatDoorAesN
import Derived.Test.YtkendlnjaopbeaaGreatDoorJnAG
import Derived.Test.YtkendlnjaopbeaaGreatDoorJnAD
import Derived.Stop.Asserts
namespace Go.Proofs.YtkendlnjaopbeaaGreatDoor
open Go.RowKit
set_option linter.unusedVariables false
set_option linter.unusedSimpArgs false
def strB (l:List Nat):ByteArray:=strOfNums (l.map fun k:Nat=>(k:Int))
theorem cs_string {P:Program}{w:World}{v:Value}{n src dst e:Nat}{p:List Nat}(hb:Cb w v n p)(hs:P.underlying src=some (.slice e))(he:P.underlying e=some (.int .u8))(hd:P.underlying dst=some .string) :
  (convert src dst v).run P w=.ok (.string (strB p)) w:=by
 have hp:=hb.ok
 have h:=hb.cs
 clear hb
 obtain ⟨q,cap,rfl,h1,h2,h3⟩:=h.ln.out
 rcases Nat.eq_zero_or_pos n with h0|h0
 ·have hp0:p=[]:=List.eq_nil_of_length_eq_zero (by rw [hp.len,h0])
  subst hp0
  cases q with
  | none=>rw [run_convert_bytes_nil w src e hs he n cap dst hd];rfl
  | some a=>
   obtain ⟨b,off,spot⟩:=a
   have hl:(loadCells ⟨b,off,spot⟩ n).run P w=.ok (([]:List Int).map (Value.int .u8)).toArray w:=by subst h0;simp [loadCells,loadCellsFrom]
   rw [run_convert_bytes_string w src dst e _ n cap hs he hd,run_bytesToString w _ n cap [] hl]
   rfl
 ·obtain ⟨b,off,rfl⟩:=h3 h0
  refine run_convert_bytes_arg w src e hs he b off n cap (p.map fun k:Nat=>(k:Int)) (by rw [List.length_map,hp.len]) (fun i hi=>?_) dst hd
  obtain ⟨b',off',cap',hv,hc⟩:=h.cell i (.int .u8 ((p.getD i 0:Nat):Int)) (bl_get (by rw [hp.len];exact hi))
  injection hv with hv
  injection hv with hv
  injection hv with hb ho
  subst hb;subst ho
  rw [hc]
  have hi':i<p.length:=by rw [hp.len];exact hi
  simp [List.getD,hi']
section
variable {X:Cx}{s:Slots}{l:Blks}{o:Oper}{v:Value}
theorem rd_convS {src dst e n:Nat}{x:Operand}{p:List Nat}(ho:o.op=.convert src dst x)(hx:val s x=some v)[hs:UT X.P src (.slice e)][he:UT X.P e (.int .u8)][hd:UT X.P dst .string][hv:VwB X l v n p]:RdV X s l o (.string (strB p)):=
 rd_val fun a w hev hm=>by
  simp only [execOp,ho,hev.eval hx,Sem.run_bind,cs_string (hv.out w hm) hs.out he.out hd.out,Result.andThen_ok,Sem.run_pure]
theorem rd_eqlS {t yt:Nat}{x y:Operand}{a b:ByteArray}{r:Bool}(ho:o.op=.binOp .eql t x y yt)(hx:val s x=some (.string a))(hy:val s y=some (.string b))(hr:(a.toList == b.toList)=r:=by first|(with_reducible assumption)|rfl):RdV X s l o (.bool r):=
 rd_val fun e w he hm=>by
  subst hr
  simp only [execOp,ho,he.eval hx,he.eval hy,eqGuard]
  simp [binOp_string_eql]
end
end Go.Proofs.YtkendlnjaopbeaaGreatDoor
namespace Go.Proofs.YtkendlnjaopbeaaGreatDoor
open Go.RowKit
attribute [local irreducible] rwA bys
set_option linter.unusedVariables false
set_option linter.unusedSimpArgs false
set_option maxRecDepth 100000
section
variable {W iv c:List Nat}{R q:Nat}{E D:List Nat→List Nat}{u:Value}
theorem open_yes (w':World)[hkk:AKey W](hed:EDok E D)(DE:∀ b,B16 b→∀ w,Calls Tryz.prog 128 [kv W R,.agg (bys b)].toArray w (Ret (.agg (bys (D b))) w))(hi:B16 iv)(hq0:0<q)(hm:q≤67108864)(h:Cb w' u (16 * q) c)
  {k:Nat} {p:List Nat} (hok:endOk (dflat D iv c q)) (hk:16 * q - endN (dflat D iv c q)=k) (hp:(dflat D iv c q).take k=p) :
  Calls Tryz.prog 127 [kv W R,.agg (bys iv),u].toArray w' (RetO (fun v:Value=>.tuple #[v,.int .i64 0]) (fun v oa=>CsB (Hd oa) v k p) w'):=
 (open_c w' hed DE hi hq0 hm h).mono fun e w2 ⟨x,oa,he,hx,hu⟩=>by
  rcases hx with ⟨_,h2,h3⟩ | ⟨h1,_⟩
  ·subst hp;subst hk
   exact ⟨x.1,oa,by rw [he];dsimp only;rw [h2],h3,hu⟩
  ·exact absurd hok h1
theorem open_no (w':World)[hkk:AKey W](hed:EDok E D)(DE:∀ b,B16 b→∀ w,Calls Tryz.prog 128 [kv W R,.agg (bys b)].toArray w (Ret (.agg (bys (D b))) w))(hi:B16 iv)(hq0:0<q)(hm:q≤67108864)(h:Cb w' u (16 * q) c)
  (hok:¬endOk (dflat D iv c q)):Calls Tryz.prog 127 [kv W R,.agg (bys iv),u].toArray w' (Ret (.tuple #[.slice none 0 0,.int .i64 4]) w'):=
 (open_c w' hed DE hi hq0 hm h).mono fun e w2 ⟨x,oa,he,hx,hu⟩=>by
  rcases hx with ⟨h1,_⟩ | ⟨_,h2,h3⟩
  ·exact absurd h1 hok
  ·subst h3;subst h2
   exact ⟨he,hu.below⟩
end
end Go.Proofs.YtkendlnjaopbeaaGreatDoor
namespace Go.Proofs.YtkendlnjaopbeaaGreatDoor
set_option linter.unusedVariables false
set_option linter.unusedSimpArgs false
section
variable {E D:List Nat→List Nat}{iv:List Nat}
theorem cblk_pre {a b:List Nat}:∀ m,(∀ k,k<m→blk a k=blk b k)→cblk E iv a m=cblk E iv b m
 | 0,_=>rfl
 | m+1,h=>by rw [cblk,cblk,cblk_pre m fun k hk=>h k (by omega),h m (by omega)]
theorem cflat_pre {a b:List Nat}:∀ m,(∀ k,k<m→blk a k=blk b k)→cflat E iv a m=cflat E iv b m
 | 0,_=>rfl
 | m+1,h=>by rw [cflat,cflat,cflat_pre m fun k hk=>h k (by omega),cblk_pre (m+1) h]
theorem seal_front (h:EDok E D)(hi:B16 iv){q:List Nat}(hq:∀ x∈q,x<256){m:Nat}(hm:16 * m≤q.length):(cflat E iv (padP (q.take (16 * m))) (m+1)).take (16 * m)=cflat E iv q m:=by
 have hl:(q.take (16 * m)).length=16 * m:=by rw [List.length_take];omega
 have h1:cflat E iv (padP (q.take (16 * m))) m=cflat E iv q m:=cflat_pre m fun k hk=>by
  rw [padP,blk_app (by rw [hl];omega)]
  have:=blk_app (a:=q.take (16 * m)) (b:=q.drop (16 * m)) (k:=k) (by rw [hl];omega)
  rw [List.take_append_drop] at this
  exact this.symm
 have h2:=(cflat_ok h hi hq m hm).1
 rw [cflat,h1,←h2,List.take_left]
theorem cflat_last (h:EDok E D)(hi:B16 iv){q:List Nat}(hq:∀ x∈q,x<256){m:Nat}(h0:0<m)(hm:16 * m≤q.length):(cflat E iv q m).drop (16 * m - 16)=cblk E iv q m:=by
 obtain ⟨m,rfl⟩:∃ k,m=k+1:=⟨m - 1,by omega⟩
 have h2:=(cflat_ok h hi hq m (by omega)).1
 rw [cflat,show 16 * (m+1) - 16=(cflat E iv q m).length by omega,List.drop_left]
theorem padP_byl' {q:List Nat}(hq:∀ x∈q,x<256)(m:Nat):∀ x∈padP (q.drop m),x<256:=padP_byl fun x hx=>hq x (List.mem_of_mem_drop hx)
end
end Go.Proofs.YtkendlnjaopbeaaGreatDoor
namespace Go.Proofs.YtkendlnjaopbeaaGreatDoor
open Go.RowKit
attribute [local irreducible] rwA bys
set_option linter.unusedVariables false
set_option linter.unusedSimpArgs false
set_option maxRecDepth 100000
def strK (E:List Nat→List Nat)(iv:List Nat)(a:Nat):Nat→List Nat
 | 0=>List.replicate 16 0
 | i+1=>E (plusL iv (plc a i / 16))
theorem strK_ok {E D:List Nat→List Nat}(h:EDok E D){iv:List Nat}(hi:B16 iv)(a:Nat):∀ i,B16 (strK E iv a i)
 | 0=>B16.of (by simp [strK]) (by simp only [strK];intro x hx;rw [(List.mem_replicate.1 hx).2];decide)
 | i+1=>h.eok _ (plusL_ok hi _)
theorem strK_same {E:List Nat→List Nat}{iv:List Nat}{a i:Nat}(h0:i≠0)(h:plc a i % 16≠0):strK E iv a i=E (plusL iv (plc a i / 16)):=by
 obtain ⟨j,rfl⟩:∃ j,i=j+1:=⟨i - 1,by omega⟩
 rw [strK]
 congr 2
 unfold plc at *
 omega
set_option maxHeartbeats 4000000 in
theorem stream_c (w':World){W iv p:List Nat}{R a m:Nat}{u:Value}[hkk:AKey W](hR:R≤14)(hi:B16 iv)(ha:a<18446744073709551616)(hm:m≤1073741824)(h:Cb w' u m p) :
  Calls Tryz.prog 115 [kv W R,.agg (bys iv),.int .u64 (a:Int),u].toArray w' (RetO (fun v=>v) (fun v oa=>OwnB 5 v m (strL (encL W R) iv a p) oa) w'):=by
 haveI i1:=h.old
 have hpl:=h.ok.len
 have hpb:=h.ok.by'
 clear h
 have hed:=edok hkk.ok R
 have EN:∀ q w,Calls Tryz.prog 116 [kv W R,.agg (bys (plusL iv q))].toArray w (Ret (.agg (bys (encL W R (plusL iv q)))) w):=fun q w=>enc_c w hR (plusL_ok hi q)
 have KOK:=strK_ok hed hi a
 have hst:=fun i (hx:i<p.length)=>strP_step (E:=encL W R) (iv:=iv) (a:=a) hx
 have hz:=strP_zero (E:=encL W R) (iv:=iv) a p
 have hal:=strP_all (E:=encL W R) (iv:=iv) a p
 have hsl:=fun i=>strK_same (E:=encL W R) (iv:=iv) (a:=a) (i:=i)
 have hsB:∀ q,skB (encL W R) iv q=(encL W R (plusL iv (q / 16))).getD (q % 16) 0:=fun q=>rfl
 have hsb:=skB_lt hed hi
 have hk0:strK (encL W R) iv a 0=List.replicate 16 0:=rfl
 have hkS:∀ i,strK (encL W R) iv a (i+1)=encL W R (plusL iv (plc a i / 16)):=fun _=>rfl
 have EOK:∀ q,B16 (encL W R (plusL iv q)):=fun q=>hed.eok _ (plusL_ok hi q)
 haveI:NBy iv 16:=⟨hi.len⟩
 haveI:SgOk (sgA W R):=inferInstance
 have hpl':=hpl
 rw [hpl] at hst hz hal
 rw [←hal]
 refine fn_own (N:=_) Tryz.func115 rfl Tryz.ntmps115 Tryz.results115 (by simp) ?_
 simp only [initS,Nat.reduceAdd,Nat.zero_add]
 repeat' (first|(refine wlS ?_)|(refine wlG ?_)|(refine wlB ?_)|(refine wlE ?_)|(refine efSvao ?_;intro v oa ho)|(refine efM ?_)|(refine efMvao ?_;intro v oa ho)|((with_reducible refine sel_store ?_);first|(refine wl_putB (e:=5) rfl rfl rfl rfl rfl ?_;intro oa ho))|(refine efG ?_)|(refine efGnn ?_;intro n hn)|(refine efZCnn ?_;intro n hn)|(refine efBnn ?_;intro n hn)|(refine efB ?_)|(refine efBS ?_)|(refine wl_skip rfl rfl ?_)|(refine wdS ?_)|(refine wdG ?_)|(refine wdV ?_)|(refine wdB ?_)|(refine wdE ?_)|(refine wdT ?_)|(refine wdTO ?_)|(refine wd_skip rfl rfl ?_)|((with_reducible refine seld_nil ?_);refine wd_nil hm0 ?_;clear hm0 hw0)|((with_reducible refine wc_seq ?_);intro K hK)|(refine auC ?_)|(refine wc_cond rfl (fun hc=>?_) (fun hc=>?_))|(refine wc_draw (by kernel_rfl) (by kernel_rfl) (by decide +kernel) ?_;intro w0 hw0 hm0;(try simp only [List.append_eq,List.cons_append,List.nil_append]))|(refine auP ?_)|((refine auR ?_);clear hK K)|(refine auR ?_)|((with_reducible refine hK _ _ ?_);clear hK K)|fail)
 rename_i n4 hn4 n5 hn5
 obtain ⟨n10,rfl⟩:∃ n10,n10=n:=⟨n,rfl⟩
 refine wc_loop (σ:=Nat×Value×Blks) (fun x=>[(2,.int .u64 (a:Int)),(4,ptr n4),(5,ptr n5),(9,x.2.1),(10,ptr n10),(17,u),(18,.int .i64 (m:Int)),(19,.int .i64 (x.1:Int))])
  (fun x=>(n10,(bys (strK (encL W R) iv a x.1),23))::(n5,(bys iv,23))::(n4,(rwA (sgA W R),77))::x.2.2)
  (fun x=>x.1≤m∧OwnB 5 x.2.1 m (strP (encL W R) iv a p x.1) x.2.2) (fun x=>m - x.1) (0,v,oa) ⟨Nat.zero_le _,by rw [hz];exact ho⟩ (Fits.of ⟨rfl,rfl,rfl,rfl,rfl,rfl,rfl,rfl,trivial⟩ (SubL.refl _) rfl) ?_
 clear ho hz hal oa v
 rintro ⟨i,v9,oa⟩ ⟨hi',ho⟩
 dsimp only at hi' ho ⊢
 haveI:NBy (strK (encL W R) iv a i) 16:=⟨(KOK i).len⟩
 by_cases hlt:i<m
 ·have t1:decide ((i:Int)<(m:Int))=true:=decide_eq_true (by omega)
  have k1:IntKind.i64.wrap ((i:Int)+1)=((i+1:Nat):Int):=by rw [wrap_i64 _ (by omega) (by omega)];omega
  have gp:=bl_get (l:=p) (i:=i) (by omega)
  have j1:(i:Int)<(m:Int):=by omega
  have k2:IntKind.u64.wrap (i:Int)=(i:Int):=wrap_u64 _ (by omega) (by omega)
  have k3:IntKind.u64.wrap ((a:Int)+(i:Int))=((plc a i:Nat):Int):=by
   simp only [IntKind.wrap,IntKind.bits,IntKind.signed,plc];simp
  have hpq:plc a i<18446744073709551616:=Nat.mod_lt _ (by decide)
  have st:=hst i hlt
  have hsB1:=hsB (plc a i)
  have hsl1:=hsl i
  have hkS1:=hkS i
  have EN1:=EN (plc a i / 16)
  have EO1:=EOK (plc a i / 16)
  have hb:=bys8.get hpb i
  have hsb1:=hsb (plc a i)
  clear EN EOK hst hsB hsl hkS KOK hed hsb
  have PL:=fun w=>mplus_c w hi (d:=plc a i / 16) (by omega)
  generalize hpc:plc a i=c at *
  generalize hB:p.getD i 0=b at *
  have r1:(c:Int).tmod 16=((c % 16:Nat):Int):=by rw [Int.tmod_eq_emod_of_nonneg (by omega)];omega
  have r2:IntKind.u64.wrap ((c:Int).tdiv 16)=((c / 16:Nat):Int):=by rw [Int.tdiv_eq_ediv_of_nonneg (by omega),wrap_u64 _ (by omega) (by omega)];omega
  have r3:((c % 16:Nat):Int)<((16:Nat):Int):=by omega
  repeat' (first|(refine wlS ?_)|(refine wlG ?_)|(refine wlB ?_)|(refine wlE ?_)|(refine efSvao ?_;intro v oa ho)|(refine efM ?_)|(refine efMvao ?_;intro v oa ho)|((with_reducible refine sel_store ?_);first|(refine wl_putB (e:=5) rfl rfl rfl rfl rfl ?_;intro oa ho))|(refine efG ?_)|(refine efGnn ?_;intro n hn)|(refine efBnn ?_;intro n hn)|(refine efB ?_)|(refine efBS ?_)|(refine wl_skip rfl rfl ?_)|(refine wdS ?_)|(refine wdG ?_)|(refine wdV ?_)|(refine wdB ?_)|(refine wdE ?_)|(refine wdT ?_)|(refine wdTO ?_)|(refine wd_skip rfl rfl ?_)|((with_reducible refine seld_nil ?_);refine wd_nil hm0 ?_;clear hm0 hw0)|((with_reducible refine wc_seq ?_);intro K hK)|(refine auC ?_)|(refine wc_cond rfl (fun hc=>?_) (fun hc=>?_))|(refine wc_draw (by kernel_rfl) (by kernel_rfl) (by decide +kernel) ?_;intro w0 hw0 hm0;(try simp only [List.append_eq,List.cons_append,List.nil_append]))|(refine auP ?_)|((refine auR ?_);clear hK K)|(refine auR ?_)|((with_reducible refine hK _ _ ?_);clear hK K)|fail)
  rename_i KS hKS
  have SND:∀ s l,SubS [(2,.int .u64 (a:Int)),(4,ptr n4),(5,ptr n5),(9,v9),(10,ptr n10),(17,u),(18,.int .i64 (m:Int)),(19,.int .i64 (i:Int)),(11,.int .i64 (i:Int)),(12,.int .u8 (b:Int)),(13,.int .u64 (c:Int))] s→
    SubL ((n10,(bys (strK (encL W R) iv a (i+1)),23))::(n5,(bys iv,23))::(n4,(rwA (sgA W R),77))::oa) l→KS s l:=by
   clear hK K
   intro s l h1 h2
   refine hKS s l (wc_sub h1 h2 rfl ?_)
   clear hKS h1 h2 KS s l PL EN1
   rw [hsB1] at st hsb1
   rw [hkS1]
   generalize encL W R (plusL iv (c / 16))=S at *
   haveI:NBy S 16:=⟨EO1.len⟩
   have gs:=bys_get (l:=S) (i:=c % 16) (by rw [EO1.len];omega)
   have xo:=bits_u8 b (S.getD (c % 16) 0) hb hsb1
   have hxl:=xor_lt hb hsb1
   generalize S.getD (c % 16) 0=z at *
   repeat' (first|(refine wlS ?_)|(refine wlG ?_)|(refine wlB ?_)|(refine wlE ?_)|(refine efSvao ?_;intro v oa ho)|(refine efM ?_)|(refine efMvao ?_;intro v oa ho)|((with_reducible refine sel_store ?_);first|(refine wl_putB (e:=5) rfl rfl rfl rfl rfl ?_;intro oa ho))|(refine efG ?_)|(refine efGnn ?_;intro n hn)|(refine efBnn ?_;intro n hn)|(refine efB ?_)|(refine efBS ?_)|(refine wl_skip rfl rfl ?_)|(refine wdS ?_)|(refine wdG ?_)|(refine wdV ?_)|(refine wdB ?_)|(refine wdE ?_)|(refine wdT ?_)|(refine wdTO ?_)|(refine wd_skip rfl rfl ?_)|((with_reducible refine seld_nil ?_);refine wd_nil hm0 ?_;clear hm0 hw0)|((with_reducible refine wc_seq ?_);intro K hK)|(refine auC ?_)|(refine wc_cond rfl (fun hc=>?_) (fun hc=>?_))|(refine wc_draw (by kernel_rfl) (by kernel_rfl) (by decide +kernel) ?_;intro w0 hw0 hm0;(try simp only [List.append_eq,List.cons_append,List.nil_append]))|(refine auP ?_)|((refine auR ?_);clear hK K)|(refine auR ?_)|((with_reducible refine hK _ _ ?_);clear hK K)|fail)
   exact ⟨(i+1,v9,_),⟨hlt,by rw [←st];assumption⟩,by dsimp only;omega,Fits.of ⟨rfl,rfl,rfl,rfl,rfl,rfl,rfl,rfl,trivial⟩ (by dsimp only;rw [hkS1];exact SubL.refl _) rfl⟩
  clear hKS
  haveI:NBy (strK (encL W R) iv a (i+1)) 16:=⟨by rw [hkS1];exact EO1.len⟩
  by_cases h0:i=0
  ·have t2:((i:Int) == 0)=true:=by rw [h0];rfl
   rw [t2]
   rw [←hkS1] at EN1
   repeat' (first|(refine wlS ?_)|(refine wlG ?_)|(refine wlB ?_)|((with_reducible refine sel_call ?_);refine wl_rd rfl rfl (rd_call rfl rfl rfl (fun w hm=>by with_reducible first|exact PL w|exact EN1 w)) ?_)|(refine wlE ?_)|(refine efSvao ?_;intro v oa ho)|(refine efM ?_)|(refine efMvao ?_;intro v oa ho)|((with_reducible refine sel_store ?_);first|(refine wl_putB (e:=5) rfl rfl rfl rfl rfl ?_;intro oa ho))|(refine efG ?_)|(refine efGnn ?_;intro n hn)|(refine efBnn ?_;intro n hn)|(refine efB ?_)|(refine efBS ?_)|(refine wl_skip rfl rfl ?_)|((with_reducible refine wc_seq ?_);intro K hK)|(refine auC ?_)|(refine wc_cond rfl (fun hc=>?_) (fun hc=>?_))|((with_reducible refine wc_drawT (by kernel_rfl) ?_);(try simp only [List.append_eq,List.cons_append,List.nil_append,List.length_cons,List.length_nil,Nat.reduceAdd]))|((with_reducible refine sel_wh ?_);(refine wh_if (by decide +kernel) ?_);first|(refine wh_take (lq:=[]) rfl rfl rfl rfl (by first|exact rvS|exact rvG|exact rvB|exact rvE) (Or.inl rfl) ?_)|(refine wh_takeL rfl rfl rfl rfl (by first|exact rvS|exact rvG|exact rvB|exact rvE) (by decide +kernel) ?_))|(refine whS ?_;intro v hv hp)|((with_reducible refine sel_wh ?_);first|(refine wh_pass rfl rfl rfl rfl ?_)|(refine wh_done rfl ?_)|(refine wh_all rfl ?_))|((with_reducible refine sel_rest ?_);first|exact rest_nil rfl|refine rest_cons rfl rfl ?_ ?_)|((with_reducible refine sel_nx ?_);first|refine next_of ?_|refine next_late (by decide +kernel) ?_)|(refine auP ?_)|((refine auR ?_);clear hK K)|(refine auR ?_)|((with_reducible refine hK _ _ ?_);clear hK K)|fail)
   refine SND _ _ (by exact ⟨rfl,rfl,rfl,rfl,rfl,rfl,rfl,rfl,rfl,rfl,rfl,trivial⟩) ?_
   repeat (first|exact SubL.nil|exact SubL.refl _|refine SubL.keep ?_|exact SubL.headA _ _|refine SubL.keepA ?_ _|refine SubL.skip ?_|refine SubL.skipA ?_ _)
  ·have t2:((i:Int) == 0)=false:=by simp only [beq_eq_false_iff_ne,ne_eq];omega
   rw [t2]
   by_cases h16:c % 16=0
   ·have t3:(((c % 16:Nat):Int) == 0)=true:=by rw [h16];rfl
    rw [←hkS1] at EN1
    repeat' (first|(refine wlS ?_)|(refine wlG ?_)|(refine wlB ?_)|((with_reducible refine sel_call ?_);refine wl_rd rfl rfl (rd_call rfl rfl rfl (fun w hm=>by with_reducible first|exact PL w|exact EN1 w)) ?_)|(refine wlE ?_)|(refine efSvao ?_;intro v oa ho)|(refine efM ?_)|(refine efMvao ?_;intro v oa ho)|((with_reducible refine sel_store ?_);first|(refine wl_putB (e:=5) rfl rfl rfl rfl rfl ?_;intro oa ho))|(refine efG ?_)|(refine efGnn ?_;intro n hn)|(refine efBnn ?_;intro n hn)|(refine efB ?_)|(refine efBS ?_)|(refine wl_skip rfl rfl ?_)|((with_reducible refine wc_seq ?_);intro K hK)|(refine auC ?_)|(refine wc_cond rfl (fun hc=>?_) (fun hc=>?_))|((with_reducible refine wc_drawT (by kernel_rfl) ?_);(try simp only [List.append_eq,List.cons_append,List.nil_append,List.length_cons,List.length_nil,Nat.reduceAdd]))|((with_reducible refine sel_wh ?_);(refine wh_if (by decide +kernel) ?_);first|(refine wh_take (lq:=[]) rfl rfl rfl rfl (by first|exact rvS|exact rvG|exact rvB|exact rvE) (Or.inl rfl) ?_)|(refine wh_takeL rfl rfl rfl rfl (by first|exact rvS|exact rvG|exact rvB|exact rvE) (by decide +kernel) ?_))|(refine whS ?_;intro v hv hp)|((with_reducible refine sel_wh ?_);first|(refine wh_pass rfl rfl rfl rfl ?_)|(refine wh_done rfl ?_)|(refine wh_all rfl ?_))|((with_reducible refine sel_rest ?_);first|exact rest_nil rfl|refine rest_cons rfl rfl ?_ ?_)|((with_reducible refine sel_nx ?_);first|refine next_of ?_|refine next_late (by decide +kernel) ?_)|(refine auP ?_)|((refine auR ?_);clear hK K)|(refine auR ?_)|((with_reducible refine hK _ _ ?_);clear hK K)|fail)
    refine SND _ _ (by exact ⟨rfl,rfl,rfl,rfl,rfl,rfl,rfl,rfl,rfl,rfl,rfl,trivial⟩) ?_
    repeat (first|exact SubL.nil|exact SubL.refl _|refine SubL.keep ?_|exact SubL.headA _ _|refine SubL.keepA ?_ _|refine SubL.skip ?_|refine SubL.skipA ?_ _)
   ·have t3:(((c % 16:Nat):Int) == 0)=false:=by simp only [beq_eq_false_iff_ne,ne_eq];omega
    have hsame:=hsl1 h0 h16
    rw [←hkS1] at hsame
    rw [hsame] at *
    repeat' (first|(refine wlS ?_)|(refine wlG ?_)|(refine wlB ?_)|(refine wlE ?_)|(refine efSvao ?_;intro v oa ho)|(refine efM ?_)|(refine efMvao ?_;intro v oa ho)|((with_reducible refine sel_store ?_);first|(refine wl_putB (e:=5) rfl rfl rfl rfl rfl ?_;intro oa ho))|(refine efG ?_)|(refine efGnn ?_;intro n hn)|(refine efBnn ?_;intro n hn)|(refine efB ?_)|(refine efBS ?_)|(refine wl_skip rfl rfl ?_)|(refine wdS ?_)|(refine wdG ?_)|(refine wdV ?_)|(refine wdB ?_)|(refine wdE ?_)|(refine wdT ?_)|(refine wdTO ?_)|(refine wd_skip rfl rfl ?_)|((with_reducible refine seld_nil ?_);refine wd_nil hm0 ?_;clear hm0 hw0)|((with_reducible refine wc_seq ?_);intro K hK)|(refine auC ?_)|(refine wc_cond rfl (fun hc=>?_) (fun hc=>?_))|(refine wc_draw (by kernel_rfl) (by kernel_rfl) (by decide +kernel) ?_;intro w0 hw0 hm0;(try simp only [List.append_eq,List.cons_append,List.nil_append]))|(refine auP ?_)|((refine auR ?_);clear hK K)|(refine auR ?_)|((with_reducible refine hK _ _ ?_);clear hK K)|fail)
    refine SND _ _ (by exact ⟨rfl,rfl,rfl,rfl,rfl,rfl,rfl,rfl,rfl,rfl,rfl,trivial⟩) ?_
    repeat (first|exact SubL.nil|exact SubL.refl _|refine SubL.keep ?_|exact SubL.headA _ _|refine SubL.keepA ?_ _|refine SubL.skip ?_|refine SubL.skipA ?_ _)
 ·obtain rfl:i=m:=by omega
  have t1:decide ((i:Int)<(i:Int))=false:=decide_eq_false (by omega)
  repeat' (first|(refine wlS ?_)|(refine wlG ?_)|(refine wlB ?_)|(refine wlE ?_)|(refine efSvao ?_;intro v oa ho)|(refine efG ?_)|(refine efGnn ?_;intro n hn)|(refine efBnn ?_;intro n hn)|(refine efB ?_)|(refine efBS ?_)|(refine wl_skip rfl rfl ?_)|(refine wdS ?_)|(refine wdG ?_)|(refine wdV ?_)|(refine wdB ?_)|(refine wdE ?_)|(refine wdT ?_)|(refine wdTO ?_)|(refine wd_skip rfl rfl ?_)|((with_reducible refine seld_nil ?_);refine wd_nil hm0 ?_;clear hm0 hw0)|((with_reducible refine wc_seq ?_);intro K hK)|(refine auC ?_)|(refine wc_cond rfl (fun hc=>?_) (fun hc=>?_))|(refine wc_draw (by kernel_rfl) (by kernel_rfl) (by decide +kernel) ?_;intro w0 hw0 hm0;(try simp only [List.append_eq,List.cons_append,List.nil_append]))|(refine auP ?_)|((refine auR ?_);clear hK K)|(refine auR ?_)|((with_reducible refine hK _ _ ?_);clear hK K)|fail)
  first|refine end_ret (ResP.tmp rfl ResP.nil) ?_|refine end_normal (ResP.tmp rfl ResP.nil) ?_
  (try dsimp only [tupV])
  exact ⟨_,_,rfl,ho,.skip (.skip (.skip (SubL.refl _)))⟩
end Go.Proofs.YtkendlnjaopbeaaGreatDoor
namespace Go.Proofs.YtkendlnjaopbeaaGreatDoor
open Go.RowKit
set_option linter.unusedVariables false
set_option linter.unusedSimpArgs false
section
variable {X:Cx}{s:Slots}{l:Blks}{o:Oper}{v:Value}{Q:Post}{ops:Array Oper}{r:List Oper}
theorem rd_mkI {t:TypeId}{x:Operand}(ho:o.op=.makeInterface t x)(hx:val s x=some v)(h:∀ w,(Instr.makeInterface t v).run X.P w=.ok (.iface t v) w:=by intro _;rfl):RdV X s l o (.iface t v):=rd_val fun a w he hm=>by
 simp only [execOp,ho,he.eval hx,Sem.run_bind,h,Result.andThen_ok,Sem.run_pure]
theorem rd_tas {x:Operand}{t t':TypeId}{b:Bool}{u:Value}(ho:o.op=.typeAssert x t t' b)(hx:val s x=some v)(h:∀ w,(Instr.typeAssert v t t' b).run X.P w=.ok u w):RdV X s l o u:=rd_val fun a w he hm=>by
 simp only [execOp,ho,he.eval hx,Sem.run_bind,h,Result.andThen_ok,Sem.run_pure]
theorem run_op_inv {c:Call}{y:Operand}{name:String}{t:TypeId}{u rv:Value}{f:FuncId}{vs:List Value}{a:Act}{w:World}{N:Nat}(ho:o.op=.call c)(hc:c.callee=.invoke y name)(he:Env N s a)(hy:val s y=some (.iface t u))
  (hI:∀ w,(method (X.P.types.size+Made.depth) t u name).run X.P w=.ok (f,rv) w) (ha:vals s c.args.toList=some vs):(execOp a.eval o).run X.P w=(callFunc f (rv::vs).toArray).run X.P w:=by
 have h1:=he.vals ha
 have h2:c.args.map a.eval=vs.toArray:=by rw [←h1];simp [←Array.toList_map]
 have h0:(#[Value.iface t u]++vs.toArray)[0]? = some (.iface t u):=by rw [Array.getElem?_append_left (by simp)];rfl
 have h3:(#[Value.iface t u]++vs.toArray).extract 1 (#[Value.iface t u]++vs.toArray).size=vs.toArray:=by simp
 simp only [execOp,ho,resolve,hc,h2,he.eval hy,Deferred.ofValue,Sem.run_bind,Sem.run_pure,Result.andThen_ok]
 simp only [invoke,h0,h3,callMethod,Sem.run_bind,run_program,Result.andThen_ok,hI]
 simp
theorem rd_callI {c:Call}{f:Nat}{vs:List Value}{y:Operand}{name:String}{t:TypeId}{u rv:Value}(ho:o.op=.call c)(hc:c.callee=.invoke y name)(hy:val s y=some (.iface t u))(hI:∀ w,(method (X.P.types.size+Made.depth) t u name).run X.P w=.ok (f,rv) w)(ha:vals s c.args.toList=some vs)
  (h:∀ w,Mem X l w→Calls X.P f (rv::vs).toArray w (Ret v w)) (hk:callOk X.P f=true:=by kernel_rfl):Rd X s l o v:=fun a w he hm=>by
 rw [run_op_inv ho hc he hy hI ha,run_enter hk]
 exact ⟨rfl,h w hm⟩
theorem wl_newI {T:Type}{mk:T→Value}{Φ:T→Blks→Prop}{c:Call}{fi:Nat}{vs:List Value}{y:Operand}{name:String}{t:TypeId}{u rv:Value}{f:Blks→Blks}{s':T→Slots}(hg:gd s ops o=some true)(hd:dOk X.N o.dst=true)(ho:o.op=.call c)(hc:c.callee=.invoke y name)(hy:val s y=some (.iface t u))(hI:∀ w,(method (X.P.types.size+Made.depth) t u name).run X.P w=.ok (fi,rv) w)(ha:vals s c.args.toList=some vs)
  (hC:∀ w,Mem X l w→Calls X.P fi (rv::vs).toArray w (RetO mk Φ w)) [hf:Snoc l f] (h:∀ x oa,Φ x oa→Wl X ops Q r (s' x) (f oa)) (hk:callOk X.P fi=true:=by kernel_rfl)
  (hs':∀ x,sputO s o.dst (mk x)=s' x:=by intro _;(try dsimp only [sputO,sput,Nat.reduceBEq,cond_true,cond_false,beq_self_eq_true]);first|done|exact rfl):Wl X ops Q (o::r) s l:=fun a w hst=>by
 obtain rfl:(fun x=>sputO s o.dst (mk x))=s':=funext hs'
 have hw:=gd_wanted hst.env hg
 unfold wpList
 rw [if_pos hw]
 refine .inl ?_
 unfold Oper.wp
 rw [run_op_inv ho hc hst.env hy hI ha,run_enter hk]
 refine (hC w hst.mem).mono fun e w' ⟨x,oa,he,hφ,hup⟩=>?_
 subst he
 haveI:Seg l [] f:=⟨l,[],by simp,fun o=>by rw [hf.out,List.append_nil]⟩
 exact h x oa hφ _ _ ⟨hst.env.put hd _,hup.mem hst.mem⟩
theorem wl_updI {T:Type}{mk:T→Value}{oa:Blks}{Φ:T→Blks→Prop}{c:Call}{fi:Nat}{vs:List Value}{y:Operand}{name:String}{t:TypeId}{u rv:Value}{f:Blks→Blks}{s':T→Slots}(hg:gd s ops o=some true)(hd:dOk X.N o.dst=true)(ho:o.op=.call c)(hc:c.callee=.invoke y name)(hy:val s y=some (.iface t u))(hI:∀ w,(method (X.P.types.size+Made.depth) t u name).run X.P w=.ok (fi,rv) w)(ha:vals s c.args.toList=some vs)
  (hC:∀ w,Mem X l w→Hd oa w→Calls X.P fi (rv::vs).toArray w (RetU mk oa Φ w)) [hf:Seg l oa f] (h:∀ x oa',Φ x oa'→Wl X ops Q r (s' x) (f oa')) (hk:callOk X.P fi=true:=by kernel_rfl)
  (hs':∀ x,sputO s o.dst (mk x)=s' x:=by intro _;(try dsimp only [sputO,sput,Nat.reduceBEq,cond_true,cond_false,beq_self_eq_true]);first|done|exact rfl):Wl X ops Q (o::r) s l:=fun a w hst=>by
 obtain rfl:(fun x=>sputO s o.dst (mk x))=s':=funext hs'
 have hw:=gd_wanted hst.env hg
 unfold wpList
 rw [if_pos hw]
 refine .inl ?_
 unfold Oper.wp
 rw [run_op_inv ho hc hst.env hy hI ha,run_enter hk]
 refine (hC w hst.mem hst.mem.hd).mono fun e w' ⟨x,oa',he,hφ,hup⟩=>?_
 subst he
 exact h x oa' hφ _ _ ⟨hst.env.put hd _,hup.mem hst.mem⟩
end
section
variable {X:Cx}{Q:Post}{s:Slots}{l:Blks}{ops:Array Oper}{r:List Oper}{d:Option Tmp}{ty:TypeId}{p:String}{af:Array Edge}{g:Option (Nat×Bool)}
theorem sel_makeInterface {t:TypeId}{x:Operand}(h:Wl X ops Q (⟨d,.makeInterface t x,ty,p,af,g⟩::r) s l):Wl X ops Q (⟨d,.makeInterface t x,ty,p,af,g⟩::r) s l:=h
theorem sel_typeAssert {x:Operand}{t t':TypeId}{b:Bool}(h:Wl X ops Q (⟨d,.typeAssert x t t' b,ty,p,af,g⟩::r) s l):Wl X ops Q (⟨d,.typeAssert x t t' b,ty,p,af,g⟩::r) s l:=h
end
end Go.Proofs.YtkendlnjaopbeaaGreatDoor
namespace Go.Proofs.YtkendlnjaopbeaaGreatDoor
open Go.RowKit
attribute [local irreducible] rwA bys
set_option linter.unusedVariables false
set_option linter.unusedSimpArgs false
set_option maxRecDepth 100000
abbrev sgSt (W:List Nat)(R:Nat)(iv:List Nat)(a:Nat):Sg:=[(241,rwA (sgA W R)),(16,bys iv),(1,#[.int .u64 (a:Int)])]
instance seg_key {W:List Nat}{R:Nat}[h:AKey W]:SegL (rwA (sgA W R)) 241:=by
 haveI:SgOk (sgA W R):=inferInstance
 exact seg_rw rfl
instance cells_key {W:List Nat}{R:Nat}[h:AKey W]:Cells (rwA (sgA W R)) 241:=⟨seg_key.size,seg_key.one⟩
theorem wrapU64 {a:Nat}(h:a<18446744073709551616):IntKind.u64.wrap (a:Int)=(a:Int):=by rw [wrapU,Nat.mod_eq_of_lt h]
set_option maxHeartbeats 4000000 in
theorem st_more (w0 w:World)(hb:Below w0.heap.size w0 w){g a:Nat}{W iv:List Nat}{R:Nat}[hkk:AKey W](hR:R≤14)(hi:B16 iv)(hg:w.heap[g]? = some (.cells (rwA (sgSt W R iv a)) 106))(hf:w0.heap.size≤g)(ha:a≤2048){v:Value}{m:Nat}{p:List Nat}(hp:Cb w0 v m p)(hm:m≤2048) :
  Calls Tryz.prog 114 [ptr g,v].toArray w (RetPO (fun v:Value=>v) g (rwA (sgSt W R iv a)) 106 (fun v c oa=>OwnB 5 v m (strL (encL W R) iv a p) oa∧c=rwA (sgSt W R iv (a+m))) w):=by
 have i1:CsB (Old w [g]) v m p:=hp.oldB hb (fun k hk=>by rw [List.mem_singleton.1 hk];exact hf)
 have ST:=fun w'' (h:Cb w'' v m p)=>stream_c (W:=W) (R:=R) w'' hR hi (a:=a) (by omega) (by omega) h
 haveI:NBy iv 16:=⟨hi.len⟩
 haveI:SgOk (sgSt W R iv a):=inferInstance
 have u1:IntKind.u64.wrap (m:Int)=(m:Int):=wrapU64 (by omega)
 have u2:IntKind.u64.wrap ((a:Int)+(m:Int))=((a+m:Nat):Int):=by rw [show ((a:Int)+(m:Int))=((a+m:Nat):Int) by omega];exact wrapU64 (by omega)
 generalize strL (encL W R) iv a p=S at *
 clear hp hb
 refine fn_updPO (N:=_) Tryz.func114 rfl Tryz.ntmps114 Tryz.results114 (by simp) hg ?_
 simp only [initS,Nat.reduceAdd,Nat.zero_add]
 repeat' (first|(refine wlS ?_)|(refine wlG ?_)|(refine wlB ?_)|(refine wlE ?_)|(refine efSvao ?_;intro v oa ho)|(refine efG ?_)|((with_reducible refine sel_call ?_);first|(refine wl_newO rfl rfl rfl rfl rfl (fun w hm=>by with_reducible exact ST w (VwB.out w hm)) ?_;intro x oa hx))|(refine efB ?_)|(refine efBS ?_)|(refine wl_skip rfl rfl ?_)|((with_reducible refine wc_seq ?_);intro K hK)|(refine auC ?_)|(refine wc_cond rfl (fun hc=>?_) (fun hc=>?_))|((with_reducible refine wc_drawT (by kernel_rfl) ?_);(try simp only [List.append_eq,List.cons_append,List.nil_append,List.length_cons,List.length_nil,Nat.reduceAdd]))|((with_reducible refine sel_wh ?_);(refine wh_if (by decide +kernel) ?_);first|(refine wh_take (lq:=[]) rfl rfl rfl rfl (by first|exact rvS|exact rvG|exact rvB|exact rvE) (Or.inl rfl) ?_)|(refine wh_takeL rfl rfl rfl rfl (by first|exact rvS|exact rvG|exact rvB|exact rvE) (by decide +kernel) ?_))|(refine whS ?_;intro v hv hp)|((with_reducible refine sel_wh ?_);first|(refine wh_pass rfl rfl rfl rfl ?_)|(refine wh_done rfl ?_)|(refine wh_all rfl ?_))|((with_reducible refine sel_rest ?_);first|exact rest_nil rfl|refine rest_cons rfl rfl ?_ ?_)|((with_reducible refine sel_nx ?_);first|refine next_of ?_|refine next_late (by decide +kernel) ?_)|(refine auP ?_)|((refine auR ?_);clear hK K)|(refine auR ?_)|((with_reducible refine hK _ _ ?_);clear hK K)|fail)
 first|refine end_ret (ResP.tmp rfl ResP.nil) ?_|refine end_normal (ResP.tmp rfl ResP.nil) ?_
 (try dsimp only [tupV])
 exact ⟨_,_,oa,rfl,⟨hx,rfl⟩,SubL.refl _⟩
end Go.Proofs.YtkendlnjaopbeaaGreatDoor
