/- The package aes,walked: a key of another length;blocks are compared;an array of bytes that came in. Bytes that are told as strings;bytes.Equal. The laws of many blocks: what they need of ends,and of what is opened. Sealing and opening in parts: plain laws. The package mode,walked: Stream. The walk over lists: interfaces: a value in one,a call by one,what it holds. The package op,walked: streams. The package op,walked: a sealer. The package op,walked: the ends of streams and sealers;blocks that are seen and stay. Slices of bytes that end where a block of the walk's own ends,wherever they begin. The package op,walked: an opener. The package op,walked: what is new,for streams,sealers,openers. -/
import Derived.Test.YtkendlnjaopbeaaGreatDoorAesX
import Derived.Test.YtkendlnjaopbeaaGreatDoorJnAG
import Derived.Test.YtkendlnjaopbeaaGreatDoorJnAF
import Derived.Test.YtkendlnjaopbeaaGreatDoorJnAB
import Derived.Test.YtkendlnjaopbeaaGreatDoorJnAC
import Derived.Laws.BytesArg
import Derived.Laws.Strings
import Derived.Test.YtkendlnjaopbeaaGreatDoorModeO
import Derived.Test.YtkendlnjaopbeaaGreatDoorJnAD
import Derived.Stop.Asserts
namespace Go.Proofs.YtkendlnjaopbeaaGreatDoor
open Go.RowKit Go.ChangeShapes Go.WideShapes
set_option linter.unusedVariables false
set_option linter.unusedSimpArgs false
set_option maxRecDepth 100000
theorem open_b16l {H:Type}{enc:TypeId×Value→H}{W:World}{r:Reach}{b0:Nat}{v:Value}{d:DataW H}{q:List MemPlace}(hv:Value.okWide Tryz.prog W r b0 23 v)(h:DataW.Trod enc Tryz.prog W 0 (fun _=>true) true 23 v d q) :
  ∃ d:List Nat,ArB 16 v d∧True:=open_arrl (e:=5) (by kernel_rfl) (by kernel_rfl) (by kernel_rfl) (by kernel_rfl) hv h
theorem key_len {m:Nat}(h:m=16∨m=24∨m=32):∃ n,m=4 * n∧(n=4∨n=6∨n=8):=by
 rcases h with h|h|h
 ·exact ⟨4,h,.inl rfl⟩
 ·exact ⟨6,h,.inr (.inl rfl)⟩
 ·exact ⟨8,h,.inr (.inr rfl)⟩
attribute [local irreducible] rwA bys
set_option maxHeartbeats 4000000 in
theorem exp_no (w':World){v:Value}{m:Nat}{p:List Nat}(hn:¬(m=16∨m=24∨m=32))(h:Cb w' v m p) :
  Calls Tryz.prog 25 [v].toArray w' (Ret (.tuple #[kv (List.replicate 240 0) 0,.int .i64 1]) w'):=by
 haveI i1:=h.old
 have hmm:m≤maxLen:=by obtain ⟨_,_,_,h1,h2,_⟩:=i1.cs.ln.out;omega
 simp only [maxLen] at hmm
 clear h
 have a1:(((m:Nat):Int) != 16)=true:=by simp only [bne_iff_ne,ne_eq];omega
 have a2:(((m:Nat):Int) != 24)=true:=by simp only [bne_iff_ne,ne_eq];omega
 have a3:(((m:Nat):Int) != 32)=true:=by simp only [bne_iff_ne,ne_eq];omega
 refine fn_ret (N:=_) Tryz.func25 rfl Tryz.ntmps25 Tryz.results25 (by simp) ?_
 simp only [initS,Nat.reduceAdd,Nat.zero_add]
 repeat' (first|(refine wlS ?_)|(refine wlG ?_)|(refine wlBZ ?_)|(refine wlB ?_)|(refine wlE ?_)|(refine efSvao ?_;intro v oa ho)|(refine efG ?_)|(refine efGnn ?_;intro n hn)|(refine efBnn ?_;intro n hn)|(refine efB ?_)|(refine efBS ?_)|(refine wl_skip rfl rfl ?_)|(refine wdS ?_)|(refine wdG ?_)|(refine wdV ?_)|(refine wdB ?_)|(refine wdE ?_)|(refine wdT ?_)|(refine wdTO ?_)|(refine wd_skip rfl rfl ?_)|((with_reducible refine seld_nil ?_);refine wd_nil hm0 ?_;clear hm0 hw0)|((with_reducible refine wc_seq ?_);intro K hK)|(refine auC ?_)|(refine wc_cond rfl (fun hc=>?_) (fun hc=>?_))|(refine wc_draw (by kernel_rfl) (by kernel_rfl) (by decide +kernel) ?_;intro w0 hw0 hm0;(try simp only [List.append_eq,List.cons_append,List.nil_append]))|(refine auP ?_)|((refine auR ?_);clear hK K)|(refine auR ?_)|((with_reducible refine hK _ _ ?_);clear hK K)|fail)
 first|refine end_ret (ResP.cell rfl ld_wholeG (ResP.tmp rfl ResP.nil)) ?_|refine end_normal (ResP.cell rfl ld_wholeG (ResP.tmp rfl ResP.nil)) ?_
 first|rfl|(show _=_;rfl)|(simp only [tupV, *];done)
end Go.Proofs.YtkendlnjaopbeaaGreatDoor
namespace Go.Proofs.YtkendlnjaopbeaaGreatDoor
open Go.RowKit
set_option linter.unusedVariables false
set_option linter.unusedSimpArgs false
def strB (l:List Nat):ByteArray:=strOfNums (l.map fun k:Nat=>(k:Int))
theorem strB_data (l:List Nat):(strB l).data.toList=l.map UInt8.ofNat:=by
 rw [strB,strOfNums_data,List.map_map]
 apply List.map_congr_left
 intro k _
 simp
theorem ofNat_inj {a b:Nat}(ha:a<256)(hb:b<256)(h:UInt8.ofNat a=UInt8.ofNat b):a=b:=by
 have:=congrArg UInt8.toNat h
 rwa [UInt8.toNat_ofNat',UInt8.toNat_ofNat',Nat.mod_eq_of_lt ha,Nat.mod_eq_of_lt hb] at this
theorem map_inj {p q:List Nat}(hp:∀ x∈p,x<256)(hq:∀ x∈q,x<256)(h:p.map UInt8.ofNat=q.map UInt8.ofNat):p=q:=by
 induction p generalizing q with
 | nil=>cases q with
  | nil=>rfl
  | cons b r=>simp at h
 | cons a r ih=>cases q with
  | nil=>simp at h
  | cons b r'=>
   simp only [List.map_cons,List.cons.injEq] at h
   rw [ofNat_inj (hp a (by simp)) (hq b (by simp)) h.1,ih (fun x hx=>hp x (by simp [hx])) (fun x hx=>hq x (by simp [hx])) h.2]
theorem strB_inj {n m:Nat}{p q:List Nat}(hp:BL n p)(hq:BL m q):strB p=strB q↔p=q:=by
 refine ⟨fun h=>?_,fun h=>by rw [h]⟩
 have h1:=congrArg (fun b=>b.data.toList) h
 simp only [strB_data] at h1
 exact map_inj hp.by' hq.by' h1
theorem cs_string {P:Program}{w:World}{v:Value}{n src dst e:Nat}{p:List Nat}(hb:Cb w v n p)(hs:P.underlying src=some (.slice e))(he:P.underlying e=some (.int .u8))(hd:P.underlying dst=some .string) :
  (convert src dst v).run P w=.ok (.string (strB p)) w:=by
 have hp:=hb.ok
 have h:=hb.cs
 clear hb
 obtain ⟨q,cap,rfl,h1,h2,h3⟩:=h.ln.out
 rcases Nat.eq_zero_or_pos n with h0|h0
 ·have hp0:p=[]:=List.eq_nil_of_length_eq_zero (by rw [hp.len,h0])
  subst hp0
  cases q with
  | none=>rw [run_convert_bytes_nil w src e hs he n cap dst hd];rfl
  | some a=>
   obtain ⟨b,off,spot⟩:=a
   have hl:(loadCells ⟨b,off,spot⟩ n).run P w=.ok (([]:List Int).map (Value.int .u8)).toArray w:=by subst h0;simp [loadCells,loadCellsFrom]
   rw [run_convert_bytes_string w src dst e _ n cap hs he hd,run_bytesToString w _ n cap [] hl]
   rfl
 ·obtain ⟨b,off,rfl⟩:=h3 h0
  refine run_convert_bytes_arg w src e hs he b off n cap (p.map fun k:Nat=>(k:Int)) (by rw [List.length_map,hp.len]) (fun i hi=>?_) dst hd
  obtain ⟨b',off',cap',hv,hc⟩:=h.cell i (.int .u8 ((p.getD i 0:Nat):Int)) (bl_get (by rw [hp.len];exact hi))
  injection hv with hv
  injection hv with hv
  injection hv with hb ho
  subst hb;subst ho
  rw [hc]
  have hi':i<p.length:=by rw [hp.len];exact hi
  simp [List.getD,hi']
section
variable {X:Cx}{s:Slots}{l:Blks}{o:Oper}{v:Value}
theorem rd_convS {src dst e n:Nat}{x:Operand}{p:List Nat}(ho:o.op=.convert src dst x)(hx:val s x=some v)[hs:UT X.P src (.slice e)][he:UT X.P e (.int .u8)][hd:UT X.P dst .string][hv:VwB X l v n p]:RdV X s l o (.string (strB p)):=
 rd_val fun a w hev hm=>by
  simp only [execOp,ho,hev.eval hx,Sem.run_bind,cs_string (hv.out w hm) hs.out he.out hd.out,Result.andThen_ok,Sem.run_pure]
theorem rd_eqlS {t yt:Nat}{x y:Operand}{a b:ByteArray}{r:Bool}(ho:o.op=.binOp .eql t x y yt)(hx:val s x=some (.string a))(hy:val s y=some (.string b))(hr:(a.toList == b.toList)=r:=by first|(with_reducible assumption)|rfl):RdV X s l o (.bool r):=
 rd_val fun e w he hm=>by
  subst hr
  simp only [execOp,ho,he.eval hx,he.eval hy,eqGuard]
  simp [binOp_string_eql]
end
theorem strB_beq {n m:Nat}{p q:List Nat}(hp:BL n p)(hq:BL m q):((strB p).toList == (strB q).toList)=(p == q):=by
 rw [Bool.eq_iff_iff,beq_iff_eq,beq_iff_eq,←strB_inj hp hq,ByteArray.toList_eq,ByteArray.toList_eq]
 constructor
 ·intro h
  cases h1:strB p;cases h2:strB q
  rw [h1,h2] at h
  congr 1
  exact Array.ext' h
 ·intro h;rw [h]
set_option maxHeartbeats 1000000 in
set_option maxRecDepth 100000 in
theorem beq_c (w:World){v u:Value}{n m:Nat}{p q:List Nat}(hv:Cb w v n p)(hu:Cb w u m q):Calls Tryz.prog 11 [v,u].toArray w (Ret (.bool (p == q)) w):=by
 haveI:=hv.old
 haveI:=hu.old
 have hr:=strB_beq hv.ok hu.ok
 refine fn_ret (N:=_) Tryz.func11 rfl Tryz.ntmps11 Tryz.results11 (by simp) ?_
 simp only [initS,Nat.reduceAdd,Nat.zero_add]
 repeat' (first|(refine wlS ?_)|(refine wlB ?_)|(refine wl_skip rfl rfl ?_)|((with_reducible refine wc_seq ?_);intro K hK)|(refine auC ?_)|(refine wc_cond rfl (fun hc=>?_) (fun hc=>?_))|(refine wc_draw (by kernel_rfl) (by kernel_rfl) (by decide +kernel) ?_;intro w0 hw0 hm0;(try simp only [List.append_eq,List.cons_append,List.nil_append]))|(refine auP ?_)|((refine auR ?_);clear hK K)|(refine auR ?_)|((with_reducible refine hK _ _ ?_);clear hK K)|fail)
 first|refine end_ret (ResP.tmp rfl ResP.nil) ?_|refine end_normal (ResP.tmp rfl ResP.nil) ?_
 first|rfl|(show _=_;rfl)|(simp only [tupV, *];done)
theorem beq_r (w:World){v u:Value}{n m:Nat}{p q:List Nat}{r:Bool}(hv:Cb w v n p)(hu:Cb w u m q)(h:(p == q)=r):Calls Tryz.prog 11 [v,u].toArray w (Ret (.bool r) w):=by
 rw [←h];exact beq_c w hv hu
end Go.Proofs.YtkendlnjaopbeaaGreatDoor
namespace Go.Proofs.YtkendlnjaopbeaaGreatDoor
open Go.RowKit
attribute [local irreducible] rwA bys
set_option linter.unusedVariables false
set_option linter.unusedSimpArgs false
set_option maxRecDepth 100000
section
variable {W iv c:List Nat}{R q:Nat}{E D:List Nat→List Nat}{u:Value}
theorem open_yes (w':World)[hkk:AKey W](hed:EDok E D)(DE:∀ b,B16 b→∀ w,Calls Tryz.prog 128 [kv W R,.agg (bys b)].toArray w (Ret (.agg (bys (D b))) w))(hi:B16 iv)(hq0:0<q)(hm:q≤67108864)(h:Cb w' u (16 * q) c)
  {k:Nat} {p:List Nat} (hok:endOk (dflat D iv c q)) (hk:16 * q - endN (dflat D iv c q)=k) (hp:(dflat D iv c q).take k=p) :
  Calls Tryz.prog 127 [kv W R,.agg (bys iv),u].toArray w' (RetO (fun v:Value=>.tuple #[v,.int .i64 0]) (fun v oa=>CsB (Hd oa) v k p) w'):=
 (open_c w' hed DE hi hq0 hm h).mono fun e w2 ⟨x,oa,he,hx,hu⟩=>by
  rcases hx with ⟨_,h2,h3⟩ | ⟨h1,_⟩
  ·subst hp;subst hk
   exact ⟨x.1,oa,by rw [he];dsimp only;rw [h2],h3,hu⟩
  ·exact absurd hok h1
theorem open_no (w':World)[hkk:AKey W](hed:EDok E D)(DE:∀ b,B16 b→∀ w,Calls Tryz.prog 128 [kv W R,.agg (bys b)].toArray w (Ret (.agg (bys (D b))) w))(hi:B16 iv)(hq0:0<q)(hm:q≤67108864)(h:Cb w' u (16 * q) c)
  (hok:¬endOk (dflat D iv c q)):Calls Tryz.prog 127 [kv W R,.agg (bys iv),u].toArray w' (Ret (.tuple #[.slice none 0 0,.int .i64 4]) w'):=
 (open_c w' hed DE hi hq0 hm h).mono fun e w2 ⟨x,oa,he,hx,hu⟩=>by
  rcases hx with ⟨h1,_⟩ | ⟨_,h2,h3⟩
  ·exact absurd h1 hok
  ·subst h3;subst h2
   exact ⟨he,hu.below⟩
end
end Go.Proofs.YtkendlnjaopbeaaGreatDoor
namespace Go.Proofs.YtkendlnjaopbeaaGreatDoor
set_option linter.unusedVariables false
set_option linter.unusedSimpArgs false
section
variable {E D:List Nat→List Nat}{iv:List Nat}
theorem blk_drop (p:List Nat)(m k:Nat):blk (p.drop (16 * m)) k=blk p (m+k):=by
 rw [blk,blk,List.drop_drop,show 16 * m+16 * k=16 * (m+k) by omega]
theorem cblk_drop (p:List Nat)(m:Nat):∀ k,cblk E (cblk E iv p m) (p.drop (16 * m)) k=cblk E iv p (m+k)
 | 0=>rfl
 | k+1=>by
  rw [←Nat.add_assoc,cblk,cblk,cblk_drop p m k,blk_drop]
theorem cflat_drop (p:List Nat)(m:Nat):∀ k,cflat E iv p (m+k)=cflat E iv p m++cflat E (cblk E iv p m) (p.drop (16 * m)) k
 | 0=>by rw [cflat,List.append_nil];rfl
 | k+1=>by
  rw [←Nat.add_assoc,cflat,cflat_drop p m k,cflat,List.append_assoc,cblk_drop,←Nat.add_assoc]
theorem cblk_pre {a b:List Nat}:∀ m,(∀ k,k<m→blk a k=blk b k)→cblk E iv a m=cblk E iv b m
 | 0,_=>rfl
 | m+1,h=>by rw [cblk,cblk,cblk_pre m fun k hk=>h k (by omega),h m (by omega)]
theorem cflat_pre {a b:List Nat}:∀ m,(∀ k,k<m→blk a k=blk b k)→cflat E iv a m=cflat E iv b m
 | 0,_=>rfl
 | m+1,h=>by rw [cflat,cflat,cflat_pre m fun k hk=>h k (by omega),cblk_pre (m+1) h]
theorem prevC_drop (c:List Nat)(m:Nat):∀ k,prevC (prevC iv c m) (c.drop (16 * m)) k=prevC iv c (m+k)
 | 0=>rfl
 | k+1=>by
  rw [←Nat.add_assoc,prevC,prevC,blk_drop]
theorem dflat_drop (c:List Nat)(m:Nat):∀ k,dflat D iv c (m+k)=dflat D iv c m++dflat D (prevC iv c m) (c.drop (16 * m)) k
 | 0=>by rw [dflat,List.append_nil];rfl
 | k+1=>by
  rw [←Nat.add_assoc,dflat,dflat_drop c m k,dflat,List.append_assoc]
  congr 1
  congr 1
  rw [dblk,dblk,blk_drop,prevC_drop]
theorem seal_front (h:EDok E D)(hi:B16 iv){q:List Nat}(hq:∀ x∈q,x<256){m:Nat}(hm:16 * m≤q.length):(cflat E iv (padP (q.take (16 * m))) (m+1)).take (16 * m)=cflat E iv q m:=by
 have hl:(q.take (16 * m)).length=16 * m:=by rw [List.length_take];omega
 have h1:cflat E iv (padP (q.take (16 * m))) m=cflat E iv q m:=cflat_pre m fun k hk=>by
  rw [padP,blk_app (by rw [hl];omega)]
  have:=blk_app (a:=q.take (16 * m)) (b:=q.drop (16 * m)) (k:=k) (by rw [hl];omega)
  rw [List.take_append_drop] at this
  exact this.symm
 have h2:=(cflat_ok h hi hq m hm).1
 rw [cflat,h1,←h2,List.take_left]
theorem cflat_last (h:EDok E D)(hi:B16 iv){q:List Nat}(hq:∀ x∈q,x<256){m:Nat}(h0:0<m)(hm:16 * m≤q.length):(cflat E iv q m).drop (16 * m - 16)=cblk E iv q m:=by
 obtain ⟨m,rfl⟩:∃ k,m=k+1:=⟨m - 1,by omega⟩
 have h2:=(cflat_ok h hi hq m (by omega)).1
 rw [cflat,show 16 * (m+1) - 16=(cflat E iv q m).length by omega,List.drop_left]
theorem padP_byl' {q:List Nat}(hq:∀ x∈q,x<256)(m:Nat):∀ x∈padP (q.drop m),x<256:=padP_byl fun x hx=>hq x (List.mem_of_mem_drop hx)
end
end Go.Proofs.YtkendlnjaopbeaaGreatDoor
namespace Go.Proofs.YtkendlnjaopbeaaGreatDoor
open Go.RowKit
attribute [local irreducible] rwA bys
set_option linter.unusedVariables false
set_option linter.unusedSimpArgs false
set_option maxRecDepth 100000
def strK (E:List Nat→List Nat)(iv:List Nat)(a:Nat):Nat→List Nat
 | 0=>List.replicate 16 0
 | i+1=>E (plusL iv (plc a i / 16))
theorem strK_ok {E D:List Nat→List Nat}(h:EDok E D){iv:List Nat}(hi:B16 iv)(a:Nat):∀ i,B16 (strK E iv a i)
 | 0=>B16.of (by simp [strK]) (by simp only [strK];intro x hx;rw [(List.mem_replicate.1 hx).2];decide)
 | i+1=>h.eok _ (plusL_ok hi _)
theorem strK_same {E:List Nat→List Nat}{iv:List Nat}{a i:Nat}(h0:i≠0)(h:plc a i % 16≠0):strK E iv a i=E (plusL iv (plc a i / 16)):=by
 obtain ⟨j,rfl⟩:∃ j,i=j+1:=⟨i - 1,by omega⟩
 rw [strK]
 congr 2
 unfold plc at *
 omega
set_option maxHeartbeats 4000000 in
theorem stream_c (w':World){W iv p:List Nat}{R a m:Nat}{u:Value}[hkk:AKey W](hR:R≤14)(hi:B16 iv)(ha:a<18446744073709551616)(hm:m≤1073741824)(h:Cb w' u m p) :
  Calls Tryz.prog 115 [kv W R,.agg (bys iv),.int .u64 (a:Int),u].toArray w' (RetO (fun v=>v) (fun v oa=>OwnB 5 v m (strL (encL W R) iv a p) oa) w'):=by
 haveI i1:=h.old
 have hpl:=h.ok.len
 have hpb:=h.ok.by'
 clear h
 have hed:=edok hkk.ok R
 have EN:∀ q w,Calls Tryz.prog 116 [kv W R,.agg (bys (plusL iv q))].toArray w (Ret (.agg (bys (encL W R (plusL iv q)))) w):=fun q w=>enc_c w hR (plusL_ok hi q)
 have KOK:=strK_ok hed hi a
 have hst:=fun i (hx:i<p.length)=>strP_step (E:=encL W R) (iv:=iv) (a:=a) hx
 have hz:=strP_zero (E:=encL W R) (iv:=iv) a p
 have hal:=strP_all (E:=encL W R) (iv:=iv) a p
 have hsl:=fun i=>strK_same (E:=encL W R) (iv:=iv) (a:=a) (i:=i)
 have hsB:∀ q,skB (encL W R) iv q=(encL W R (plusL iv (q / 16))).getD (q % 16) 0:=fun q=>rfl
 have hsb:=skB_lt hed hi
 have hk0:strK (encL W R) iv a 0=List.replicate 16 0:=rfl
 have hkS:∀ i,strK (encL W R) iv a (i+1)=encL W R (plusL iv (plc a i / 16)):=fun _=>rfl
 have EOK:∀ q,B16 (encL W R (plusL iv q)):=fun q=>hed.eok _ (plusL_ok hi q)
 haveI:NBy iv 16:=⟨hi.len⟩
 haveI:SgOk (sgA W R):=inferInstance
 have hpl':=hpl
 rw [hpl] at hst hz hal
 rw [←hal]
 refine fn_own (N:=_) Tryz.func115 rfl Tryz.ntmps115 Tryz.results115 (by simp) ?_
 simp only [initS,Nat.reduceAdd,Nat.zero_add]
 repeat' (first|(refine wlS ?_)|(refine wlG ?_)|(refine wlB ?_)|(refine wlE ?_)|(refine efSvao ?_;intro v oa ho)|(refine efM ?_)|(refine efMvao ?_;intro v oa ho)|((with_reducible refine sel_store ?_);first|(refine wl_putB (e:=5) rfl rfl rfl rfl rfl ?_;intro oa ho))|(refine efG ?_)|(refine efGnn ?_;intro n hn)|(refine efZCnn ?_;intro n hn)|(refine efBnn ?_;intro n hn)|(refine efB ?_)|(refine efBS ?_)|(refine wl_skip rfl rfl ?_)|(refine wdS ?_)|(refine wdG ?_)|(refine wdV ?_)|(refine wdB ?_)|(refine wdE ?_)|(refine wdT ?_)|(refine wdTO ?_)|(refine wd_skip rfl rfl ?_)|((with_reducible refine seld_nil ?_);refine wd_nil hm0 ?_;clear hm0 hw0)|((with_reducible refine wc_seq ?_);intro K hK)|(refine auC ?_)|(refine wc_cond rfl (fun hc=>?_) (fun hc=>?_))|(refine wc_draw (by kernel_rfl) (by kernel_rfl) (by decide +kernel) ?_;intro w0 hw0 hm0;(try simp only [List.append_eq,List.cons_append,List.nil_append]))|(refine auP ?_)|((refine auR ?_);clear hK K)|(refine auR ?_)|((with_reducible refine hK _ _ ?_);clear hK K)|fail)
 rename_i n4 hn4 n5 hn5
 obtain ⟨n10,rfl⟩:∃ n10,n10=n:=⟨n,rfl⟩
 refine wc_loop (σ:=Nat×Value×Blks) (fun x=>[(2,.int .u64 (a:Int)),(4,ptr n4),(5,ptr n5),(9,x.2.1),(10,ptr n10),(17,u),(18,.int .i64 (m:Int)),(19,.int .i64 (x.1:Int))])
  (fun x=>(n10,(bys (strK (encL W R) iv a x.1),23))::(n5,(bys iv,23))::(n4,(rwA (sgA W R),77))::x.2.2)
  (fun x=>x.1≤m∧OwnB 5 x.2.1 m (strP (encL W R) iv a p x.1) x.2.2) (fun x=>m - x.1) (0,v,oa) ⟨Nat.zero_le _,by rw [hz];exact ho⟩ (Fits.of ⟨rfl,rfl,rfl,rfl,rfl,rfl,rfl,rfl,trivial⟩ (SubL.refl _) rfl) ?_
 clear ho hz hal oa v
 rintro ⟨i,v9,oa⟩ ⟨hi',ho⟩
 dsimp only at hi' ho ⊢
 haveI:NBy (strK (encL W R) iv a i) 16:=⟨(KOK i).len⟩
 by_cases hlt:i<m
 ·have t1:decide ((i:Int)<(m:Int))=true:=decide_eq_true (by omega)
  have k1:IntKind.i64.wrap ((i:Int)+1)=((i+1:Nat):Int):=by rw [wrap_i64 _ (by omega) (by omega)];omega
  have gp:=bl_get (l:=p) (i:=i) (by omega)
  have j1:(i:Int)<(m:Int):=by omega
  have k2:IntKind.u64.wrap (i:Int)=(i:Int):=wrap_u64 _ (by omega) (by omega)
  have k3:IntKind.u64.wrap ((a:Int)+(i:Int))=((plc a i:Nat):Int):=by
   simp only [IntKind.wrap,IntKind.bits,IntKind.signed,plc];simp
  have hpq:plc a i<18446744073709551616:=Nat.mod_lt _ (by decide)
  have st:=hst i hlt
  have hsB1:=hsB (plc a i)
  have hsl1:=hsl i
  have hkS1:=hkS i
  have EN1:=EN (plc a i / 16)
  have EO1:=EOK (plc a i / 16)
  have hb:=bys8.get hpb i
  have hsb1:=hsb (plc a i)
  clear EN EOK hst hsB hsl hkS KOK hed hsb
  have PL:=fun w=>mplus_c w hi (d:=plc a i / 16) (by omega)
  generalize hpc:plc a i=c at *
  generalize hB:p.getD i 0=b at *
  have r1:(c:Int).tmod 16=((c % 16:Nat):Int):=by rw [Int.tmod_eq_emod_of_nonneg (by omega)];omega
  have r2:IntKind.u64.wrap ((c:Int).tdiv 16)=((c / 16:Nat):Int):=by rw [Int.tdiv_eq_ediv_of_nonneg (by omega),wrap_u64 _ (by omega) (by omega)];omega
  have r3:((c % 16:Nat):Int)<((16:Nat):Int):=by omega
  repeat' (first|(refine wlS ?_)|(refine wlG ?_)|(refine wlB ?_)|(refine wlE ?_)|(refine efSvao ?_;intro v oa ho)|(refine efM ?_)|(refine efMvao ?_;intro v oa ho)|((with_reducible refine sel_store ?_);first|(refine wl_putB (e:=5) rfl rfl rfl rfl rfl ?_;intro oa ho))|(refine efG ?_)|(refine efGnn ?_;intro n hn)|(refine efBnn ?_;intro n hn)|(refine efB ?_)|(refine efBS ?_)|(refine wl_skip rfl rfl ?_)|(refine wdS ?_)|(refine wdG ?_)|(refine wdV ?_)|(refine wdB ?_)|(refine wdE ?_)|(refine wdT ?_)|(refine wdTO ?_)|(refine wd_skip rfl rfl ?_)|((with_reducible refine seld_nil ?_);refine wd_nil hm0 ?_;clear hm0 hw0)|((with_reducible refine wc_seq ?_);intro K hK)|(refine auC ?_)|(refine wc_cond rfl (fun hc=>?_) (fun hc=>?_))|(refine wc_draw (by kernel_rfl) (by kernel_rfl) (by decide +kernel) ?_;intro w0 hw0 hm0;(try simp only [List.append_eq,List.cons_append,List.nil_append]))|(refine auP ?_)|((refine auR ?_);clear hK K)|(refine auR ?_)|((with_reducible refine hK _ _ ?_);clear hK K)|fail)
  rename_i KS hKS
  have SND:∀ s l,SubS [(2,.int .u64 (a:Int)),(4,ptr n4),(5,ptr n5),(9,v9),(10,ptr n10),(17,u),(18,.int .i64 (m:Int)),(19,.int .i64 (i:Int)),(11,.int .i64 (i:Int)),(12,.int .u8 (b:Int)),(13,.int .u64 (c:Int))] s→
    SubL ((n10,(bys (strK (encL W R) iv a (i+1)),23))::(n5,(bys iv,23))::(n4,(rwA (sgA W R),77))::oa) l→KS s l:=by
   clear hK K
   intro s l h1 h2
   refine hKS s l (wc_sub h1 h2 rfl ?_)
   clear hKS h1 h2 KS s l PL EN1
   rw [hsB1] at st hsb1
   rw [hkS1]
   generalize encL W R (plusL iv (c / 16))=S at *
   haveI:NBy S 16:=⟨EO1.len⟩
   have gs:=bys_get (l:=S) (i:=c % 16) (by rw [EO1.len];omega)
   have xo:=bits_u8 b (S.getD (c % 16) 0) hb hsb1
   have hxl:=xor_lt hb hsb1
   generalize S.getD (c % 16) 0=z at *
   repeat' (first|(refine wlS ?_)|(refine wlG ?_)|(refine wlB ?_)|(refine wlE ?_)|(refine efSvao ?_;intro v oa ho)|(refine efM ?_)|(refine efMvao ?_;intro v oa ho)|((with_reducible refine sel_store ?_);first|(refine wl_putB (e:=5) rfl rfl rfl rfl rfl ?_;intro oa ho))|(refine efG ?_)|(refine efGnn ?_;intro n hn)|(refine efBnn ?_;intro n hn)|(refine efB ?_)|(refine efBS ?_)|(refine wl_skip rfl rfl ?_)|(refine wdS ?_)|(refine wdG ?_)|(refine wdV ?_)|(refine wdB ?_)|(refine wdE ?_)|(refine wdT ?_)|(refine wdTO ?_)|(refine wd_skip rfl rfl ?_)|((with_reducible refine seld_nil ?_);refine wd_nil hm0 ?_;clear hm0 hw0)|((with_reducible refine wc_seq ?_);intro K hK)|(refine auC ?_)|(refine wc_cond rfl (fun hc=>?_) (fun hc=>?_))|(refine wc_draw (by kernel_rfl) (by kernel_rfl) (by decide +kernel) ?_;intro w0 hw0 hm0;(try simp only [List.append_eq,List.cons_append,List.nil_append]))|(refine auP ?_)|((refine auR ?_);clear hK K)|(refine auR ?_)|((with_reducible refine hK _ _ ?_);clear hK K)|fail)
   exact ⟨(i+1,v9,_),⟨hlt,by rw [←st];assumption⟩,by dsimp only;omega,Fits.of ⟨rfl,rfl,rfl,rfl,rfl,rfl,rfl,rfl,trivial⟩ (by dsimp only;rw [hkS1];exact SubL.refl _) rfl⟩
  clear hKS
  haveI:NBy (strK (encL W R) iv a (i+1)) 16:=⟨by rw [hkS1];exact EO1.len⟩
  by_cases h0:i=0
  ·have t2:((i:Int) == 0)=true:=by rw [h0];rfl
   rw [t2]
   rw [←hkS1] at EN1
   repeat' (first|(refine wlS ?_)|(refine wlG ?_)|(refine wlB ?_)|((with_reducible refine sel_call ?_);refine wl_rd rfl rfl (rd_call rfl rfl rfl (fun w hm=>by with_reducible first|exact PL w|exact EN1 w)) ?_)|(refine wlE ?_)|(refine efSvao ?_;intro v oa ho)|(refine efM ?_)|(refine efMvao ?_;intro v oa ho)|((with_reducible refine sel_store ?_);first|(refine wl_putB (e:=5) rfl rfl rfl rfl rfl ?_;intro oa ho))|(refine efG ?_)|(refine efGnn ?_;intro n hn)|(refine efBnn ?_;intro n hn)|(refine efB ?_)|(refine efBS ?_)|(refine wl_skip rfl rfl ?_)|((with_reducible refine wc_seq ?_);intro K hK)|(refine auC ?_)|(refine wc_cond rfl (fun hc=>?_) (fun hc=>?_))|((with_reducible refine wc_drawT (by kernel_rfl) ?_);(try simp only [List.append_eq,List.cons_append,List.nil_append,List.length_cons,List.length_nil,Nat.reduceAdd]))|((with_reducible refine sel_wh ?_);(refine wh_if (by decide +kernel) ?_);first|(refine wh_take (lq:=[]) rfl rfl rfl rfl (by first|exact rvS|exact rvG|exact rvB|exact rvE) (Or.inl rfl) ?_)|(refine wh_takeL rfl rfl rfl rfl (by first|exact rvS|exact rvG|exact rvB|exact rvE) (by decide +kernel) ?_))|(refine whS ?_;intro v hv hp)|((with_reducible refine sel_wh ?_);first|(refine wh_pass rfl rfl rfl rfl ?_)|(refine wh_done rfl ?_)|(refine wh_all rfl ?_))|((with_reducible refine sel_rest ?_);first|exact rest_nil rfl|refine rest_cons rfl rfl ?_ ?_)|((with_reducible refine sel_nx ?_);first|refine next_of ?_|refine next_late (by decide +kernel) ?_)|(refine auP ?_)|((refine auR ?_);clear hK K)|(refine auR ?_)|((with_reducible refine hK _ _ ?_);clear hK K)|fail)
   refine SND _ _ (by exact ⟨rfl,rfl,rfl,rfl,rfl,rfl,rfl,rfl,rfl,rfl,rfl,trivial⟩) ?_
   repeat (first|exact SubL.nil|exact SubL.refl _|refine SubL.keep ?_|exact SubL.headA _ _|refine SubL.keepA ?_ _|refine SubL.skip ?_|refine SubL.skipA ?_ _)
  ·have t2:((i:Int) == 0)=false:=by simp only [beq_eq_false_iff_ne,ne_eq];omega
   rw [t2]
   by_cases h16:c % 16=0
   ·have t3:(((c % 16:Nat):Int) == 0)=true:=by rw [h16];rfl
    rw [←hkS1] at EN1
    repeat' (first|(refine wlS ?_)|(refine wlG ?_)|(refine wlB ?_)|((with_reducible refine sel_call ?_);refine wl_rd rfl rfl (rd_call rfl rfl rfl (fun w hm=>by with_reducible first|exact PL w|exact EN1 w)) ?_)|(refine wlE ?_)|(refine efSvao ?_;intro v oa ho)|(refine efM ?_)|(refine efMvao ?_;intro v oa ho)|((with_reducible refine sel_store ?_);first|(refine wl_putB (e:=5) rfl rfl rfl rfl rfl ?_;intro oa ho))|(refine efG ?_)|(refine efGnn ?_;intro n hn)|(refine efBnn ?_;intro n hn)|(refine efB ?_)|(refine efBS ?_)|(refine wl_skip rfl rfl ?_)|((with_reducible refine wc_seq ?_);intro K hK)|(refine auC ?_)|(refine wc_cond rfl (fun hc=>?_) (fun hc=>?_))|((with_reducible refine wc_drawT (by kernel_rfl) ?_);(try simp only [List.append_eq,List.cons_append,List.nil_append,List.length_cons,List.length_nil,Nat.reduceAdd]))|((with_reducible refine sel_wh ?_);(refine wh_if (by decide +kernel) ?_);first|(refine wh_take (lq:=[]) rfl rfl rfl rfl (by first|exact rvS|exact rvG|exact rvB|exact rvE) (Or.inl rfl) ?_)|(refine wh_takeL rfl rfl rfl rfl (by first|exact rvS|exact rvG|exact rvB|exact rvE) (by decide +kernel) ?_))|(refine whS ?_;intro v hv hp)|((with_reducible refine sel_wh ?_);first|(refine wh_pass rfl rfl rfl rfl ?_)|(refine wh_done rfl ?_)|(refine wh_all rfl ?_))|((with_reducible refine sel_rest ?_);first|exact rest_nil rfl|refine rest_cons rfl rfl ?_ ?_)|((with_reducible refine sel_nx ?_);first|refine next_of ?_|refine next_late (by decide +kernel) ?_)|(refine auP ?_)|((refine auR ?_);clear hK K)|(refine auR ?_)|((with_reducible refine hK _ _ ?_);clear hK K)|fail)
    refine SND _ _ (by exact ⟨rfl,rfl,rfl,rfl,rfl,rfl,rfl,rfl,rfl,rfl,rfl,trivial⟩) ?_
    repeat (first|exact SubL.nil|exact SubL.refl _|refine SubL.keep ?_|exact SubL.headA _ _|refine SubL.keepA ?_ _|refine SubL.skip ?_|refine SubL.skipA ?_ _)
   ·have t3:(((c % 16:Nat):Int) == 0)=false:=by simp only [beq_eq_false_iff_ne,ne_eq];omega
    have hsame:=hsl1 h0 h16
    rw [←hkS1] at hsame
    rw [hsame] at *
    repeat' (first|(refine wlS ?_)|(refine wlG ?_)|(refine wlB ?_)|(refine wlE ?_)|(refine efSvao ?_;intro v oa ho)|(refine efM ?_)|(refine efMvao ?_;intro v oa ho)|((with_reducible refine sel_store ?_);first|(refine wl_putB (e:=5) rfl rfl rfl rfl rfl ?_;intro oa ho))|(refine efG ?_)|(refine efGnn ?_;intro n hn)|(refine efBnn ?_;intro n hn)|(refine efB ?_)|(refine efBS ?_)|(refine wl_skip rfl rfl ?_)|(refine wdS ?_)|(refine wdG ?_)|(refine wdV ?_)|(refine wdB ?_)|(refine wdE ?_)|(refine wdT ?_)|(refine wdTO ?_)|(refine wd_skip rfl rfl ?_)|((with_reducible refine seld_nil ?_);refine wd_nil hm0 ?_;clear hm0 hw0)|((with_reducible refine wc_seq ?_);intro K hK)|(refine auC ?_)|(refine wc_cond rfl (fun hc=>?_) (fun hc=>?_))|(refine wc_draw (by kernel_rfl) (by kernel_rfl) (by decide +kernel) ?_;intro w0 hw0 hm0;(try simp only [List.append_eq,List.cons_append,List.nil_append]))|(refine auP ?_)|((refine auR ?_);clear hK K)|(refine auR ?_)|((with_reducible refine hK _ _ ?_);clear hK K)|fail)
    refine SND _ _ (by exact ⟨rfl,rfl,rfl,rfl,rfl,rfl,rfl,rfl,rfl,rfl,rfl,trivial⟩) ?_
    repeat (first|exact SubL.nil|exact SubL.refl _|refine SubL.keep ?_|exact SubL.headA _ _|refine SubL.keepA ?_ _|refine SubL.skip ?_|refine SubL.skipA ?_ _)
 ·obtain rfl:i=m:=by omega
  have t1:decide ((i:Int)<(i:Int))=false:=decide_eq_false (by omega)
  repeat' (first|(refine wlS ?_)|(refine wlG ?_)|(refine wlB ?_)|(refine wlE ?_)|(refine efSvao ?_;intro v oa ho)|(refine efG ?_)|(refine efGnn ?_;intro n hn)|(refine efBnn ?_;intro n hn)|(refine efB ?_)|(refine efBS ?_)|(refine wl_skip rfl rfl ?_)|(refine wdS ?_)|(refine wdG ?_)|(refine wdV ?_)|(refine wdB ?_)|(refine wdE ?_)|(refine wdT ?_)|(refine wdTO ?_)|(refine wd_skip rfl rfl ?_)|((with_reducible refine seld_nil ?_);refine wd_nil hm0 ?_;clear hm0 hw0)|((with_reducible refine wc_seq ?_);intro K hK)|(refine auC ?_)|(refine wc_cond rfl (fun hc=>?_) (fun hc=>?_))|(refine wc_draw (by kernel_rfl) (by kernel_rfl) (by decide +kernel) ?_;intro w0 hw0 hm0;(try simp only [List.append_eq,List.cons_append,List.nil_append]))|(refine auP ?_)|((refine auR ?_);clear hK K)|(refine auR ?_)|((with_reducible refine hK _ _ ?_);clear hK K)|fail)
  first|refine end_ret (ResP.tmp rfl ResP.nil) ?_|refine end_normal (ResP.tmp rfl ResP.nil) ?_
  (try dsimp only [tupV])
  exact ⟨_,_,rfl,ho,.skip (.skip (.skip (SubL.refl _)))⟩
end Go.Proofs.YtkendlnjaopbeaaGreatDoor
namespace Go.Proofs.YtkendlnjaopbeaaGreatDoor
open Go.RowKit
set_option linter.unusedVariables false
set_option linter.unusedSimpArgs false
section
variable {X:Cx}{s:Slots}{l:Blks}{o:Oper}{v:Value}{Q:Post}{ops:Array Oper}{r:List Oper}
theorem rd_mkI {t:TypeId}{x:Operand}(ho:o.op=.makeInterface t x)(hx:val s x=some v)(h:∀ w,(Instr.makeInterface t v).run X.P w=.ok (.iface t v) w:=by intro _;rfl):RdV X s l o (.iface t v):=rd_val fun a w he hm=>by
 simp only [execOp,ho,he.eval hx,Sem.run_bind,h,Result.andThen_ok,Sem.run_pure]
theorem rd_tas {x:Operand}{t t':TypeId}{b:Bool}{u:Value}(ho:o.op=.typeAssert x t t' b)(hx:val s x=some v)(h:∀ w,(Instr.typeAssert v t t' b).run X.P w=.ok u w):RdV X s l o u:=rd_val fun a w he hm=>by
 simp only [execOp,ho,he.eval hx,Sem.run_bind,h,Result.andThen_ok,Sem.run_pure]
theorem run_op_inv {c:Call}{y:Operand}{name:String}{t:TypeId}{u rv:Value}{f:FuncId}{vs:List Value}{a:Act}{w:World}{N:Nat}(ho:o.op=.call c)(hc:c.callee=.invoke y name)(he:Env N s a)(hy:val s y=some (.iface t u))
  (hI:∀ w,(method (X.P.types.size+Made.depth) t u name).run X.P w=.ok (f,rv) w) (ha:vals s c.args.toList=some vs):(execOp a.eval o).run X.P w=(callFunc f (rv::vs).toArray).run X.P w:=by
 have h1:=he.vals ha
 have h2:c.args.map a.eval=vs.toArray:=by rw [←h1];simp [←Array.toList_map]
 have h0:(#[Value.iface t u]++vs.toArray)[0]? = some (.iface t u):=by rw [Array.getElem?_append_left (by simp)];rfl
 have h3:(#[Value.iface t u]++vs.toArray).extract 1 (#[Value.iface t u]++vs.toArray).size=vs.toArray:=by simp
 simp only [execOp,ho,resolve,hc,h2,he.eval hy,Deferred.ofValue,Sem.run_bind,Sem.run_pure,Result.andThen_ok]
 simp only [invoke,h0,h3,callMethod,Sem.run_bind,run_program,Result.andThen_ok,hI]
 simp
theorem rd_callI {c:Call}{f:Nat}{vs:List Value}{y:Operand}{name:String}{t:TypeId}{u rv:Value}(ho:o.op=.call c)(hc:c.callee=.invoke y name)(hy:val s y=some (.iface t u))(hI:∀ w,(method (X.P.types.size+Made.depth) t u name).run X.P w=.ok (f,rv) w)(ha:vals s c.args.toList=some vs)
  (h:∀ w,Mem X l w→Calls X.P f (rv::vs).toArray w (Ret v w)) (hk:callOk X.P f=true:=by kernel_rfl):Rd X s l o v:=fun a w he hm=>by
 rw [run_op_inv ho hc he hy hI ha,run_enter hk]
 exact ⟨rfl,h w hm⟩
theorem wl_newI {T:Type}{mk:T→Value}{Φ:T→Blks→Prop}{c:Call}{fi:Nat}{vs:List Value}{y:Operand}{name:String}{t:TypeId}{u rv:Value}{f:Blks→Blks}{s':T→Slots}(hg:gd s ops o=some true)(hd:dOk X.N o.dst=true)(ho:o.op=.call c)(hc:c.callee=.invoke y name)(hy:val s y=some (.iface t u))(hI:∀ w,(method (X.P.types.size+Made.depth) t u name).run X.P w=.ok (fi,rv) w)(ha:vals s c.args.toList=some vs)
  (hC:∀ w,Mem X l w→Calls X.P fi (rv::vs).toArray w (RetO mk Φ w)) [hf:Snoc l f] (h:∀ x oa,Φ x oa→Wl X ops Q r (s' x) (f oa)) (hk:callOk X.P fi=true:=by kernel_rfl)
  (hs':∀ x,sputO s o.dst (mk x)=s' x:=by intro _;(try dsimp only [sputO,sput,Nat.reduceBEq,cond_true,cond_false,beq_self_eq_true]);first|done|exact rfl):Wl X ops Q (o::r) s l:=fun a w hst=>by
 obtain rfl:(fun x=>sputO s o.dst (mk x))=s':=funext hs'
 have hw:=gd_wanted hst.env hg
 unfold wpList
 rw [if_pos hw]
 refine .inl ?_
 unfold Oper.wp
 rw [run_op_inv ho hc hst.env hy hI ha,run_enter hk]
 refine (hC w hst.mem).mono fun e w' ⟨x,oa,he,hφ,hup⟩=>?_
 subst he
 haveI:Seg l [] f:=⟨l,[],by simp,fun o=>by rw [hf.out,List.append_nil]⟩
 exact h x oa hφ _ _ ⟨hst.env.put hd _,hup.mem hst.mem⟩
theorem wl_updI {T:Type}{mk:T→Value}{oa:Blks}{Φ:T→Blks→Prop}{c:Call}{fi:Nat}{vs:List Value}{y:Operand}{name:String}{t:TypeId}{u rv:Value}{f:Blks→Blks}{s':T→Slots}(hg:gd s ops o=some true)(hd:dOk X.N o.dst=true)(ho:o.op=.call c)(hc:c.callee=.invoke y name)(hy:val s y=some (.iface t u))(hI:∀ w,(method (X.P.types.size+Made.depth) t u name).run X.P w=.ok (fi,rv) w)(ha:vals s c.args.toList=some vs)
  (hC:∀ w,Mem X l w→Hd oa w→Calls X.P fi (rv::vs).toArray w (RetU mk oa Φ w)) [hf:Seg l oa f] (h:∀ x oa',Φ x oa'→Wl X ops Q r (s' x) (f oa')) (hk:callOk X.P fi=true:=by kernel_rfl)
  (hs':∀ x,sputO s o.dst (mk x)=s' x:=by intro _;(try dsimp only [sputO,sput,Nat.reduceBEq,cond_true,cond_false,beq_self_eq_true]);first|done|exact rfl):Wl X ops Q (o::r) s l:=fun a w hst=>by
 obtain rfl:(fun x=>sputO s o.dst (mk x))=s':=funext hs'
 have hw:=gd_wanted hst.env hg
 unfold wpList
 rw [if_pos hw]
 refine .inl ?_
 unfold Oper.wp
 rw [run_op_inv ho hc hst.env hy hI ha,run_enter hk]
 refine (hC w hst.mem hst.mem.hd).mono fun e w' ⟨x,oa',he,hφ,hup⟩=>?_
 subst he
 exact h x oa' hφ _ _ ⟨hst.env.put hd _,hup.mem hst.mem⟩
end
section
variable {X:Cx}{Q:Post}{s:Slots}{l:Blks}{ops:Array Oper}{r:List Oper}{d:Option Tmp}{ty:TypeId}{p:String}{af:Array Edge}{g:Option (Nat×Bool)}
theorem sel_makeInterface {t:TypeId}{x:Operand}(h:Wl X ops Q (⟨d,.makeInterface t x,ty,p,af,g⟩::r) s l):Wl X ops Q (⟨d,.makeInterface t x,ty,p,af,g⟩::r) s l:=h
theorem sel_typeAssert {x:Operand}{t t':TypeId}{b:Bool}(h:Wl X ops Q (⟨d,.typeAssert x t t' b,ty,p,af,g⟩::r) s l):Wl X ops Q (⟨d,.typeAssert x t t' b,ty,p,af,g⟩::r) s l:=h
end
end Go.Proofs.YtkendlnjaopbeaaGreatDoor
namespace Go.Proofs.YtkendlnjaopbeaaGreatDoor
open Go.RowKit
attribute [local irreducible] rwA bys
set_option linter.unusedVariables false
set_option linter.unusedSimpArgs false
set_option maxRecDepth 100000
abbrev sgSt (W:List Nat)(R:Nat)(iv:List Nat)(a:Nat):Sg:=[(241,rwA (sgA W R)),(16,bys iv),(1,#[.int .u64 (a:Int)])]
instance seg_key {W:List Nat}{R:Nat}[h:AKey W]:SegL (rwA (sgA W R)) 241:=by
 haveI:SgOk (sgA W R):=inferInstance
 exact seg_rw rfl
instance cells_key {W:List Nat}{R:Nat}[h:AKey W]:Cells (rwA (sgA W R)) 241:=⟨seg_key.size,seg_key.one⟩
theorem wrapU64 {a:Nat}(h:a<18446744073709551616):IntKind.u64.wrap (a:Int)=(a:Int):=by rw [wrapU,Nat.mod_eq_of_lt h]
set_option maxHeartbeats 4000000 in
theorem st_more (w0 w:World)(hb:Below w0.heap.size w0 w){g a:Nat}{W iv:List Nat}{R:Nat}[hkk:AKey W](hR:R≤14)(hi:B16 iv)(hg:w.heap[g]? = some (.cells (rwA (sgSt W R iv a)) 106))(hf:w0.heap.size≤g)(ha:a≤2048){v:Value}{m:Nat}{p:List Nat}(hp:Cb w0 v m p)(hm:m≤2048) :
  Calls Tryz.prog 114 [ptr g,v].toArray w (RetPO (fun v:Value=>v) g (rwA (sgSt W R iv a)) 106 (fun v c oa=>OwnB 5 v m (strL (encL W R) iv a p) oa∧c=rwA (sgSt W R iv (a+m))) w):=by
 have i1:CsB (Old w [g]) v m p:=hp.oldB hb (fun k hk=>by rw [List.mem_singleton.1 hk];exact hf)
 have ST:=fun w'' (h:Cb w'' v m p)=>stream_c (W:=W) (R:=R) w'' hR hi (a:=a) (by omega) (by omega) h
 haveI:NBy iv 16:=⟨hi.len⟩
 haveI:SgOk (sgSt W R iv a):=inferInstance
 have u1:IntKind.u64.wrap (m:Int)=(m:Int):=wrapU64 (by omega)
 have u2:IntKind.u64.wrap ((a:Int)+(m:Int))=((a+m:Nat):Int):=by rw [show ((a:Int)+(m:Int))=((a+m:Nat):Int) by omega];exact wrapU64 (by omega)
 generalize strL (encL W R) iv a p=S at *
 clear hp hb
 refine fn_updPO (N:=_) Tryz.func114 rfl Tryz.ntmps114 Tryz.results114 (by simp) hg ?_
 simp only [initS,Nat.reduceAdd,Nat.zero_add]
 repeat' (first|(refine wlS ?_)|(refine wlG ?_)|(refine wlB ?_)|(refine wlE ?_)|(refine efSvao ?_;intro v oa ho)|(refine efG ?_)|((with_reducible refine sel_call ?_);first|(refine wl_newO rfl rfl rfl rfl rfl (fun w hm=>by with_reducible exact ST w (VwB.out w hm)) ?_;intro x oa hx))|(refine efB ?_)|(refine efBS ?_)|(refine wl_skip rfl rfl ?_)|((with_reducible refine wc_seq ?_);intro K hK)|(refine auC ?_)|(refine wc_cond rfl (fun hc=>?_) (fun hc=>?_))|((with_reducible refine wc_drawT (by kernel_rfl) ?_);(try simp only [List.append_eq,List.cons_append,List.nil_append,List.length_cons,List.length_nil,Nat.reduceAdd]))|((with_reducible refine sel_wh ?_);(refine wh_if (by decide +kernel) ?_);first|(refine wh_take (lq:=[]) rfl rfl rfl rfl (by first|exact rvS|exact rvG|exact rvB|exact rvE) (Or.inl rfl) ?_)|(refine wh_takeL rfl rfl rfl rfl (by first|exact rvS|exact rvG|exact rvB|exact rvE) (by decide +kernel) ?_))|(refine whS ?_;intro v hv hp)|((with_reducible refine sel_wh ?_);first|(refine wh_pass rfl rfl rfl rfl ?_)|(refine wh_done rfl ?_)|(refine wh_all rfl ?_))|((with_reducible refine sel_rest ?_);first|exact rest_nil rfl|refine rest_cons rfl rfl ?_ ?_)|((with_reducible refine sel_nx ?_);first|refine next_of ?_|refine next_late (by decide +kernel) ?_)|(refine auP ?_)|((refine auR ?_);clear hK K)|(refine auR ?_)|((with_reducible refine hK _ _ ?_);clear hK K)|fail)
 first|refine end_ret (ResP.tmp rfl ResP.nil) ?_|refine end_normal (ResP.tmp rfl ResP.nil) ?_
 (try dsimp only [tupV])
 exact ⟨_,_,oa,rfl,⟨hx,rfl⟩,SubL.refl _⟩
end Go.Proofs.YtkendlnjaopbeaaGreatDoor
namespace Go.Proofs.YtkendlnjaopbeaaGreatDoor
open Go.RowKit
attribute [local irreducible] rwA bys
set_option linter.unusedVariables false
set_option linter.unusedSimpArgs false
set_option maxRecDepth 100000
instance (priority:=500) seg_oneO {v:Value} [h:One v]:SegL #[v] 1:=⟨rfl,by simp [h.out]⟩
abbrev sgSe (W:List Nat)(R:Nat)(iv:List Nat)(lv:Value):Sg:=[(241,rwA (sgA W R)),(16,bys iv),(1,#[lv])]
structure OutS (v:Value)(n:Nat)(p:List Nat)(oa:Blks):Prop where
 cs:CsB (Hd oa) v n p
 way:(n=0∧v=.slice none 0 0)∨∃ b off,v=.slice (some ⟨b,off,none⟩) n n
set_option maxHeartbeats 8000000 in
theorem se_more (w0 w:World)(hb:Below w0.heap.size w0 w){g k:Nat}{W iv L:List Nat}{R:Nat}{lv:Value}{oo:Blks}[hkk:AKey W](hR:R≤14)(hi:B16 iv)(ho:OwnB 5 lv k L oo)(hk:k<16)
  (nd:(keys ((g,(rwA (sgSe W R iv lv),109))::oo)).Nodup) (hd:Hd ((g,(rwA (sgSe W R iv lv),109))::oo) w) (hf:∀ k∈keys ((g,(rwA (sgSe W R iv lv),109))::oo),w0.heap.size≤k) {v:Value} {n:Nat} {p:List Nat} (hp:Cb w0 v n p) (hn:n≤2048) {q:List Nat} (hq:q=L++p) {m:Nat} (hm:m=(k+n) / 16) :
  Calls Tryz.prog 123 [ptr g,v].toArray w (RetU (fun v:Value=>v) ((g,(rwA (sgSe W R iv lv),109))::oo)
   (fun v ob=>∃ lv' oL oX,ob=(g,(rwA (sgSe W R (cblk (encL W R) iv q m) lv'),109))::(oX++oL)∧OwnB 5 lv' (k+n - 16 * m) (q.drop (16 * m)) oL∧OutS v (16 * m) (cflat (encL W R) iv q m) oX) w):=by
 have i1:CsB (Old w (keys ((g,(rwA (sgSe W R iv lv),109))::oo))) v n p:=hp.oldB hb hf
 have hql:q.length=k+n:=by rw [hq,List.length_append,ho.ok.len,hp.ok.len]
 have hqb:∀ x∈q,x<256:=fun x hx=>by
  rw [hq] at hx
  rcases List.mem_append.1 hx with hx|hx
  ·exact ho.ok.by' x hx
  ·exact hp.ok.by' x hx
 have ed:=edok hkk.ok R
 have EN:∀ b,B16 b→∀ w,Calls Tryz.prog 116 [kv W R,.agg (bys b)].toArray w (Ret (.agg (bys (encL W R b))) w):=fun b hb w=>enc_c w hR hb
 haveI:NBy iv 16:=⟨hi.len⟩
 haveI:One lv:=⟨by obtain ⟨_,_,rfl,_⟩:=ho.own.ln.out;rfl⟩
 haveI:SgOk (sgSe W R iv lv):=inferInstance
 have u1:IntKind.i64.wrap (((k+n:Nat):Int).tdiv 16)=(m:Int):=by rw [Int.tdiv_eq_ediv_of_nonneg (by omega),wrap_i64 _ (by omega) (by omega)];omega
 have u2:IntKind.i64.wrap ((m:Int) * 16)=((16 * m:Nat):Int):=by rw [wrap_i64 _ (by omega) (by omega)];omega
 clear hp hb hf
 subst hq
 by_cases hm0:m=0
 ·subst hm0
  have t1:(((16 * 0:Nat):Int) == 0)=true:=rfl
  refine fn_upd (N:=_) Tryz.func123 rfl Tryz.ntmps123 Tryz.results123 (by simp) nd hd ?_
  simp only [initS,Nat.reduceAdd,Nat.zero_add]
  repeat' (first|(refine wlS ?_)|(refine wlG ?_)|(refine wlB ?_)|(refine wlE ?_)|(refine efSvvp ?_;intro v hv hp)|(refine efSvao ?_;intro v oa ho)|(refine efG ?_)|(refine efB ?_)|(refine efBS ?_)|(refine wl_skip rfl rfl ?_)|(refine wdS ?_)|(refine wdG ?_)|(refine wdV ?_)|(refine wdB ?_)|(refine wdE ?_)|(refine wd_skip rfl rfl ?_)|((with_reducible refine seld_nil ?_);refine wd_nil hm0 ?_;clear hm0 hw0)|((with_reducible refine wc_seq ?_);intro K hK)|(refine auC ?_)|(refine wc_cond rfl (fun hc=>?_) (fun hc=>?_))|(refine wc_draw (by kernel_rfl) (by kernel_rfl) (by decide +kernel) ?_;intro w0 hw0 hm0;(try simp only [List.append_eq,List.cons_append,List.nil_append]))|(refine auP ?_)|((refine auR ?_);clear hK K)|(refine auR ?_)|((with_reducible refine hK _ _ ?_);clear hK K)|fail)
  first|refine end_ret (ResP.tmp rfl ResP.nil) ?_|refine end_normal (ResP.tmp rfl ResP.nil) ?_
  (try dsimp only [tupV])
  exact ⟨_,_,rfl,⟨v,oa,[],rfl,ho,CsB.nil,.inl ⟨rfl,rfl⟩⟩,SubL.refl _⟩
 ·have t1:(((16 * m:Nat):Int) == 0)=false:=by rw [beq_eq_false_iff_ne];omega
  have hfl:=(cflat_ok ed hi hqb m (by omega)).1
  have hlast:=cflat_last ed hi hqb (Nat.pos_of_ne_zero hm0) (by omega)
  have SE:∀ {u:Value} w'',Cb w'' u (16 * m) ((L++p).take (16 * m))→Calls Tryz.prog 124 [kv W R,.agg (bys iv),u].toArray w'' (RetO (fun v=>v) (fun v oa=>OwnB 5 v (16 * (m+1)) (cflat (encL W R) iv (padP ((L++p).take (16 * m))) (m+1)) oa) w''):=fun w'' h=>by
   have:=seal_c w'' ed EN hi (by omega) h
   rwa [show 16 * m / 16=m by omega] at this
  have hfr:=seal_front ed hi hqb (m:=m) (by omega)
  have u3:IntKind.i64.wrap (((16 * m:Nat):Int) - 16)=((16 * m - 16:Nat):Int):=by rw [wrap_i64 _ (by omega) (by omega)];omega
  have hBb:B16 (cblk (encL W R) iv (L++p) m):=cblk_ok ed hi hqb m (by omega)
  have hBl:=hBb.len
  clear EN ed
  generalize cflat (encL W R) iv (padP ((L++p).take (16 * m))) (m+1)=C1 at *
  generalize cflat (encL W R) iv (L++p) m=C at *
  generalize cblk (encL W R) iv (L++p) m=B at *
  have d0:16 * m - 0=16 * m:=rfl
  have d1:List.take (16 * m - 0) (List.drop 0 (L++p))=List.take (16 * m) (L++p):=rfl
  have d2:List.take (16 * m - 0) (List.drop 0 C1)=C:=hfr
  have d3:List.take (16 * m - (16 * m - 16)) (List.drop (16 * m - 16) C)=B:=by rw [hlast,show 16 * m - (16 * m - 16)=16 by omega];exact List.take_of_length_le (by omega)
  have d4:16 * m - (16 * m - 16)=16:=by omega
  have d5:List.take (k+n - 16 * m) (List.drop (16 * m) (L++p))=List.drop (16 * m) (L++p):=List.take_of_length_le (by rw [List.length_drop];omega)
  have hfit:0+16≤iv.length:=by rw [hi.len];decide
  have hmin:Nat.min 16 16=16:=rfl
  have hcp:iv.take 0++(B.take 16++iv.drop (0+16))=B:=by rw [List.take_zero,List.nil_append,List.take_of_length_le (by omega),List.drop_of_length_le (by rw [hi.len];decide),List.append_nil]
  haveI:NBy B 16:=⟨hBl⟩
  refine fn_upd (N:=_) Tryz.func123 rfl Tryz.ntmps123 Tryz.results123 (by simp) nd hd ?_
  simp only [initS,Nat.reduceAdd,Nat.zero_add]
  repeat' (first|(refine wlS ?_)|(refine wlG ?_)|(refine wlB ?_)|(refine wlE ?_)|(refine efSvvp ?_;intro v hv hp)|(refine efSvao ?_;intro v oa ho)|(refine efG ?_)|((with_reducible refine sel_call ?_);first|(refine wl_newO rfl rfl rfl rfl rfl (fun w hm=>by with_reducible exact SE w (VwB.out w hm)) ?_;intro x oa hx))|(refine efB ?_)|(refine efBS ?_)|(refine wl_skip rfl rfl ?_)|((with_reducible refine wc_seq ?_);intro K hK)|(refine auC ?_)|(refine wc_cond rfl (fun hc=>?_) (fun hc=>?_))|((with_reducible refine wc_drawC (by kernel_rfl) ?_);(try simp only [List.append_eq,List.cons_append,List.nil_append,List.length_cons,List.length_nil,Nat.reduceAdd]))|((with_reducible refine sel_wh ?_);(refine wh_if (by decide +kernel) ?_);first|(refine wh_take (lq:=[]) rfl rfl rfl rfl (by first|exact rvS|exact rvG|exact rvB|exact rvE) (Or.inl rfl) ?_)|(refine wh_takeL rfl rfl rfl rfl (by first|exact rvS|exact rvG|exact rvB|exact rvE) (by decide +kernel) ?_))|(refine whS ?_;intro v hv hp)|((with_reducible refine sel_wh ?_);first|(refine wh_pass rfl rfl rfl rfl ?_)|(refine wh_done rfl ?_)|(refine wh_all rfl ?_))|((with_reducible refine sel_rest ?_);first|exact rest_nil rfl|refine rest_cons rfl rfl ?_ ?_)|((with_reducible refine sel_nx ?_);first|refine next_of ?_|refine next_late (by decide +kernel) ?_)|(refine auP ?_)|((refine auR ?_);clear hK K)|(refine auR ?_)|((with_reducible refine hK _ _ ?_);clear hK K)|fail)
  refine wl_copyG (pp:=241) (mm:=16) (j:=0) (k:=16) (q:=iv) (q':=B) rfl rfl rfl rfl rfl ?_
  repeat' (first|(refine wlS ?_)|(refine wlG ?_)|(refine wlB ?_)|(refine wlE ?_)|(refine efSvvp ?_;intro v hv hp)|(refine efSvao ?_;intro v oa ho)|(refine efG ?_)|((with_reducible refine sel_slice ?_);first|(refine wl_cut3P rfl rfl rfl rfl rfl rfl rfl rfl ?_;intro v hv hcut))|(refine efB ?_)|(refine efBS ?_)|(refine wl_skip rfl rfl ?_)|((with_reducible refine wc_seq ?_);intro K hK)|(refine auC ?_)|(refine wc_cond rfl (fun hc=>?_) (fun hc=>?_))|((with_reducible refine wc_drawC (by kernel_rfl) ?_);(try simp only [List.append_eq,List.cons_append,List.nil_append,List.length_cons,List.length_nil,Nat.reduceAdd]))|((with_reducible refine sel_wh ?_);(refine wh_if (by decide +kernel) ?_);first|(refine wh_take (lq:=[]) rfl rfl rfl rfl (by first|exact rvS|exact rvG|exact rvB|exact rvE) (Or.inl rfl) ?_)|(refine wh_takeL rfl rfl rfl rfl (by first|exact rvS|exact rvG|exact rvB|exact rvE) (by decide +kernel) ?_))|(refine whS ?_;intro v hv hp)|((with_reducible refine sel_wh ?_);first|(refine wh_pass rfl rfl rfl rfl ?_)|(refine wh_done rfl ?_)|(refine wh_all rfl ?_))|((with_reducible refine sel_rest ?_);first|exact rest_nil rfl|refine rest_cons rfl rfl ?_ ?_)|((with_reducible refine sel_nx ?_);first|refine next_of ?_|refine next_late (by decide +kernel) ?_)|(refine auP ?_)|((refine auR ?_);clear hK K)|(refine auR ?_)|((with_reducible refine hK _ _ ?_);clear hK K)|fail)
  first|refine end_ret (ResP.tmp rfl ResP.nil) ?_|refine end_normal (ResP.tmp rfl ResP.nil) ?_
  (try dsimp only [tupV])
  have hO:=ho
  have hV:=hv
  rw [Nat.zero_add,List.nil_append] at hO
  rw [List.take_of_length_le (show C.length≤16 * m by omega)] at hV
  obtain ⟨pa,rfl⟩:=hcut
  obtain ⟨p1,c1,e1,_,_,e2⟩:=hV.cs.ln.out
  obtain ⟨b1,o1,e3⟩:=e2 (by omega)
  injection e1 with e4 e5 e6
  subst e4;subst e3
  refine ⟨_,_,rfl,⟨_,oa,_,rfl,hO,hV,.inr ⟨_,_,rfl⟩⟩,.keep (SubL.skipA (SubL.refl _) _)⟩
end Go.Proofs.YtkendlnjaopbeaaGreatDoor
namespace Go.Proofs.YtkendlnjaopbeaaGreatDoor
open Go.RowKit
attribute [local irreducible] rwA bys
set_option linter.unusedVariables false
set_option linter.unusedSimpArgs false
set_option maxRecDepth 100000
theorem Upd.seen {w w':World}{oa oX:Blks}(hd:Hd oa w)(h:Upd w oa w' (oa++oX)):Upd w [] w' oX:=by
 have hnd:=h.nd
 rw [keys_app,List.nodup_append] at hnd
 refine ⟨h.os,h.tape,h.output,h.size,fun k hk _=>?_,hnd.2.1,fun p hp=>h.now p (List.mem_append_right _ hp),fun n hn=>?_⟩
 ·by_cases hin:k∈keys oa
  ·obtain ⟨p,hp,rfl⟩:=List.mem_map.1 hin
   exact (h.now p (List.mem_append_left _ hp)).trans (hd p hp).symm
  ·exact h.old k hk hin
 ·rcases h.fresh n (by rw [keys_app];exact List.mem_append_right _ hn) with h1|h1
  ·exact absurd rfl (hnd.2.2 n h1 n hn)
  ·exact .inr h1
theorem RetU.seen {T:Type}{mk:T→Value}{oa:Blks}{Φ:T→Blks→Prop}{P:Program}{f:Nat}{vs:Array Value}{w:World}(hd:Hd oa w)(h:Calls P f vs w (RetU mk oa (fun x ob=>∃ oX,ob=oa++oX∧Φ x oX) w)):Calls P f vs w (RetO mk Φ w):=
 h.mono fun e w2 ⟨x,ob,h1,⟨oX,h2,h3⟩,h4⟩=>⟨x,oX,h1,h3,Upd.seen hd (by rw [←h2];exact h4)⟩
set_option maxHeartbeats 4000000 in
theorem st_end (w:World)(g:Nat):Calls Tryz.prog 113 [ptr g].toArray w (Ret (.tuple #[.slice none 0 0,.int .i64 0]) w):=by
 refine fn_ret (N:=_) Tryz.func113 rfl Tryz.ntmps113 Tryz.results113 (by simp) ?_
 simp only [initS,Nat.reduceAdd,Nat.zero_add]
 repeat' (first|(refine wlB ?_)|(refine wl_skip rfl rfl ?_)|((with_reducible refine wc_seq ?_);intro K hK)|(refine auC ?_)|(refine wc_cond rfl (fun hc=>?_) (fun hc=>?_))|(refine wc_draw (by kernel_rfl) (by kernel_rfl) (by decide +kernel) ?_;intro w0 hw0 hm0;(try simp only [List.append_eq,List.cons_append,List.nil_append]))|(refine auP ?_)|((refine auR ?_);clear hK K)|(refine auR ?_)|((with_reducible refine hK _ _ ?_);clear hK K)|fail)
 first|refine end_ret (ResP.tmp rfl (ResP.tmp rfl ResP.nil)) ?_|refine end_normal (ResP.tmp rfl (ResP.tmp rfl ResP.nil)) ?_
 first|rfl|(show _=_;rfl)|(simp only [tupV, *];done)
set_option maxHeartbeats 8000000 in
theorem se_end (w:World){g k:Nat}{W iv L:List Nat}{R:Nat}{lv:Value}{oo:Blks}[hkk:AKey W](hR:R≤14)(hi:B16 iv)(ho:OwnB 5 lv k L oo)(hk:k<16)
  (nd:(keys ((g,(rwA (sgSe W R iv lv),109))::oo)).Nodup) (hd:Hd ((g,(rwA (sgSe W R iv lv),109))::oo) w) :
  Calls Tryz.prog 122 [ptr g].toArray w (RetO (fun v:Value=>.tuple #[v,.int .i64 0]) (fun v oa=>OwnB 5 v 16 (cflat (encL W R) iv (padP L) 1) oa) w):=by
 refine RetU.seen hd ?_
 have ed:=edok hkk.ok R
 have EN:∀ b,B16 b→∀ w,Calls Tryz.prog 116 [kv W R,.agg (bys b)].toArray w (Ret (.agg (bys (encL W R b))) w):=fun b hb w=>enc_c w hR hb
 haveI:NBy iv 16:=⟨hi.len⟩
 haveI:One lv:=⟨by obtain ⟨_,_,rfl,_⟩:=ho.own.ln.out;rfl⟩
 haveI:SgOk (sgSe W R iv lv):=inferInstance
 have SE:∀ {u:Value} w'',Cb w'' u k L→Calls Tryz.prog 124 [kv W R,.agg (bys iv),u].toArray w'' (RetO (fun v=>v) (fun v oa=>OwnB 5 v 16 (cflat (encL W R) iv (padP L) 1) oa) w''):=fun w'' h=>by
  have:=seal_c w'' ed EN hi (by omega) h
  rwa [show k / 16=0 by omega] at this
 clear EN ed
 generalize cflat (encL W R) iv (padP L) 1=C at *
 refine fn_upd (N:=_) Tryz.func122 rfl Tryz.ntmps122 Tryz.results122 (by simp) nd hd ?_
 simp only [initS,Nat.reduceAdd,Nat.zero_add]
 repeat' (first|(refine wlS ?_)|(refine wlG ?_)|(refine wlB ?_)|(refine wlE ?_)|(refine efSvao ?_;intro v oa ho)|((with_reducible refine sel_call ?_);first|(refine wl_newO rfl rfl rfl rfl rfl (fun w hm=>by with_reducible exact SE w (VwB.out w hm)) ?_;intro x oa hx))|(refine wl_skip rfl rfl ?_)|((with_reducible refine wc_seq ?_);intro K hK)|(refine auC ?_)|(refine wc_cond rfl (fun hc=>?_) (fun hc=>?_))|((with_reducible refine wc_drawT (by kernel_rfl) ?_);(try simp only [List.append_eq,List.cons_append,List.nil_append,List.length_cons,List.length_nil,Nat.reduceAdd]))|((with_reducible refine sel_wh ?_);(refine wh_if (by decide +kernel) ?_);first|(refine wh_take (lq:=[]) rfl rfl rfl rfl (by first|exact rvS|exact rvG|exact rvB|exact rvE) (Or.inl rfl) ?_)|(refine wh_takeL rfl rfl rfl rfl (by first|exact rvS|exact rvG|exact rvB|exact rvE) (by decide +kernel) ?_))|(refine whS ?_;intro v hv hp)|((with_reducible refine sel_wh ?_);first|(refine wh_pass rfl rfl rfl rfl ?_)|(refine wh_done rfl ?_)|(refine wh_all rfl ?_))|((with_reducible refine sel_rest ?_);first|exact rest_nil rfl|refine rest_cons rfl rfl ?_ ?_)|((with_reducible refine sel_nx ?_);first|refine next_of ?_|refine next_late (by decide +kernel) ?_)|(refine auP ?_)|((refine auR ?_);clear hK K)|(refine auR ?_)|((with_reducible refine hK _ _ ?_);clear hK K)|fail)
 first|refine end_ret (ResP.tmp rfl (ResP.tmp rfl ResP.nil)) ?_|refine end_normal (ResP.tmp rfl (ResP.tmp rfl ResP.nil)) ?_
 (try dsimp only [tupV])
 exact ⟨_,_,rfl,⟨_,rfl,hx⟩,SubL.refl _⟩
end Go.Proofs.YtkendlnjaopbeaaGreatDoor
namespace Go.Proofs.YtkendlnjaopbeaaGreatDoor
open Go.RowKit
set_option linter.unusedVariables false
set_option linter.unusedSimpArgs false
set_option maxRecDepth 100000
structure SufB (e:Nat)(v:Value)(n:Nat)(p:List Nat)(oa:Blks):Prop where
 ok:BL n p
 out:(v=.slice none 0 0∧n=0∧oa=[])∨
  ∃ g off cap cur,v=.slice (some ⟨g,off,none⟩) n cap∧n≤cap∧cap≤maxLen∧off+cap≤cur.size∧(cur.toList.drop off).take n=bl p∧oa=[(g,(cur,e))]
 tb:oa=[]∨Nat.blt e BIG=true
theorem SufB.of {e:Nat}{v:Value}{n:Nat}{p:List Nat}{oa:Blks}(h:OwnB e v n p oa):SufB e v n p oa:=by
 refine ⟨h.ok,?_,h.own.tb⟩
 rcases h.own.out with h1 | ⟨g,cap,cur,h1,h2,h3,h4,h5,h6⟩
 ·exact .inl h1
 ·exact .inr ⟨g,0,cap,cur,h1,h2,h3,by omega,by rw [List.drop_zero,←h5,Nat.mul_one],h6⟩
theorem SufB.ln {e:Nat}{v:Value}{n:Nat}{p:List Nat}{oa:Blks}(h:SufB e v n p oa):Ln v n:=by
 rcases h.out with ⟨rfl,rfl,rfl⟩ | ⟨g,off,cap,cur,rfl,hnc,hcm,hcs,htake,rfl⟩
 ·exact ⟨none,0,rfl,Nat.le_refl _,by simp [maxLen],fun h=>absurd h (Nat.lt_irrefl 0)⟩
 ·exact ⟨_,cap,rfl,hnc,hcm,fun _=>⟨g,off,rfl⟩⟩
theorem SufB.cs {e:Nat}{v:Value}{n:Nat}{p:List Nat}{oa:Blks}(h:SufB e v n p oa):CsB (Hd oa) v n p:=⟨⟨h.ln,fun w hd=>⟨h.ln,fun j u hj=>by
 rcases h.out with ⟨rfl,rfl,rfl⟩ | ⟨g,off,cap,cur,rfl,hnc,hcm,hcs,htake,rfl⟩
 ·have hp:p=[]:=List.eq_nil_of_length_eq_zero h.ok.len
  subst hp;cases hj
 ·have hbig:Nat.blt e BIG=true:=h.tb.resolve_left (by simp)
  have hg:w.heap[g]? = some (.cells cur e (0,0)):=(hd (g,(cur,e)) (by simp)).trans (congrArg some (toObj_cells hbig))
  refine ⟨g,off,cap,rfl,?_⟩
  rw [cell_of_row w g (off+j) cur e _ hg]
  rw [←htake] at hj
  have hjn:j<n:=by have:=(List.getElem?_eq_some_iff.1 hj).1;rw [List.length_take] at this;omega
  rw [List.getElem?_take_of_lt hjn,List.getElem?_drop] at hj
  simpa using hj⟩⟩,h.ok⟩
theorem SufB.drop {e g off n cap:Nat}{p:List Nat}{oa:Blks}{k:Nat}(h:SufB e (.slice (some ⟨g,off,none⟩) n cap) n p oa)(hk:k≤n):SufB e (.slice (some ⟨g,off+k,none⟩) (n - k) (cap - k)) (n - k) (p.drop k) oa:=by
 refine ⟨⟨by rw [List.length_drop,h.ok.len],fun x hx=>h.ok.by' x (List.mem_of_mem_drop hx)⟩,?_,h.tb⟩
 rcases h.out with ⟨h1,_⟩ | ⟨g',off',cap',cur,h1,hnc,hcm,hcs,htake,rfl⟩
 ·cases h1
 ·injection h1 with h1 _ h2
  injection h1 with h1
  injection h1 with h1 h3 _
  subst h1;subst h2;subst h3
  refine .inr ⟨_,_,_,cur,rfl,by omega,by omega,by omega,?_,rfl⟩
  rw [←List.drop_drop,List.take_drop,show k+(n - k)=n by omega,htake,bl_drop]
theorem run_append_off {P:Program}{w:World}(t ty e:TypeId)(i:TypeInfo)(ht:P.underlying t=some (.slice e))(hi:P.info? e=some i)(g off sLen sCap:Nat)(cur:Array Value)(hg:w.heap[g]? = some (.cells cur e (0,0)))
  (a:Addr) (m c:Nat) (news:List Value) (hl:news.length=m * i.size) (hnews:∀ j u,news[j]? = some u→w.cell? (a.add j)=some u) (h1:∀ u∈news,u.oneCell'=true)
  (hroom:sLen+m≤sCap) (hfit:off+sLen * i.size+news.length≤cur.size) :
  (Builtin.append_ #[t,t] ty #[.slice (some ⟨g,off,none⟩) sLen sCap,.slice (some a) m c]).run P w =
   .ok (.slice (some ⟨g,off,none⟩) (sLen+m) sCap) (w.setRow g (cur.toList.take (off+sLen * i.size)++news++cur.toList.drop (off+sLen * i.size+news.length)).toArray):=by
 have hf:=run_firstCells_some (P:=P) w i.size m a m c news hl hnews
 have hst:=run_storeCells_at P g (off+sLen * i.size) e news 0 cur w hg (by simpa using hfit) h1
 simp only [Nat.add_zero] at hst
 simp [Builtin.append_,run_underlying ht,sizeOf,typeInfo,hi,Builtin.lenOf,hroom,hf,Addr.add_lit,hst]
theorem append_suf {P:Program}{oa:Blks}{w:World}{t ty e bytes:Nat}{z:Array Value}{u v:Value}{n m:Nat}{p q:List Nat}
  (ht:P.underlying t=some (.slice e)) (hei:EI P e 1 bytes z) (hown:SufB e v n p oa) (hd:Hd oa w) (hu:Cb w u m q) (h63:n+m≤maxLen) (hb:(n+m) * bytes≤140737488355328) :
  ∃ v' w' oa',(Builtin.append_ #[t,t] ty #[v,u]).run P w=.ok v' w'∧SufB e v' (n+m) (p++q) oa'∧Upd w oa w' oa':=by
 rcases hown.out with ⟨rfl,rfl,rfl⟩ | ⟨g,off,cap,cur,rfl,hnc,hcm,hcs,htake,rfl⟩
 ·have hp:p=[]:=List.eq_nil_of_length_eq_zero hown.ok.len
  subst hp
  obtain ⟨v',w',oa',h1,h2,h3⟩:=append_own (ty:=ty) ht hei (OwnL.nil e 1) hd hu.cs (by rw [bl_len,hu.ok.len,Nat.mul_one]) (bl_one _) h63 hb
  exact ⟨v',w',oa',h1,SufB.of ⟨h2,(BL.nil).app hu.ok⟩,h3⟩
 have hbig:=hei.tb
 have hq:=hu.ok
 obtain ⟨i,zv,hi,hsz,rfl,hz,rfl,hzs⟩:=hei.out
 obtain ⟨pa,c,rfl,hmc,hcm',hpa⟩:=hu.cs.ln.out
 have hnd:(keys [(g,(cur,e))]).Nodup:=by simp [keys]
 by_cases h0:m=0
 ·subst h0
  have hn:q=[]:=List.eq_nil_of_length_eq_zero hq.len
  subst hn
  refine ⟨_,w,_,?_,by rw [List.append_nil];exact hown,rfl,rfl,rfl,Nat.le_refl _,fun _ _ _=>rfl,hnd,hd,fun n hn=>.inl hn⟩
  cases pa <;> simp [Builtin.append_,run_underlying ht,sizeOf,typeInfo,hi,Builtin.lenOf,Builtin.firstCells,loadCells,loadCellsFrom,hnc,storeCells]
 obtain ⟨b,boff,rfl⟩:=hpa (by omega)
 have hnews:∀ j y,(bl q)[j]? = some y→w.cell? ((⟨b,boff,none⟩:Addr).add j)=some y:=fun j y hj=>by
  obtain ⟨b',off',cap',hv,hc⟩:=hu.cs.cell j y hj
  injection hv with hv
  injection hv with hv
  injection hv with hb' ho'
  subst hb';subst ho'
  rw [Addr.add_mid];exact hc
 have hg:w.heap[g]? = some (.cells cur e (0,0)):=(hd (g,(cur,e)) (by simp)).trans (congrArg some (toObj_cells hbig))
 have hlq:(bl q).length=m:=by rw [bl_len,hq.len]
 have hlp:(bl p).length=n:=by rw [bl_len,hown.ok.len]
 by_cases hroom:n+m≤cap
 ·have hfit:off+n * i.size+(bl q).length≤cur.size:=by rw [hlq,hsz];omega
  have hr:=run_append_off (P:=P) (w:=w) t ty e i ht hi g off n cap cur hg ⟨b,boff,none⟩ m c (bl q) (by rw [hlq,hsz,Nat.mul_one]) hnews (bl_one _) hroom hfit
  refine ⟨_,_,[(g,(_,e))],hr,⟨hown.ok.app hq,.inr ⟨g,off,cap,_,rfl,hroom,hcm,?_,?_,rfl⟩,.inr hbig⟩,rfl,rfl,rfl,by simp,fun k hk hne=>setRow_other w g k _ (fun e=>hne (by simp [keys,e])),by simp [keys],hd_one ((setRow_heap w g cur _ e _ hg).trans (congrArg some (toObj_cells hbig).symm)),fun n hn=>.inl (by simpa [keys] using hn)⟩
  ·simp only [List.size_toArray,List.length_append,List.length_take,List.length_drop,Array.length_toList]
   omega
  ·rw [hsz,Nat.mul_one,hlq,bl_app,←htake]
   simp only [List.append_assoc]
   rw [List.drop_append_of_le_length (by rw [List.length_take,Array.length_toList];omega),List.drop_take,show off+n - off=n by omega,←List.append_assoc]
   have:((cur.toList.drop off).take n++bl q).length=n+m:=by rw [List.length_append,hlq,htake,hlp]
   rw [←this]
   exact List.take_left
 ·have holds:∀ j y,(bl p)[j]? = some y→w.cell? ((⟨g,off,none⟩:Addr).add j)=some y:=fun j y hj=>by
   obtain ⟨b',off',cap',hv,hc⟩:=(hown.cs.cs.out w hd).cell j y hj
   injection hv with hv
   injection hv with hv
   injection hv with hb' ho'
   subst hb';subst ho'
   rw [Addr.add_mid];exact hc
  have hr:=run_append_grow (P:=P) w t ty e i zv ht hi hz ⟨g,off,none⟩ n cap (bl p) (by rw [hlp,hsz,Nat.mul_one]) holds ⟨b,boff,none⟩ m c (bl q) (by rw [hlq,hsz,Nat.mul_one]) hnews (by omega) (by simp only [maxLen] at h63;omega) (growslice_fits (by omega) hb)
  have hge:=grownCap_ge w (n+m) cap e
  have hcl:=grownCap_le_maxLen w (n+m) cap e h63
  refine ⟨_,_,[(w.heap.size,(_,e))],hr,⟨hown.ok.app hq,.inr ⟨w.heap.size,0,_,_,rfl,hge,hcl,?_,?_,rfl⟩,.inr hbig⟩,upd_new (w:=w) (w1:=w.drew) rfl rfl rfl rfl _ _ e hbig⟩
  ·simp only [Array.size_append,List.size_toArray,size_zeroCells,hzs,hlp,hlq,hsz,Nat.mul_one]
   omega
  ·simp only [Array.toList_append,List.append_assoc,List.drop_zero]
   rw [←List.append_assoc,←bl_app]
   have:(bl (p++q)).length=n+m:=by rw [bl_app,List.length_append,hlp,hlq]
   rw [←this]
   exact List.take_left
section
variable {X:Cx}{s:Slots}{l:Blks}{o:Oper}{v:Value}{Q:Post}{ops:Array Oper}{r:List Oper}
theorem wl_appendS {x y:Operand}{t e bytes n m:Nat}{z:Array Value}{u:Value}{p q:List Nat}{oa:Blks}{f:Blks→Blks}{s':Value→Slots}
  (hown:SufB e v n p oa) (hg:gd s ops o=some true) (hd:dOk X.N o.dst=true) (hop:o.op=.call {callee:=.builtin .append,args:=#[x,y],argTypes:=#[t,t]})
  (hx:val s x=some v) (hy:val s y=some u) [ht:UT X.P t (.slice e)] [hei:EI X.P e 1 bytes z] [hseg:Seg l oa f] [hu:VwB X l u m q]
  (h:∀ v' oa',SufB e v' (n+m) (p++q) oa'→Wl X ops Q r (s' v') (f oa'))
  (h63:(n+m) * bytes≤1152921504606846976∧n+m≤1152921504606846976∧(n+m) * bytes≤140737488355328:=by (refine ⟨?_,?_,?_⟩ <;> omega))
  (hs':∀ v',sputO s o.dst v'=s' v':=by intro _;(try dsimp only [sputO,sput,Nat.reduceBEq,cond_true,cond_false,beq_self_eq_true]);first|done|exact rfl):Wl X ops Q (o::r) s l:=fun ac w hst=>by
 obtain rfl:(fun v'=>sputO s o.dst v')=s':=funext hs'
 have hw:=gd_wanted hst.env hg
 obtain ⟨v',w',oa',hr,hv',hup⟩:=append_suf (ty:=o.type) ht.out hei hown hst.mem.hd (hu.out w hst.mem) (by simp only [maxLen];omega) h63.2.2
 unfold wpList
 rw [if_pos hw]
 refine .inl ?_
 unfold Oper.wp execOp
 simp only [hop,resolve,invoke,builtin,Sem.run_bind,Sem.run_pure,Result.andThen_ok,List.map_toArray,List.map_cons,List.map_nil,hst.env.eval hx,hst.env.eval hy,hr]
 exact h v' oa' hv' _ _ ⟨hst.env.put hd _,hup.mem hst.mem⟩
theorem rd_tail {t e n cap k g off:Nat}{x y:Operand}{ky:IntKind}{iy:Int}(ho:o.op=.slice t x (some y) none none)(hx:val s x=some (.slice (some ⟨g,off,none⟩) n cap))(hy:val s y=some (.int ky iy))(hiy:iy=(k:Int))[ht:UT X.P t (.slice e)][hs:SZ X.P e 1]
  (h1:k<n:=by first|(with_reducible assumption)|omega) (h2:n≤cap:=by first|(with_reducible assumption)|omega):RdV X s l o (.slice (some ⟨g,off+k,none⟩) (n - k) (cap - k)):=rd_val fun a w he hm=>by
 subst hiy
 have hsz:∀ w,(sizeOf e).run X.P w=.ok 1 w:=hs.run
 have hb:(Instr.sliceBounds true n cap (some (.int ky (k:Int))) none none).run X.P w=.ok (k,n,cap) w:=by
  simp [Instr.sliceBounds,run_sliceBound,(by omega:k≤n),h2]
 have e0:Instr.sliceAt t (.slice (some ⟨g,off,none⟩) n cap) (some (.int ky (k:Int))) none none=(do
   match ← underlying t with
   | .array n' elem=>
    let a' ← Instr.sureAddr (.slice (some ⟨g,off,none⟩) n cap)
    let (l,h,m) ← Instr.sliceBounds false n' n' (some (.int ky (k:Int))) none none
    let size ← sizeOf elem
    pure (.slice (some (if m=l then a' else a'.add (l * size))) (h - l) (m - l))
   | _=>Instr.slice t (.slice (some ⟨g,off,none⟩) n cap) (some (.int ky (k:Int))) none none):=rfl
 have hne:¬cap=k:=by omega
 simp only [execOp,ho,he.eval hx,Option.map_none,Option.map_some,he.eval hy]
 rw [Sem.run_bind,e0,Sem.run_bind,run_underlying ht.out]
 simp only [Result.andThen_ok,Instr.slice,Sem.run_bind,run_underlying ht.out,hb,hsz,Sem.run_pure,if_neg hne,Option.map_some,Addr.add_mid,Nat.mul_one]
theorem rd_tail16 {t e n cap g off:Nat}{x y:Operand}{ky:IntKind}(ho:o.op=.slice t x (some y) none none)(hx:val s x=some (.slice (some ⟨g,off,none⟩) n cap))(hy:val s y=some (.int ky 16))[ht:UT X.P t (.slice e)][hs:SZ X.P e 1]
  (h1:16<n:=by first|(with_reducible assumption)|omega) (h2:n≤cap:=by first|(with_reducible assumption)|omega):RdV X s l o (.slice (some ⟨g,off+16,none⟩) (n - 16) (cap - 16)):=rd_tail (k:=16) ho hx hy rfl h1 h2
end
end Go.Proofs.YtkendlnjaopbeaaGreatDoor
namespace Go.Proofs.YtkendlnjaopbeaaGreatDoor
open Go.RowKit
attribute [local irreducible] rwA bys
set_option linter.unusedVariables false
set_option linter.unusedSimpArgs false
set_option maxRecDepth 100000
structure OpnS where
 i:Nat
 lv:Value
 vo:Value
 oo:Blks
structure OpnS.Ok (D:List Nat→List Nat)(iv q:List Nat)(N M:Nat)(oa:Blks)(x:OpnS):Prop where
 le:x.i≤M
 left:SufB 5 x.lv (N - 16 * x.i) (q.drop (16 * x.i)) oa
 out:OwnB 5 x.vo (16 * x.i) (dflat D iv q x.i) x.oo
set_option maxHeartbeats 16000000 in
theorem op_more (w0 w:World)(hb:Below w0.heap.size w0 w){g k:Nat}{W iv L:List Nat}{R:Nat}{lv:Value}{oo:Blks}[hkk:AKey W](hR:R≤14)(hi:B16 iv)(ho:SufB 5 lv k L oo)(hk:k≤16)
  (nd:(keys ((g,(rwA (sgSe W R iv lv),111))::oo)).Nodup) (hd:Hd ((g,(rwA (sgSe W R iv lv),111))::oo) w) (hf:∀ k∈keys ((g,(rwA (sgSe W R iv lv),111))::oo),w0.heap.size≤k) {v:Value} {n:Nat} {p:List Nat} (hp:Cb w0 v n p) (hn:n≤2048) {M:Nat} (hM:M=(k+n - 1) / 16) :
  Calls Tryz.prog 126 [ptr g,v].toArray w (RetU (fun v:Value=>v) ((g,(rwA (sgSe W R iv lv),111))::oo)
   (fun v ob=>∃ lv' oL oX,ob=(g,(rwA (sgSe W R (prevC iv (L++p) M) lv'),111))::(oL++oX)∧SufB 5 lv' (k+n - 16 * M) ((L++p).drop (16 * M)) oL∧OwnB 5 v (16 * M) (dflat (decL W R) iv (L++p) M) oX) w):=by
 have i1:CsB (Old w (keys ((g,(rwA (sgSe W R iv lv),111))::oo))) v n p:=hp.oldB hb hf
 obtain ⟨q,hq⟩:∃ q,q=L++p:=⟨_,rfl⟩
 have hql:q.length=k+n:=by rw [hq,List.length_append,ho.ok.len,hp.ok.len]
 have hqb:∀ x∈q,x<256:=fun x hx=>by
  rw [hq] at hx
  rcases List.mem_append.1 hx with hx|hx
  ·exact ho.ok.by' x hx
  ·exact hp.ok.by' x hx
 have ed:=edok hkk.ok R
 have DE:∀ b,B16 b→∀ w,Calls Tryz.prog 128 [kv W R,.agg (bys b)].toArray w (Ret (.agg (bys (decL W R b))) w):=fun b hb w=>dec_c w hR hb
 haveI:NBy iv 16:=⟨hi.len⟩
 haveI:One lv:=⟨by obtain ⟨_,_,rfl,_⟩:=ho.ln.out;rfl⟩
 haveI:SgOk (sgSe W R iv lv):=inferInstance
 clear hp hb hf
 rw [←hq]
 refine fn_upd (N:=_) Tryz.func126 rfl Tryz.ntmps126 Tryz.results126 (by simp) nd hd ?_
 simp only [initS,Nat.reduceAdd,Nat.zero_add]
 repeat' (first|(refine wlS ?_)|(refine wlG ?_)|(refine wlB ?_)|(refine wlE ?_)|(refine efSvvp ?_;intro v hv hp)|(refine efSvao ?_;intro v oa ho)|(refine efG ?_)|(refine efGnn ?_;intro n hn)|(refine efBnn ?_;intro n hn)|(refine efB ?_)|(refine efBS ?_)|(refine wl_skip rfl rfl ?_)|(refine wdS ?_)|(refine wdG ?_)|(refine wdV ?_)|(refine wdB ?_)|(refine wdE ?_)|(refine wd_alloc hm0 rfl rfl rfl ?_;intro n hn hn0)|(refine wdT ?_)|(refine wdTO ?_)|(refine wd_skip rfl rfl ?_)|((with_reducible refine seld_nil ?_);refine wd_nil hm0 ?_;clear hm0 hw0)|((with_reducible refine wc_seq ?_);intro K hK)|(refine auC ?_)|(refine wc_cond rfl (fun hc=>?_) (fun hc=>?_))|(refine wc_draw (by kernel_rfl) (by kernel_rfl) (by decide +kernel) ?_;intro w0 hw0 hm0;(try simp only [List.append_eq,List.cons_append,List.nil_append]))|(refine auP ?_)|((refine auR ?_);clear hK K)|(refine auR ?_)|((with_reducible refine hK _ _ ?_);clear hK K)|fail)
 refine wl_appendS ho rfl rfl rfl rfl rfl ?_
 intro v oa ho
 haveI:=ho.cs
 repeat' (first|(refine wlS ?_)|(refine wlG ?_)|(refine wlB ?_)|(refine wlE ?_)|(refine efSvvp ?_;intro v hv hp)|(refine efSvao ?_;intro v oa ho)|(refine efG ?_)|(refine efGnn ?_;intro n hn)|(refine efBnn ?_;intro n hn)|(refine efB ?_)|(refine efBS ?_)|(refine wl_skip rfl rfl ?_)|(refine wdS ?_)|(refine wdG ?_)|(refine wdV ?_)|(refine wdB ?_)|(refine wdE ?_)|(refine wd_alloc hm0 rfl rfl rfl ?_;intro n hn hn0)|(refine wdT ?_)|(refine wdTO ?_)|(refine wd_skip rfl rfl ?_)|((with_reducible refine seld_nil ?_);refine wd_nil hm0 ?_;clear hm0 hw0)|((with_reducible refine wc_seq ?_);intro K hK)|(refine auC ?_)|(refine wc_cond rfl (fun hc=>?_) (fun hc=>?_))|(refine wc_draw (by kernel_rfl) (by kernel_rfl) (by decide +kernel) ?_;intro w0 hw0 hm0;(try simp only [List.append_eq,List.cons_append,List.nil_append]))|(refine auP ?_)|((refine auR ?_);clear hK K)|(refine auR ?_)|((with_reducible refine hK _ _ ?_);clear hK K)|fail)
 rw [←hq] at ho
 obtain ⟨o1,rfl⟩:∃ o,o=oa:=⟨oa,rfl⟩
 obtain ⟨v1,rfl⟩:∃ o,o=v:=⟨v,rfl⟩
 refine wc_loop (σ:=OpnS) (fun x=>[(0,ptr g),(5,x.vo)]) (fun x=>(g,(rwA (sgSe W R (prevC iv q x.i) x.lv),111))::(o1++x.oo))
  (OpnS.Ok (decL W R) iv q (k+n) M o1) (fun x=>M - x.i) ⟨0,v1,.slice none 0 0,[]⟩ ⟨Nat.zero_le _,ho,inferInstance⟩ (Fits.of ⟨rfl,rfl,trivial⟩ (by rw [List.append_nil];exact SubL.refl _) rfl) ?_
 rintro ⟨i,lv,vo,oo⟩ ⟨hiM,hl,hv⟩
 dsimp only at hiM hl hv ⊢
 have hpv:=prevC_ok hi hqb i (by omega)
 haveI:NBy (prevC iv q i) 16:=⟨hpv.len⟩
 by_cases hlt:i<M
 ·rcases hl.out with ⟨_,h0,_⟩ | ⟨g2,off2,cap2,cur2,rfl,hnc2,_⟩
  ·omega
  haveI:=hl.cs
  haveI:One (.slice (some ⟨g2,off2,none⟩) (k+n - 16 * i) cap2):=⟨rfl⟩
  haveI:SgOk (sgSe W R (prevC iv q i) (.slice (some ⟨g2,off2,none⟩) (k+n - 16 * i) cap2)):=inferInstance
  have t1:decide (((k+n - 16 * i:Nat):Int)>16)=true:=decide_eq_true (by omega)
  have hB:B16 (blk q i):=blk_ok (by omega) hqb
  have DB:=DE (blk q i) hB
  have hDB:B16 (decL W R (blk q i)):=ed.dok _ hB
  haveI:NBy (blk q i) 16:=⟨hB.len⟩
  haveI:NBy (decL W R (blk q i)) 16:=⟨hDB.len⟩
  have hmin:Nat.min (k+n - 16 * i) 16=16:=Nat.min_eq_right (by omega)
  have hcp:(List.replicate 16 0).take 0++(((q.drop (16 * i))).take 16++(List.replicate 16 0).drop (0+16))=blk q i:=by simp [blk]
  have hfit:0+16≤(List.replicate 16 0).length:=by simp
  clear DE
  repeat' (first|(refine wlS ?_)|(refine wlG ?_)|(refine wlB ?_)|((with_reducible refine sel_call ?_);refine wl_rd rfl rfl (rd_call rfl rfl rfl (fun w hm=>by with_reducible exact DB w)) ?_)|(refine wlE ?_)|(refine efSvvp ?_;intro v hv hp)|(refine efSvao ?_;intro v oa ho)|(refine efM ?_)|(refine efMvao ?_;intro v oa ho)|((with_reducible refine sel_store ?_);first|(refine wl_putB (e:=5) rfl rfl rfl rfl rfl ?_;intro oa ho))|(refine efG ?_)|(refine efGnn ?_;intro n hn)|(refine efZCnn ?_;intro n hn)|(refine efBnn ?_;intro n hn)|(refine efB ?_)|(refine efBS ?_)|(refine wl_skip rfl rfl ?_)|(refine wdS ?_)|(refine wdG ?_)|(refine wdV ?_)|(refine wdB ?_)|((with_reducible refine seld_call ?_);refine wd_rd hm0 rfl rfl rfl rfl (rd_call rfl rfl rfl (fun w hm=>by with_reducible exact DB w)) ?_)|(refine wdE ?_)|(refine wd_allocC hm0 rfl rfl rfl ?_;intro n hn hn0)|(refine wd_alloc hm0 rfl rfl rfl ?_;intro n hn hn0)|(refine wdT ?_)|(refine wdTO ?_)|(refine wd_skip rfl rfl ?_)|((with_reducible refine seld_nil ?_);refine wd_nil hm0 ?_;clear hm0 hw0)|((with_reducible refine wc_seq ?_);intro K hK)|(refine auC ?_)|(refine wc_cond rfl (fun hc=>?_) (fun hc=>?_))|(refine wc_draw (id:=6) (by kernel_rfl) (by kernel_rfl) (by decide +kernel) ?_;intro w0 hw0 hm0;(try simp only [List.append_eq,List.cons_append,List.nil_append]))|((with_reducible refine wc_drawC (by kernel_rfl) ?_);(try simp only [List.append_eq,List.cons_append,List.nil_append,List.length_cons,List.length_nil,Nat.reduceAdd]))|((with_reducible refine sel_wh ?_);(refine wh_if (by decide +kernel) ?_);first|(refine wh_take (lq:=[]) rfl rfl rfl rfl (by first|exact rvS|exact rvG|exact rvB|exact rvE) (Or.inl rfl) ?_)|(refine wh_takeL rfl rfl rfl rfl (by first|exact rvS|exact rvG|exact rvB|exact rvE) (by decide +kernel) ?_))|(refine whS ?_;intro v hv hp)|((with_reducible refine sel_wh ?_);first|(refine wh_pass rfl rfl rfl rfl ?_)|(refine wh_done rfl ?_)|(refine wh_all rfl ?_))|((with_reducible refine sel_rest ?_);first|exact rest_nil rfl|refine rest_cons rfl rfl ?_ ?_)|((with_reducible refine sel_nx ?_);first|refine next_of ?_|refine next_late (by decide +kernel) ?_)|(refine auP ?_)|((refine auR ?_);clear hK K)|(refine auR ?_)|((with_reducible refine hK _ _ ?_);clear hK K)|fail)
  obtain ⟨nd2,rfl⟩:∃ x,x=n:=⟨n,rfl⟩
  obtain ⟨nb2,rfl⟩:∃ x,x=n:=⟨n,rfl⟩
  have hdl:∀ j,j≤16→(dflat (decL W R) iv q i++(dblk (decL W R) iv q i).take j).length=16 * i+j:=fun j hj=>by
   rw [List.length_append,(dflat_ok ed hi hqb i (by omega)).1,List.length_take,(dblk_ok ed hi hqb (k:=i) (by omega)).len];omega
  have hdb:=(dblk_ok ed hi hqb (k:=i) (by omega))
  refine wc_loop (σ:=Nat×Value×Blks) (fun x=>[(0,ptr g),(5,x.2.1),(6,ptr nb2),(7,ptr nd2),(36,.int .i64 (x.1:Int))])
   (fun x=>(nd2,(bys (decL W R (blk q i)),23))::(nb2,(bys (blk q i),23))::(g,(rwA (sgSe W R (prevC iv q i) (.slice (some ⟨g2,off2,none⟩) (k+n - 16 * i) cap2)),111))::(o1++x.2.2))
   (fun x=>x.1≤16∧OwnB 5 x.2.1 (16 * i+x.1) (dflat (decL W R) iv q i++(dblk (decL W R) iv q i).take x.1) x.2.2) (fun x=>16 - x.1) (0,vo,oo) ⟨Nat.zero_le _,by dsimp only;rw [List.take_zero,List.append_nil];exact hv⟩ (Fits.of ⟨rfl,rfl,rfl,rfl,rfl,trivial⟩ (SubL.refl _) rfl) ?_
  clear hv
  rintro ⟨j,vo,oo⟩ ⟨hj,hv⟩
  dsimp only at hj hv ⊢
  by_cases hj2:j<16
  ·have t2:decide ((j:Int)<16)=true:=decide_eq_true (by omega)
   have t3:IntKind.i64.wrap ((j:Int)+1)=((j+1:Nat):Int):=by rw [wrap_i64 _ (by omega) (by omega)];omega
   have g1:=bys_get (l:=decL W R (blk q i)) (i:=j) (by rw [hDB.len];exact hj2)
   have g2:=bys_get (l:=prevC iv q i) (i:=j) (by rw [hpv.len];exact hj2)
   have xo:=bits_u8 ((decL W R (blk q i)).getD j 0) ((prevC iv q i).getD j 0) (hDB.lt j) (hpv.lt j)
   have xl:=xor_lt (hDB.lt j) (hpv.lt j)
   have ex:dflat (decL W R) iv q i++(dblk (decL W R) iv q i).take (j+1)=(dflat (decL W R) iv q i++(dblk (decL W R) iv q i).take j)++[(decL W R (blk q i)).getD j 0 ^^^ (prevC iv q i).getD j 0]:=by
    rw [List.take_add_one,List.append_assoc]
    congr 2
    have h1:(dblk (decL W R) iv q i).getD j 0=(decL W R (blk q i)).getD j 0 ^^^ (prevC iv q i).getD j 0:=xor16_get hj2
    have h2:(dblk (decL W R) iv q i)[j]? = some ((dblk (decL W R) iv q i).getD j 0):=by
     rw [List.getD_eq_getElem?_getD,List.getElem?_eq_getElem (by rw [hdb.len];exact hj2)];rfl
    rw [h2,h1];rfl
   have j1:(j:Int)<16:=by omega
   clear DB
   repeat' (first|(refine wlS ?_)|((with_reducible refine sel_load ?_);refine wv rfl rfl (rd_load rfl rfl (ld_sgC (p:=241) (m:=16))) ?_)|(refine wlG ?_)|(refine wlB ?_)|(refine wlE ?_)|(refine efSvvp ?_;intro v hv hp)|(refine efSvao ?_;intro v oa ho)|(refine efM ?_)|(refine efMvao ?_;intro v oa ho)|((with_reducible refine sel_store ?_);first|(refine wl_putB (e:=5) rfl rfl rfl rfl rfl ?_;intro oa ho)|refine wl_store rfl rfl (sv_sgC (p:=241) (m:=16) rfl rfl rfl One.out) ?_)|(refine efG ?_)|(refine efGnn ?_;intro n hn)|(refine efZCnn ?_;intro n hn)|(refine efBnn ?_;intro n hn)|(refine efB ?_)|(refine efBS ?_)|(refine wl_skip rfl rfl ?_)|((with_reducible refine wc_seq ?_);intro K hK)|(refine auC ?_)|(refine wc_cond rfl (fun hc=>?_) (fun hc=>?_))|((with_reducible refine wc_drawH _ [12] (by kernel_rfl) (SubL.refl _) ?_);(try simp only [List.append_eq,List.cons_append,List.nil_append,List.length_cons,List.length_nil,Nat.reduceAdd]))|((with_reducible refine sel_wh ?_);(refine wh_if (by decide +kernel) ?_);first|(refine wh_take (lq:=[]) rfl rfl rfl rfl (by first|exact rvS|((with_reducible apply selr_load);exact rd_load rfl rfl (ld_sgC (p:=241) (m:=16)))|exact rvG|exact rvB|exact rvE) (Or.inl rfl) ?_)|(refine wh_takeL rfl rfl rfl rfl (by first|exact rvS|((with_reducible apply selr_load);exact rd_load rfl rfl (ld_sgC (p:=241) (m:=16)))|exact rvG|exact rvB|exact rvE) (by decide +kernel) ?_))|(refine whS ?_;intro v hv hp)|((with_reducible refine sel_wh ?_);first|(refine wh_pass rfl rfl rfl rfl ?_)|(refine wh_done rfl ?_)|(refine wh_all rfl ?_))|((with_reducible refine sel_rest ?_);first|exact rest_nil rfl|refine rest_cons rfl rfl ?_ ?_)|((with_reducible refine sel_nx ?_);first|refine next_of ?_|refine next_late (by decide +kernel) ?_)|(refine auP ?_)|((refine auR ?_);clear hK K)|(refine auR ?_)|((with_reducible refine hK _ _ ?_);clear hK K)|fail)
   refine ⟨(j+1,v,oa),⟨hj2,by dsimp only;rw [ex];exact ho⟩,by dsimp only;omega,Fits.of ⟨rfl,rfl,rfl,rfl,rfl,trivial⟩ ?_ rfl⟩
   repeat (first|exact SubL.nil|exact SubL.refl _|refine SubL.keep ?_|exact SubL.headA _ _|refine SubL.keepA ?_ _|refine SubL.skip ?_|refine SubL.skipA ?_ _)
  ·obtain rfl:j=16:=by omega
   have t2:decide (((16:Nat):Int)<16)=false:=rfl
   rw [List.take_of_length_le (by rw [hdb.len];decide)] at hv
   have hsub:(List.drop 16 (q.drop (16 * i)))=q.drop (16 * (i+1)):=by rw [List.drop_drop];congr 1
   have d2:k+n - 16 * i - 16=k+n - 16 * (i+1):=by omega
   have hl2:=hl.drop (k:=16) (by omega)
   rw [hsub,d2] at hl2
   have h16:16<k+n - 16 * i:=by omega
   clear DB
   repeat' (first|(refine wlS ?_)|(refine wlG ?_)|(refine wlB ?_)|((with_reducible refine sel_slice ?_);refine wv rfl rfl (rd_tail16 rfl rfl rfl) ?_)|(refine wlE ?_)|(refine efSvvp ?_;intro v hv hp)|(refine efSvao ?_;intro v oa ho)|(refine efG ?_)|(refine efGnn ?_;intro n hn)|(refine efBnn ?_;intro n hn)|(refine efB ?_)|(refine efBS ?_)|(refine wl_skip rfl rfl ?_)|(refine wdS ?_)|(refine wdG ?_)|(refine wdV ?_)|(refine wdB ?_)|((with_reducible refine seld_slice ?_);refine wdv hm0 rfl rfl rfl rfl (rd_tail16 rfl rfl rfl) ?_)|(refine wdE ?_)|(refine wd_alloc hm0 rfl rfl rfl ?_;intro n hn hn0)|(refine wdT ?_)|(refine wdTO ?_)|(refine wd_skip rfl rfl ?_)|((with_reducible refine seld_nil ?_);refine wd_nil hm0 ?_;clear hm0 hw0)|((with_reducible refine wc_seq ?_);intro K hK)|(refine auC ?_)|(refine wc_cond rfl (fun hc=>?_) (fun hc=>?_))|(refine wc_draw (by kernel_rfl) (by kernel_rfl) (by decide +kernel) ?_;intro w0 hw0 hm0;(try simp only [List.append_eq,List.cons_append,List.nil_append]))|(refine auP ?_)|((refine auR ?_);clear hK K)|(refine auR ?_)|((with_reducible refine hK _ _ ?_);clear hK K)|fail)
   rw [d2]
   exact ⟨⟨i+1,_,vo,oo⟩,⟨by dsimp only;omega,hl2,hv⟩,by dsimp only;omega,Fits.of ⟨rfl,rfl,trivial⟩ (.skip (.skip (SubL.refl _))) rfl⟩
 ·obtain rfl:i=M:=by omega
  have t1:decide (((k+n - 16 * i:Nat):Int)>16)=false:=decide_eq_false (by omega)
  haveI:=hl.cs
  haveI:One lv:=⟨by obtain ⟨_,_,rfl,_⟩:=hl.ln.out;rfl⟩
  haveI:SgOk (sgSe W R (prevC iv q i) lv):=inferInstance
  clear DE
  repeat' (first|(refine wlS ?_)|(refine wlG ?_)|(refine wlB ?_)|(refine wlE ?_)|(refine efSvvp ?_;intro v hv hp)|(refine efSvao ?_;intro v oa ho)|(refine efG ?_)|(refine efGnn ?_;intro n hn)|(refine efBnn ?_;intro n hn)|(refine efB ?_)|(refine efBS ?_)|(refine wl_skip rfl rfl ?_)|(refine wdS ?_)|(refine wdG ?_)|(refine wdV ?_)|(refine wdB ?_)|(refine wdE ?_)|(refine wd_alloc hm0 rfl rfl rfl ?_;intro n hn hn0)|(refine wdT ?_)|(refine wdTO ?_)|(refine wd_skip rfl rfl ?_)|((with_reducible refine seld_nil ?_);refine wd_nil hm0 ?_;clear hm0 hw0)|((with_reducible refine wc_seq ?_);intro K hK)|(refine auC ?_)|(refine wc_cond rfl (fun hc=>?_) (fun hc=>?_))|(refine wc_draw (by kernel_rfl) (by kernel_rfl) (by decide +kernel) ?_;intro w0 hw0 hm0;(try simp only [List.append_eq,List.cons_append,List.nil_append]))|(refine auP ?_)|((refine auR ?_);clear hK K)|(refine auR ?_)|((with_reducible refine hK _ _ ?_);clear hK K)|fail)
  first|refine end_ret (ResP.tmp rfl ResP.nil) ?_|refine end_normal (ResP.tmp rfl ResP.nil) ?_
  (try dsimp only [tupV])
  exact ⟨_,_,rfl,⟨lv,o1,oo,rfl,hl,hv⟩,SubL.refl _⟩
end Go.Proofs.YtkendlnjaopbeaaGreatDoor
namespace Go.Proofs.YtkendlnjaopbeaaGreatDoor
open Go.RowKit
attribute [local irreducible] rwA bys
set_option linter.unusedVariables false
set_option linter.unusedSimpArgs false
set_option maxRecDepth 100000
theorem way_nil {t:TypeId}{v:Value}(w:World):(Op.equalIn 10000 54 (.iface t v) .nilIface).run Tryz.prog w=.ok false w:=by
 rw [show (10000:Nat)=9999+1 from rfl,Op.equalIn,Sem.run_bind,run_underlying Tryz.underlying54]
 rfl
theorem way_nil2 (w:World):(Op.equalIn 10000 54 .nilIface .nilIface).run Tryz.prog w=.ok true w:=by
 rw [show (10000:Nat)=9999+1 from rfl,Op.equalIn,Sem.run_bind,run_underlying Tryz.underlying54]
 rfl
section
variable {X:Cx}{s:Slots}{l:Blks}{o:Oper}
theorem rd_eqlI {t yt t':Nat}{x y:Operand}{u v:Value}{r:Bool}(ho:o.op=.binOp .eql t x y yt)(hx:val s x=some (.iface t' u))(hy:val s y=some v)
  (q:∀ w:World,(Op.equalIn 10000 t (.iface t' u) v).run X.P w=.ok r w:=by first|exact way_nil|exact way_nil2):RdV X s l o (.bool r):=
 rd_val fun e w he hm=>by
  simp only [execOp,ho,he.eval hx,he.eval hy,eqGuard]
  simp [run_eql w rfl (q w)]
end
instance sp_seal:SP Tryz.prog 109 [(0,241),(241,16),(257,1)]:=⟨by kernel_rfl⟩
instance sp_opn:SP Tryz.prog 111 [(0,241),(241,16),(257,1)]:=⟨by kernel_rfl⟩
instance sp_strm:SP Tryz.prog 106 [(0,241),(241,16),(257,1)]:=⟨by kernel_rfl⟩
theorem z240:∀ x∈List.replicate 240 0,x<256:=fun x hx=>by rw [(List.mem_replicate.1 hx).2];decide
instance key_zero:AKey (List.replicate 240 0):=⟨by simp,z240⟩
instance zg_seal:ZG Tryz.prog 109 (sgSe (List.replicate 240 0) 0 (List.replicate 16 0) (.slice none 0 0)):=⟨by kernel_rfl,inferInstance⟩
instance zg_opn:ZG Tryz.prog 111 (sgSe (List.replicate 240 0) 0 (List.replicate 16 0) (.slice none 0 0)):=⟨by kernel_rfl,inferInstance⟩
instance zg_strm:ZG Tryz.prog 106 (sgSt (List.replicate 240 0) 0 (List.replicate 16 0) 0):=⟨by kernel_rfl,inferInstance⟩
set_option maxHeartbeats 4000000 in
theorem way_se (w:World){v:Value}{n:Nat}{p:List Nat}(hp:Cb w v n p){W iv:List Nat}{R:Nat}[hkk:AKey W](hi:B16 iv)(EX:∀ w',Cb w' v n p→Calls Tryz.prog 25 [v].toArray w' (Ret (.tuple #[kv W R,.int .i64 0]) w')) :
  Calls Tryz.prog 18 [.int .i64 7,v,.agg (bys iv)].toArray w (RetO (fun g:Nat=>.iface 107 (ptr g)) (fun g oa=>oa=[(g,(rwA (sgSe W R iv (.slice none 0 0)),109))]) w):=by
 have i1:=hp.old
 haveI:NBy iv 16:=⟨hi.len⟩
 obtain ⟨k0,hk0⟩:∃ k,Nat.min n 32=k:=⟨_,rfl⟩
 obtain ⟨q0,hq0⟩:∃ q,(List.replicate 32 0).take 0++(p.take k0++(List.replicate 32 0).drop (0+k0))=q:=⟨_,rfl⟩
 have hfit:0+k0≤(List.replicate 32 0).length:=by rw [←hk0,List.length_replicate,Nat.zero_add];exact Nat.min_le_right _ _
 haveI:SgOk (sgSe W R iv (.slice none 0 0)):=inferInstance
 have hk1:k0≤n:=by rw [←hk0];exact Nat.min_le_left _ _
 have hk2:k0≤32:=by rw [←hk0];exact Nat.min_le_right _ _
 haveI:NBy q0 32:=⟨by rw [←hq0,List.take_zero,List.nil_append,List.length_append,List.length_take,List.length_drop,List.length_replicate,hp.ok.len];omega⟩
 have t0:((0:Int) != 0)=false:=rfl
 clear hp
 refine fn_own (N:=_) Tryz.func18 rfl Tryz.ntmps18 Tryz.results18 (by simp) ?_
 simp only [initS,Nat.reduceAdd,Nat.zero_add]
 repeat' (first|(refine wlS ?_)|(refine wlG ?_)|(refine wlB ?_)|((with_reducible refine sel_call ?_);refine wl_rd rfl rfl (rd_call rfl rfl rfl (fun w hm=>by with_reducible exact EX w (VwB.out w hm))) ?_)|((with_reducible refine sel_makeInterface ?_);refine wv rfl rfl (rd_mkI rfl rfl) ?_)|(refine wlE ?_)|(refine efSvvp ?_;intro v hv hp)|(refine efSvao ?_;intro v oa ho)|(refine efM ?_)|(refine efMvao ?_;intro v oa ho)|((with_reducible refine sel_store ?_);first|(refine wl_putB (e:=5) rfl rfl rfl rfl rfl ?_;intro oa ho))|(refine efG ?_)|(refine efGnn ?_;intro n hn)|(refine efZCnn ?_;intro n hn)|(refine efBnn ?_;intro n hn)|(refine efB ?_)|(refine efBS ?_)|(refine wl_skip rfl rfl ?_)|((with_reducible refine wc_seq ?_);intro K hK)|(refine auC ?_)|(refine wc_cond rfl (fun hc=>?_) (fun hc=>?_))|(refine wc_draw (by kernel_rfl) (by kernel_rfl) (by decide +kernel) ?_;intro w0 hw0 hm0;(try simp only [List.append_eq,List.cons_append,List.nil_append]))|(refine auP ?_)|((refine auR ?_);clear hK K)|(refine auR ?_)|((with_reducible refine hK _ _ ?_);clear hK K)|fail)
 first|refine end_ret (ResP.tmp rfl ResP.nil) ?_|refine end_normal (ResP.tmp rfl ResP.nil) ?_
 (try dsimp only [tupV])
 exact ⟨_,_,rfl,rfl,.keep .nil⟩
set_option maxHeartbeats 4000000 in
theorem way_st (w:World){v:Value}{n:Nat}{p:List Nat}(hp:Cb w v n p){W iv:List Nat}{R:Nat}[hkk:AKey W](hi:B16 iv)(EX:∀ w',Cb w' v n p→Calls Tryz.prog 25 [v].toArray w' (Ret (.tuple #[kv W R,.int .i64 0]) w')) :
  Calls Tryz.prog 18 [.int .i64 6,v,.agg (bys iv)].toArray w (RetO (fun g:Nat=>.iface 104 (ptr g)) (fun g oa=>oa=[(g,(rwA (sgSt W R iv 0),106))]) w):=by
 have i1:=hp.old
 haveI:NBy iv 16:=⟨hi.len⟩
 obtain ⟨k0,hk0⟩:∃ k,Nat.min n 32=k:=⟨_,rfl⟩
 obtain ⟨q0,hq0⟩:∃ q,(List.replicate 32 0).take 0++(p.take k0++(List.replicate 32 0).drop (0+k0))=q:=⟨_,rfl⟩
 have hfit:0+k0≤(List.replicate 32 0).length:=by rw [←hk0,List.length_replicate,Nat.zero_add];exact Nat.min_le_right _ _
 haveI:SgOk (sgSt W R iv 0):=inferInstance
 have hk1:k0≤n:=by rw [←hk0];exact Nat.min_le_left _ _
 have hk2:k0≤32:=by rw [←hk0];exact Nat.min_le_right _ _
 haveI:NBy q0 32:=⟨by rw [←hq0,List.take_zero,List.nil_append,List.length_append,List.length_take,List.length_drop,List.length_replicate,hp.ok.len];omega⟩
 have t0:((0:Int) != 0)=false:=rfl
 clear hp
 refine fn_own (N:=_) Tryz.func18 rfl Tryz.ntmps18 Tryz.results18 (by simp) ?_
 simp only [initS,Nat.reduceAdd,Nat.zero_add]
 repeat' (first|(refine wlS ?_)|(refine wlG ?_)|(refine wlB ?_)|((with_reducible refine sel_call ?_);refine wl_rd rfl rfl (rd_call rfl rfl rfl (fun w hm=>by with_reducible exact EX w (VwB.out w hm))) ?_)|((with_reducible refine sel_makeInterface ?_);refine wv rfl rfl (rd_mkI rfl rfl) ?_)|(refine wlE ?_)|(refine efSvvp ?_;intro v hv hp)|(refine efSvao ?_;intro v oa ho)|(refine efM ?_)|(refine efMvao ?_;intro v oa ho)|((with_reducible refine sel_store ?_);first|(refine wl_putB (e:=5) rfl rfl rfl rfl rfl ?_;intro oa ho))|(refine efG ?_)|(refine efGnn ?_;intro n hn)|(refine efZCnn ?_;intro n hn)|(refine efBnn ?_;intro n hn)|(refine efB ?_)|(refine efBS ?_)|(refine wl_skip rfl rfl ?_)|((with_reducible refine wc_seq ?_);intro K hK)|(refine auC ?_)|(refine wc_cond rfl (fun hc=>?_) (fun hc=>?_))|(refine wc_draw (by kernel_rfl) (by kernel_rfl) (by decide +kernel) ?_;intro w0 hw0 hm0;(try simp only [List.append_eq,List.cons_append,List.nil_append]))|(refine auP ?_)|((refine auR ?_);clear hK K)|(refine auR ?_)|((with_reducible refine hK _ _ ?_);clear hK K)|fail)
 first|refine end_ret (ResP.tmp rfl ResP.nil) ?_|refine end_normal (ResP.tmp rfl ResP.nil) ?_
 (try dsimp only [tupV])
 exact ⟨_,_,rfl,rfl,.keep .nil⟩
set_option maxHeartbeats 4000000 in
theorem way_op (w:World){v:Value}{n:Nat}{p:List Nat}(hp:Cb w v n p){W iv:List Nat}{R:Nat}[hkk:AKey W](hi:B16 iv)(EX:∀ w',Cb w' v n p→Calls Tryz.prog 25 [v].toArray w' (Ret (.tuple #[kv W R,.int .i64 0]) w')) :
  Calls Tryz.prog 18 [.int .i64 8,v,.agg (bys iv)].toArray w (RetO (fun g:Nat=>.iface 110 (ptr g)) (fun g oa=>oa=[(g,(rwA (sgSe W R iv (.slice none 0 0)),111))]) w):=by
 have i1:=hp.old
 haveI:NBy iv 16:=⟨hi.len⟩
 obtain ⟨k0,hk0⟩:∃ k,Nat.min n 32=k:=⟨_,rfl⟩
 obtain ⟨q0,hq0⟩:∃ q,(List.replicate 32 0).take 0++(p.take k0++(List.replicate 32 0).drop (0+k0))=q:=⟨_,rfl⟩
 have hfit:0+k0≤(List.replicate 32 0).length:=by rw [←hk0,List.length_replicate,Nat.zero_add];exact Nat.min_le_right _ _
 haveI:SgOk (sgSe W R iv (.slice none 0 0)):=inferInstance
 have hk1:k0≤n:=by rw [←hk0];exact Nat.min_le_left _ _
 have hk2:k0≤32:=by rw [←hk0];exact Nat.min_le_right _ _
 haveI:NBy q0 32:=⟨by rw [←hq0,List.take_zero,List.nil_append,List.length_append,List.length_take,List.length_drop,List.length_replicate,hp.ok.len];omega⟩
 have t0:((0:Int) != 0)=false:=rfl
 clear hp
 refine fn_own (N:=_) Tryz.func18 rfl Tryz.ntmps18 Tryz.results18 (by simp) ?_
 simp only [initS,Nat.reduceAdd,Nat.zero_add]
 repeat' (first|(refine wlS ?_)|(refine wlG ?_)|(refine wlB ?_)|((with_reducible refine sel_call ?_);refine wl_rd rfl rfl (rd_call rfl rfl rfl (fun w hm=>by with_reducible exact EX w (VwB.out w hm))) ?_)|((with_reducible refine sel_makeInterface ?_);refine wv rfl rfl (rd_mkI rfl rfl) ?_)|(refine wlE ?_)|(refine efSvvp ?_;intro v hv hp)|(refine efSvao ?_;intro v oa ho)|(refine efM ?_)|(refine efMvao ?_;intro v oa ho)|((with_reducible refine sel_store ?_);first|(refine wl_putB (e:=5) rfl rfl rfl rfl rfl ?_;intro oa ho))|(refine efG ?_)|(refine efGnn ?_;intro n hn)|(refine efZCnn ?_;intro n hn)|(refine efBnn ?_;intro n hn)|(refine efB ?_)|(refine efBS ?_)|(refine wl_skip rfl rfl ?_)|((with_reducible refine wc_seq ?_);intro K hK)|(refine auC ?_)|(refine wc_cond rfl (fun hc=>?_) (fun hc=>?_))|(refine wc_draw (by kernel_rfl) (by kernel_rfl) (by decide +kernel) ?_;intro w0 hw0 hm0;(try simp only [List.append_eq,List.cons_append,List.nil_append]))|(refine auP ?_)|((refine auR ?_);clear hK K)|(refine auR ?_)|((with_reducible refine hK _ _ ?_);clear hK K)|fail)
 first|refine end_ret (ResP.tmp rfl ResP.nil) ?_|refine end_normal (ResP.tmp rfl ResP.nil) ?_
 (try dsimp only [tupV])
 exact ⟨_,_,rfl,rfl,.keep .nil⟩
end Go.Proofs.YtkendlnjaopbeaaGreatDoor
