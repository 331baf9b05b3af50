/- Many blocks,in plain Lean: the stream,and blocks that hang on the one ahead. The package mode,walked: plus. Bytes: copied into a slice of the walk's own,made with room,cut with an end of room. The package mode,walked: Seal. -/
import Derived.Test.YtkendlnjaopbeaaGreatDoorJnAE
import Derived.Test.YtkendlnjaopbeaaGreatDoorAesX
import Derived.Test.YtkendlnjaopbeaaGreatDoorJnAC
import Derived.Test.YtkendlnjaopbeaaGreatDoorJnAD
namespace Go.Proofs.YtkendlnjaopbeaaGreatDoor
open Go.RowKit
set_option linter.unusedVariables false
set_option linter.unusedSimpArgs false
structure EDok (E D:List Nat→List Nat):Prop where
 eok:∀ b,B16 b→B16 (E b)
 dok:∀ b,B16 b→B16 (D b)
 de:∀ b,B16 b→D (E b)=b
 ed:∀ b,B16 b→E (D b)=b
theorem edok {W:List Nat}(hW:KOk W)(R:Nat):EDok (encL W R) (decL W R):=⟨fun _ h=>encL_ok hW h,fun _ h=>decL_ok hW h,fun _ h=>dec_enc hW h,fun _ h=>enc_dec hW h⟩
def ivS (iv:List Nat)(n:Nat):Nat→List Nat×Nat×Nat
 | 0=>(iv,0,n)
 | k+1=>((ivS iv n k).1.set (15 - k) (((ivS iv n k).2.1+((ivS iv n k).1.getD (15 - k) 0+(ivS iv n k).2.2 % 256)) % 256),
   ((ivS iv n k).2.1+((ivS iv n k).1.getD (15 - k) 0+(ivS iv n k).2.2 % 256)) / 256,(ivS iv n k).2.2 / 256)
def plusL (iv:List Nat)(n:Nat):List Nat:=(ivS iv n 16).1
theorem B16.set {b:List Nat}(h:B16 b){i x:Nat}(hx:x<256):B16 (b.set i x):=B16.of (by rw [List.length_set,h.len]) fun y hy=>by
 rcases List.mem_or_eq_of_mem_set hy with h1|h1
 ·exact h.byl y h1
 ·rw [h1];exact hx
theorem ivS_ok {iv:List Nat}(h:B16 iv)(n:Nat):∀ k,B16 (ivS iv n k).1∧(ivS iv n k).2.1≤2∧(ivS iv n k).2.2≤n
 | 0=>⟨h,by simp [ivS],by simp [ivS]⟩
 | k+1=>by
  obtain ⟨h1,h2,h3⟩:=ivS_ok h n k
  have h4:=h1.lt (15 - k)
  have h5:(ivS iv n k).2.2 % 256<256:=Nat.mod_lt _ (by decide)
  refine ⟨h1.set (Nat.mod_lt _ (by decide)),?_,?_⟩
  ·show ((ivS iv n k).2.1+((ivS iv n k).1.getD (15 - k) 0+(ivS iv n k).2.2 % 256)) / 256≤2
   omega
  ·show (ivS iv n k).2.2 / 256≤n
   omega
theorem plusL_ok {iv:List Nat}(h:B16 iv)(n:Nat):B16 (plusL iv n):=(ivS_ok h n 16).1
def skB (E:List Nat→List Nat)(iv:List Nat)(q:Nat):Nat:=(E (plusL iv (q / 16))).getD (q % 16) 0
def plc (a i:Nat):Nat:=(a+i) % 18446744073709551616
def strL (E:List Nat→List Nat)(iv:List Nat)(a:Nat):List Nat→List Nat
 | []=>[]
 | b::r=>(b ^^^ skB E iv (a % 18446744073709551616))::strL E iv (a+1) r
section
variable {E D:List Nat→List Nat}{iv:List Nat}
theorem strL_len (a:Nat)(p:List Nat):(strL E iv a p).length=p.length:=by
 induction p generalizing a with
 | nil=>rfl
 | cons b r ih=>simp [strL,ih]
theorem strL_app (a:Nat)(p q:List Nat):strL E iv a (p++q)=strL E iv a p++strL E iv (a+p.length) q:=by
 induction p generalizing a with
 | nil=>simp [strL]
 | cons b r ih=>simp only [List.cons_append,strL,ih,List.length_cons];rw [show a+1+r.length=a+(r.length+1) by omega]
theorem skB_lt (h:EDok E D)(hi:B16 iv)(q:Nat):skB E iv q<256:=(h.eok _ (plusL_ok hi _)).lt _
def strP (E:List Nat→List Nat)(iv:List Nat)(a:Nat)(p:List Nat)(i:Nat):List Nat:=strL E iv a (p.take i)++List.replicate (p.length - i) 0
theorem strP_zero (a:Nat)(p:List Nat):strP E iv a p 0=List.replicate p.length 0:=by simp [strP,strL]
theorem strP_all (a:Nat)(p:List Nat):strP E iv a p p.length=strL E iv a p:=by simp [strP]
theorem strP_step {a i:Nat}{p:List Nat}(hi:i<p.length):(strP E iv a p i).set i (p.getD i 0 ^^^ skB E iv (plc a i))=strP E iv a p (i+1):=by
 have hl:(strL E iv a (p.take i)).length=i:=by rw [strL_len,List.length_take];omega
 have e1:p.take (i+1)=p.take i++[p.getD i 0]:=by
  rw [List.take_add_one,List.getD_eq_getElem?_getD,List.getElem?_eq_getElem hi];rfl
 have e2:strL E iv a (p.take (i+1))=strL E iv a (p.take i)++[p.getD i 0 ^^^ skB E iv (plc a i)]:=by
  rw [e1,strL_app,List.length_take,Nat.min_eq_left (by omega)]
  simp only [strL,plc]
 rw [strP,List.set_append_right _ _ (by omega),hl,Nat.sub_self,strP,e2,show p.length - i=p.length - (i+1)+1 by omega,List.replicate_succ,List.set_cons_zero,List.append_assoc]
 simp only [List.cons_append,List.nil_append]
end
def xor16 (a b:List Nat):List Nat:=(List.range 16).map fun i=>a.getD i 0 ^^^ b.getD i 0
theorem xor16_ok {a b:List Nat}(ha:B16 a)(hb:B16 b):B16 (xor16 a b):=B16.map fun i _=>xor_lt (ha.lt i) (hb.lt i)
theorem xor16_len (a b:List Nat):(xor16 a b).length=16:=by simp [xor16]
theorem xor16_get {a b:List Nat}{i:Nat}(hi:i<16):(xor16 a b).getD i 0=a.getD i 0 ^^^ b.getD i 0:=gd16 hi
def blk (p:List Nat)(k:Nat):List Nat:=(p.drop (16 * k)).take 16
theorem blk_len {p:List Nat}{k:Nat}(h:16 * k+16≤p.length):(blk p k).length=16:=by rw [blk,List.length_take,List.length_drop];omega
theorem blk_ok {p:List Nat}{k:Nat}(h:16 * k+16≤p.length)(hp:∀ x∈p,x<256):B16 (blk p k):=B16.of (blk_len h) fun x hx=>hp x (List.mem_of_mem_drop (List.mem_of_mem_take hx))
theorem blk_get {p:List Nat}{k j:Nat}(hj:j<16):(blk p k).getD j 0=p.getD (16 * k+j) 0:=by
 rw [blk,List.getD_eq_getElem?_getD,List.getElem?_take_of_lt hj,List.getElem?_drop,List.getD_eq_getElem?_getD]
def cblk (E:List Nat→List Nat)(iv p:List Nat):Nat→List Nat
 | 0=>iv
 | k+1=>E (xor16 (cblk E iv p k) (blk p k))
def cflat (E:List Nat→List Nat)(iv p:List Nat):Nat→List Nat
 | 0=>[]
 | k+1=>cflat E iv p k++cblk E iv p (k+1)
def prevC (iv c:List Nat):Nat→List Nat
 | 0=>iv
 | k+1=>blk c k
def dblk (D:List Nat→List Nat)(iv c:List Nat)(k:Nat):List Nat:=xor16 (D (blk c k)) (prevC iv c k)
def dflat (D:List Nat→List Nat)(iv c:List Nat):Nat→List Nat
 | 0=>[]
 | k+1=>dflat D iv c k++dblk D iv c k
section
variable {E D:List Nat→List Nat}{iv:List Nat}
theorem cblk_ok (h:EDok E D)(hi:B16 iv){p:List Nat}(hp:∀ x∈p,x<256):∀ k,16 * k≤p.length→B16 (cblk E iv p k)
 | 0,_=>hi
 | k+1,hk=>h.eok _ (xor16_ok (cblk_ok h hi hp k (by omega)) (blk_ok (by omega) hp))
theorem cflat_ok (h:EDok E D)(hi:B16 iv){p:List Nat}(hp:∀ x∈p,x<256):∀ k,16 * k≤p.length→(cflat E iv p k).length=16 * k∧∀ x∈cflat E iv p k,x<256
 | 0,_=>⟨rfl,fun x hx=>by cases hx⟩
 | k+1,hk=>by
  obtain ⟨h1,h2⟩:=cflat_ok h hi hp k (by omega)
  have h3:=cblk_ok h hi hp (k+1) hk
  refine ⟨by rw [cflat,List.length_append,h1,h3.len];omega,fun x hx=>?_⟩
  rcases List.mem_append.1 hx with hx|hx
  ·exact h2 x hx
  ·exact h3.byl x hx
theorem blk_app {a b:List Nat}{k:Nat}(h:16 * k+16≤a.length):blk (a++b) k=blk a k:=by
 rw [blk,blk,List.drop_append_of_le_length (by omega),List.take_append_of_le_length (by rw [List.length_drop];omega)]
theorem prevC_ok (hi:B16 iv){c:List Nat}(hc:∀ x∈c,x<256):∀ k,16 * k≤c.length→B16 (prevC iv c k)
 | 0,_=>hi
 | k+1,hk=>blk_ok (by omega) hc
theorem dblk_ok (h:EDok E D)(hi:B16 iv){c:List Nat}(hc:∀ x∈c,x<256){k:Nat}(hk:16 * k+16≤c.length):B16 (dblk D iv c k):=
 xor16_ok (h.dok _ (blk_ok hk hc)) (prevC_ok hi hc k (by omega))
theorem dflat_ok (h:EDok E D)(hi:B16 iv){c:List Nat}(hc:∀ x∈c,x<256):∀ k,16 * k≤c.length→(dflat D iv c k).length=16 * k∧∀ x∈dflat D iv c k,x<256
 | 0,_=>⟨rfl,fun x hx=>by cases hx⟩
 | k+1,hk=>by
  obtain ⟨h1,h2⟩:=dflat_ok h hi hc k (by omega)
  have h3:=dblk_ok h hi hc (k:=k) (by omega)
  refine ⟨by rw [dflat,List.length_append,h1,h3.len];omega,fun x hx=>?_⟩
  rcases List.mem_append.1 hx with hx|hx
  ·exact h2 x hx
  ·exact h3.byl x hx
end
end Go.Proofs.YtkendlnjaopbeaaGreatDoor
namespace Go.Proofs.YtkendlnjaopbeaaGreatDoor
open Go.RowKit
attribute [local irreducible] rwA bys
set_option linter.unusedVariables false
set_option linter.unusedSimpArgs false
set_option maxRecDepth 100000
theorem and255 {a:Nat}(ha:a<18446744073709551616):bits .and .u64 (a:Int) 255=((a % 256:Nat):Int):=by
 have h1:(BitVec.ofInt 64 (a:Int)).toNat=a:=by
  rw [BitVec.ofInt_natCast,BitVec.toNat_ofNat];exact Nat.mod_eq_of_lt (by omega)
 have h2:(BitVec.ofInt 64 255).toNat=255:=rfl
 show IntKind.u64.wrap ((BitVec.ofInt 64 (a:Int) &&& BitVec.ofInt 64 255).toNat:Int)=_
 rw [BitVec.toNat_and,h1,h2,show (255:Nat)=2 ^ 8 - 1 from rfl,Nat.and_two_pow_sub_one_eq_mod]
 exact wrap_u64 _ (by omega) (by omega)
set_option maxHeartbeats 2000000 in
theorem mplus_c (w':World){iv:List Nat}{d:Nat}(hb:B16 iv)(hn:d<18446744073709551616):Calls Tryz.prog 117 [.agg (bys iv),.int .u64 (d:Int)].toArray w' (Ret (.agg (bys (plusL iv d))) w'):=by
 haveI:NBy iv 16:=⟨hb.len⟩
 have hok:=ivS_ok hb d
 have h16:plusL iv d=(ivS iv d 16).1:=rfl
 rw [h16]
 refine fn_ret (N:=_) Tryz.func117 rfl Tryz.ntmps117 Tryz.results117 (by simp) ?_
 simp only [initS,Nat.reduceAdd,Nat.zero_add]
 repeat' (first|(refine wlS ?_)|(refine wlB ?_)|(refine efZCnn ?_;intro n hn)|(refine efBnn ?_;intro n hn)|(refine efB ?_)|(refine efBS ?_)|(refine wl_skip rfl rfl ?_)|((with_reducible refine wc_seq ?_);intro K hK)|(refine auC ?_)|(refine wc_cond rfl (fun hc=>?_) (fun hc=>?_))|(refine wc_draw (by kernel_rfl) (by kernel_rfl) (by decide +kernel) ?_;intro w0 hw0 hm0;(try simp only [List.append_eq,List.cons_append,List.nil_append]))|(refine auP ?_)|((refine auR ?_);clear hK K)|(refine auR ?_)|((with_reducible refine hK _ _ ?_);clear hK K)|fail)
 rename_i n2 hn2
 obtain ⟨n4,rfl⟩:∃ n4,n4=n:=⟨n,rfl⟩
 refine wc_loop (σ:=Nat) (fun k=>[(1,.int .u64 ((ivS iv d k).2.2:Int)),(2,ptr n2),(4,ptr n4),(5,.int .u64 ((ivS iv d k).2.1:Int)),(6,.int .i64 (15 - (k:Int)))])
  (fun k=>[(n4,(bys (List.replicate 16 0),23)),(n2,(bys (ivS iv d k).1,23))])
  (fun k=>k≤16) (fun k=>16 - k) 0 (Nat.zero_le _) (Fits.of ⟨rfl,rfl,rfl,rfl,rfl,trivial⟩ (SubL.refl _) rfl) ?_
 intro k hk
 obtain ⟨o1,o2,o3⟩:=hok k
 haveI:NBy (ivS iv d k).1 16:=⟨o1.len⟩
 by_cases hlt:k<16
 ·have st:ivS iv d (k+1)=((ivS iv d k).1.set (15 - k) (((ivS iv d k).2.1+((ivS iv d k).1.getD (15 - k) 0+(ivS iv d k).2.2 % 256)) % 256),
   ((ivS iv d k).2.1+((ivS iv d k).1.getD (15 - k) 0+(ivS iv d k).2.2 % 256)) / 256,(ivS iv d k).2.2 / 256):=rfl
  have hb1:=o1.lt (15 - k)
  have gv:=bys_get (l:=(ivS iv d k).1) (i:=15 - k) (by rw [o1.len];omega)
  have s1:(ivS iv d (k+1)).1=_:=congrArg (·.1) st
  have s2:(ivS iv d (k+1)).2.1=_:=congrArg (·.2.1) st
  have s3:(ivS iv d (k+1)).2.2=_:=congrArg (·.2.2) st
  dsimp only at s1 s2 s3
  clear st hok
  generalize hB:(ivS iv d k).1.getD (15 - k) 0=b at *
  generalize hC:(ivS iv d k).2.1=c at *
  generalize hM:(ivS iv d k).2.2=m at *
  have hi:15 - (k:Int)=((15 - k:Nat):Int):=by omega
  have e0:decide (((15 - k:Nat):Int)≥0)=true:=decide_eq_true (by omega)
  have e1:IntKind.u64.wrap (b:Int)=(b:Int):=wrap_u64 _ (by omega) (by omega)
  have e2:=and255 (a:=m) (by omega)
  have hm8:m % 256<256:=Nat.mod_lt _ (by decide)
  have e3:IntKind.u64.wrap ((b:Int)+((m % 256:Nat):Int))=((b+m % 256:Nat):Int):=by rw [wrap_u64 _ (by omega) (by omega)];omega
  have e4:IntKind.u64.wrap ((c:Int)+((b+m % 256:Nat):Int))=((c+(b+m % 256):Nat):Int):=by rw [wrap_u64 _ (by omega) (by omega)];omega
  have e5:IntKind.u8.wrap ((c+(b+m % 256):Nat):Int)=(((c+(b+m % 256)) % 256:Nat):Int):=by
   simp only [IntKind.wrap,IntKind.bits,IntKind.signed];simp
  have e6:((c+(b+m % 256):Nat):Int) / 2 ^ min ((8:Int).toNat) (IntKind.bits .u64)=(((c+(b+m % 256)) / 256:Nat):Int):=by
   show ((c+(b+m % 256):Nat):Int) / 256=_;omega
  have e7:(m:Int) / 2 ^ min ((8:Int).toNat) (IntKind.bits .u64)=((m / 256:Nat):Int):=by
   show (m:Int) / 256=_;omega
  have e8:IntKind.i64.wrap (((15 - k:Nat):Int) - 1)=15 - ((k+1:Nat):Int):=by rw [wrap_i64 _ (by omega) (by omega)];omega
  have j1:((15 - k:Nat):Int)<((16:Nat):Int):=by omega
  rw [hi]
  repeat' (first|(refine wlS ?_)|(refine wlB ?_)|(refine efBnn ?_;intro n hn)|(refine efB ?_)|(refine efBS ?_)|(refine wl_skip rfl rfl ?_)|((with_reducible refine wc_seq ?_);intro K hK)|(refine auC ?_)|(refine wc_cond rfl (fun hc=>?_) (fun hc=>?_))|(refine wc_draw (by kernel_rfl) (by kernel_rfl) (by decide +kernel) ?_;intro w0 hw0 hm0;(try simp only [List.append_eq,List.cons_append,List.nil_append]))|(refine auP ?_)|((refine auR ?_);clear hK K)|(refine auR ?_)|((with_reducible refine hK _ _ ?_);clear hK K)|fail)
  exact ⟨k+1,hlt,by omega,Fits.of ⟨by rw [s3];rfl,rfl,rfl,by rw [s2];rfl,rfl,trivial⟩ (by rw [s1];exact SubL.refl _) rfl⟩
 ·obtain rfl:k=16:=by omega
  have e0:decide (15 - ((16:Nat):Int)≥0)=false:=by decide
  generalize (ivS iv d 16).1=z at *
  repeat' (first|(refine wlS ?_)|(refine wlB ?_)|(refine efZCnn ?_;intro n hn)|(refine efBnn ?_;intro n hn)|(refine efB ?_)|(refine efBS ?_)|(refine wl_skip rfl rfl ?_)|((with_reducible refine wc_seq ?_);intro K hK)|(refine auC ?_)|(refine wc_cond rfl (fun hc=>?_) (fun hc=>?_))|(refine wc_draw (by kernel_rfl) (by kernel_rfl) (by decide +kernel) ?_;intro w0 hw0 hm0;(try simp only [List.append_eq,List.cons_append,List.nil_append]))|(refine auP ?_)|((refine auR ?_);clear hK K)|(refine auR ?_)|((with_reducible refine hK _ _ ?_);clear hK K)|fail)
  first|refine end_ret (ResP.cell rfl ld_whole ResP.nil) ?_|refine end_normal (ResP.cell rfl ld_whole ResP.nil) ?_
  first|rfl|(show _=_;rfl)|(simp only [tupV, *];done)
end Go.Proofs.YtkendlnjaopbeaaGreatDoor
namespace Go.Proofs.YtkendlnjaopbeaaGreatDoor
open Go.RowKit
set_option linter.unusedVariables false
set_option linter.unusedSimpArgs false
theorem take_put {α:Type}{A B:List α}{j k n:Nat}(hB:B.length=k)(h:j+k≤n)(hn:n≤A.length):(A.take j++B++A.drop (j+k)).take n=(A.take n).take j++(B++(A.take n).drop (j+k)):=by
 have h1:(A.take j).length=j:=by rw [List.length_take];omega
 rw [List.append_assoc,List.take_append,h1,List.take_of_length_le (by omega),List.take_append,hB,List.take_of_length_le (l:=B) (by omega),List.take_take,Nat.min_eq_left (by omega)]
 rw [List.drop_take,show n - j - k=n - (j+k) by omega]
section
variable {X:Cx}{s:Slots}{l:Blks}{o:Oper}{v:Value}{Q:Post}{ops:Array Oper}{r:List Oper}
theorem copy_own {P:Program}{w:World}{t t' ty e te n n' m j k:Nat}{u v v':Value}{p q q':List Nat}{oa:Blks}(ht:P.underlying t=some (.slice e))(hs:(P.info? e).map (·.size)=some 1)
  (hown:OwnB te v n p oa) (hp:Part v v' j n') (hl':Ln v' n') (hd:Hd oa w) (hu:Cb w u m q) (hk:Nat.min m n'=k) (hfit:j+k≤n) (hq:p.take j++(q.take k++p.drop (j+k))=q') :
  ∃ w' oa',(Builtin.copy_ #[t,t'] ty #[v',u]).run P w=.ok (.int .i64 (k:Int)) w'∧OwnB te v n q' oa'∧Upd w oa w' oa':=by
 obtain ⟨hcs,hok⟩:=hu
 obtain ⟨pu,cu,rfl,h1,h2,h3⟩:=hcs.ln.out
 obtain ⟨pv,cv,rfl,i1,i2,i3⟩:=hl'.out
 have hkm:k≤m:=by rw [←hk];exact Nat.min_le_left _ _
 have hkn:k≤n':=by rw [←hk];exact Nat.min_le_right _ _
 have hpl:=hown.ok.len
 have hnd:(keys oa).Nodup:=by rcases hown.own.out with ⟨_,_,rfl⟩ | ⟨g,cap,cur,_,_,_,_,_,rfl⟩ <;> simp [keys]
 have hB:BL n q':=by
  subst hq
  refine ⟨by rw [List.length_append,List.length_append,List.length_take,List.length_take,List.length_drop,hok.len,hpl];omega,fun x hx=>?_⟩
  rcases List.mem_append.1 hx with hx|hx
  ·exact hown.ok.by' x (List.mem_of_mem_take hx)
  ·rcases List.mem_append.1 hx with hx|hx
   ·exact hok.by' x (List.mem_of_mem_take hx)
   ·exact hown.ok.by' x (List.mem_of_mem_drop hx)
 by_cases h0:k=0
 ·subst h0
  have e1:q'=p:=by rw [←hq];simp
  subst e1
  have hr:=run_copy_none (P:=P) w t t' ty e pv pu n' cv m cu ht hs hk
  exact ⟨w,oa,hr,hown,rfl,rfl,rfl,Nat.le_refl _,fun _ _ _=>rfl,hnd,hd,fun n hn=>.inl hn⟩
 ·rcases hown.own.out with ⟨rfl,rfl,rfl⟩ | ⟨g,cap,cur,rfl,hnc,hcm,hcs',htake,rfl⟩
  ·omega
  ·obtain ⟨cap',hv'⟩:=hp.out g 0 n cap rfl (by omega)
   injection hv' with hv1 hv2 hv3
   subst hv1;subst hv3
   rw [Nat.zero_add]
   have hg:w.heap[g]? = some (.cells cur te (0,0)):=(hd (g,(cur,te)) (by simp)).trans (congrArg some (toObj_cells hown.own.big))
   obtain ⟨b',off',rfl⟩:=h3 (by omega)
   have hqk:(q.take k).length=k:=by rw [List.length_take,hok.len];omega
   have htl:(bl (q.take k)).length=k:=by rw [bl_len,hqk]
   have hr:=run_copy_row (P:=P) w t t' ty e g j n' cv ⟨b',off',none⟩ m cu cur te (bl (q.take k)) ht hs hg (by rw [htl,hk]) (fun i y hj=>by
    have hjl:i<k:=by rw [←htl];exact (List.getElem?_eq_some_iff.1 hj).1
    have hj':(bl q)[i]? = some y:=by
     rw [←bl_take,List.getElem?_take_of_lt hjl] at hj
     exact hj
    obtain ⟨b2,off2,cap2,hv,hc⟩:=hcs.cell i y hj'
    injection hv with hv
    injection hv with hv
    injection hv with hb' ho'
    subst hb';subst ho'
    rw [Addr.add_mid];exact hc) (by rw [htl];omega) (bl_one _)
   rw [htl] at hr
   refine ⟨_,[(g,(_,te))],hr,⟨⟨by rw [bl_len,hB.len,Nat.mul_one],.inr ⟨g,cap,_,rfl,hnc,hcm,?_,?_,rfl⟩,.inr hown.own.big⟩,hB⟩,rfl,rfl,rfl,by simp,fun k' hk' hne=>setRow_other w g k' _ (fun e=>hne (by simp [keys,e])),by simp [keys],hd_one ((setRow_heap w g cur _ te _ hg).trans (congrArg some (toObj_cells hown.own.big).symm)),fun n hn=>.inl (by simpa [keys] using hn)⟩
   ·simp only [List.size_toArray,List.length_append,List.length_take,List.length_drop,Array.length_toList,htl]
    omega
   ·rw [Nat.mul_one] at htake ⊢
    rw [List.toList_toArray,take_put htl hfit (by rw [Array.length_toList];omega),htake,bl_take,bl_drop,←bl_app,←bl_app,hq]
class PartOf (v':Value)(v:outParam Value)(j n:outParam Nat):Prop where
 out:Part v v' j n
theorem PartOf.of {v v':Value}{j n:Nat}(h:Part v v' j n):PartOf v' v j n:=⟨h⟩
theorem wl_copyO {x y:Operand}{t t' e n n' m j:Nat}{u v v':Value}{p q q':List Nat}{oa:Blks}{f:Blks→Blks}{s':Slots}(hg:gd s ops o=some true)(hd:dOk X.N o.dst=true)(hop:o.op=.call {callee:=.builtin .copy,args:=#[x,y],argTypes:=#[t,t']})
  (hx:val s x=some v') (hy:val s y=some u) [hp:PartOf v' v j n'] [hl':Ln v' n'] [ht:UT X.P t (.slice e)] [hs:SZ X.P e 1] [hown:OwnB e v n p oa] [hseg:Seg l oa f] [hu:VwB X l u m q] {k:Nat}
  (h:∀ oa',OwnB e v n q' oa'→Wl X ops Q r s' (f oa')) (hk:Nat.min m n'=k:=by first|(with_reducible assumption)|rfl)
  (hfit:j+k≤n:=by first|(with_reducible assumption)|omega) (hq:p.take j++(q.take k++p.drop (j+k))=q':=by first|(with_reducible assumption)|rfl)
  (hs':sputO s o.dst (.int .i64 (k:Int))=s':=by (try dsimp only [sputO,sput,Nat.reduceBEq,cond_true,cond_false,beq_self_eq_true]);first|done|exact rfl):Wl X ops Q (o::r) s l:=fun a w hst=>by
 subst hs'
 have hw:=gd_wanted hst.env hg
 have hdd:Hd oa w:=by
  obtain ⟨pre,post,rfl,_⟩:=hseg.out
  intro p hp
  exact hst.mem.cls.now p.1 p.2.1 p.2.2 (mu_mem_of (by simp [hp]) hst.mem.nd)
 obtain ⟨w',oa',hr,ho',hup⟩:=copy_own (t':=t') (ty:=o.type) ht.out hs.out hown hp.out hl' hdd (hu.out w hst.mem) hk hfit hq
 unfold wpList
 rw [if_pos hw]
 refine .inl ?_
 unfold Oper.wp
 have:(execOp a.eval o).run X.P w=.ok (.value (.int .i64 (k:Int))) w':=by
  simp only [execOp,hop,resolve,invoke,builtin,Sem.run_bind,Sem.run_pure,Result.andThen_ok,List.map_toArray,List.map_cons,List.map_nil,hst.env.eval hx,hst.env.eval hy,hr]
 rw [this]
 exact h oa' ho' _ _ ⟨hst.env.put hd _,hup.mem hst.mem⟩
theorem wl_makeC {t e bytes n m:Nat}{x y:Operand}{kx ky:IntKind}{im:Int}{s':Value→Slots}{f:Blks→Blks}(hg:gd s ops o=some true)(hd:dOk X.N o.dst=true)(hop:o.op=.makeSlice t x y)(hx:val s x=some (.int kx im))(him:im=(m:Int))(hy:val s y=some (.int ky (n:Int)))
  [ht:UT X.P t (.slice e)] [hei:EI X.P e 1 bytes #[.int .u8 0]] [hf:Snoc l f] (h:∀ v' oa',OwnB e v' m (List.replicate m 0) oa'→Wl X ops Q r (s' v') (f oa'))
  (hmn:m≤n:=by first|(with_reducible assumption)|omega) (hb:n * bytes≤140737488355328∧n≤1152921504606846976:=by (refine ⟨?_,?_⟩ <;> omega))
  (hs':∀ v',sputO s o.dst v'=s' v':=by intro _;(try dsimp only [sputO,sput,Nat.reduceBEq,cond_true,cond_false,beq_self_eq_true]);first|done|exact rfl):Wl X ops Q (o::r) s l:=fun ac w hst=>by
 obtain rfl:(fun v'=>sputO s o.dst v')=s':=funext hs'
 subst him
 have hw:=gd_wanted hst.env hg
 obtain ⟨i,zv,hi,hsz,hby,hz,hzc,hzs⟩:=hei.out
 have hr:=run_make (P:=X.P) w t e i zv ht.out hi hz kx ky (m:Int) (n:Int) (by omega) (by omega) (by rw [hby,←Int.natCast_mul,Nat.mul_comm];omega) (by omega)
 rw [hsz,Nat.mul_one,Int.toNat_natCast,Int.toNat_natCast,hzc] at hr
 unfold wpList
 rw [if_pos hw]
 refine .inl ?_
 unfold Oper.wp
 have:(execOp ac.eval o).run X.P w=.ok (.value (.slice (some ⟨w.heap.size,0,none⟩) m n)) (w.alloc (.cells (madeCells #[.int .u8 0] n) e)):=by
  simp only [execOp,hop,hst.env.eval hx,hst.env.eval hy,Sem.run_bind,hr,Result.andThen_ok,Sem.run_pure]
 rw [this]
 haveI:Seg l [] f:=⟨l,[],by simp,fun o=>by rw [hf.out,List.append_nil]⟩
 refine h _ [(w.heap.size,(madeCells #[.int .u8 0] n,e))] ⟨⟨by rw [bl_len,List.length_replicate,Nat.mul_one],.inr ⟨w.heap.size,n,madeCells #[.int .u8 0] n,rfl,hmn,?_,by rw [size_madeCells,Nat.mul_one],?_,rfl⟩,.inr hei.tb⟩,BL.rep m 0 (by decide)⟩ _ _ ⟨hst.env.put hd _,(upd_new (w:=w) (w1:=w) rfl rfl rfl rfl [] _ e hei.tb).mem hst.mem⟩
 ·simp only [maxLen];omega
 ·rw [made_one,bl_rep,Nat.mul_one,List.take_replicate,Nat.min_eq_left hmn];rfl
theorem wl_cut3P {t e n hi mx:Nat}{x yh ym:Operand}{kh km:IntKind}{ih jm:Int}{Φ:World→Prop}{p p':List Nat}{s':Value→Slots}(hg:gd s ops o=some true)(hd:dOk X.N o.dst=true)(ho:o.op=.slice t x none (some yh) (some ym))(hx:val s x=some v)
  (hyh:val s yh=some (.int kh ih)) (hym:val s ym=some (.int km jm)) (hih:ih=(hi:Int)) (hjm:jm=(mx:Int)) [ht:UT X.P t (.slice e)] [hs:SZ X.P e 1] [hv:CsB Φ v n p]
  (h:∀ v',CsB Φ v' hi p'→(∃ pa',v'=.slice pa' hi mx)→Wl X ops Q r (s' v') l)
  (h1:hi≤mx:=by first|(with_reducible assumption)|omega) (h2:mx≤n:=by first|(with_reducible assumption)|omega) (hxs:p.take hi=p':=by first|(with_reducible assumption)|rfl)
  (hs':∀ v',sputO s o.dst v'=s' v':=by intro _;(try dsimp only [sputO,sput,Nat.reduceBEq,cond_true,cond_false,beq_self_eq_true]);first|done|exact rfl):Wl X ops Q (o::r) s l:=by
 obtain rfl:(fun v'=>sputO s o.dst v')=s':=funext hs'
 subst hxs;subst hih;subst hjm
 obtain ⟨pa,cap,rfl,h3,h4,h5⟩:=hv.cs.ln.out
 have hsz:∀ w,(sizeOf e).run X.P w=.ok 1 w:=hs.run
 have hok:=hv.ok
 refine wl_rd hg hd (RdV.rd (v:=.slice (if mx=0 then pa else pa.map (·.add (0 * 1))) hi mx) fun ac w he hm=>?_) (h _ ⟨⟨?_,fun w' hw'=>?_⟩,⟨by rw [List.length_take,hok.len];omega,fun x hx=>hok.by' x (List.mem_of_mem_take hx)⟩⟩ ⟨_,rfl⟩) rfl
 ·have hb:(Instr.sliceBounds true n cap none (some (.int kh (hi:Int))) (some (.int km (mx:Int)))).run X.P w=.ok (0,hi,mx) w:=by
   simp [Instr.sliceBounds,run_sliceBound,(by omega:mx≤cap),h1]
  have e0:Instr.sliceAt t (.slice pa n cap) none (some (.int kh (hi:Int))) (some (.int km (mx:Int)))=(do
    match ← underlying t with
    | .array n elem=>
     let a' ← Instr.sureAddr (.slice pa n cap)
     let (l,h,m) ← Instr.sliceBounds false n n none (some (.int kh (hi:Int))) (some (.int km (mx:Int)))
     let size ← sizeOf elem
     pure (.slice (some (if m=l then a' else a'.add (l * size))) (h - l) (m - l))
    | _=>Instr.slice t (.slice pa n cap) none (some (.int kh (hi:Int))) (some (.int km (mx:Int)))):=rfl
  simp only [execOp,ho,he.eval hx,Option.map_none,Option.map_some,he.eval hyh,he.eval hym]
  rw [Sem.run_bind,e0,Sem.run_bind,run_underlying ht.out]
  simp only [Result.andThen_ok,Instr.slice,Sem.run_bind,run_underlying ht.out,hb,hsz,Sem.run_pure,Nat.sub_zero]
 ·refine ⟨_,_,rfl,h1,by omega,fun hpos=>?_⟩
  obtain ⟨b,off,rfl⟩:=h5 (by omega)
  rw [if_neg (by omega)]
  exact ⟨b,off+0 * 1,by rw [Option.map_some,Addr.add_mid]⟩
 ·refine ⟨⟨_,_,rfl,h1,by omega,fun hpos=>?_⟩,fun j u hj=>?_⟩
  ·obtain ⟨b,off,rfl⟩:=h5 (by omega)
   rw [if_neg (by omega)]
   exact ⟨b,off+0 * 1,by rw [Option.map_some,Addr.add_mid]⟩
  ·have hlt:j<hi:=by
    have:=(List.getElem?_eq_some_iff.1 hj).1
    rw [bl_len,List.length_take] at this;omega
   rw [←bl_take,List.getElem?_take_of_lt hlt] at hj
   obtain ⟨b,off,c',hv',hc⟩:=(hv.cs.out w' hw').cell _ _ hj
   injection hv' with hv1 hv2 hv3
   subst hv1
   refine ⟨b,off+0 * 1,mx,?_,by rw [Nat.zero_mul,Nat.add_zero];exact hc⟩
   rw [if_neg (by omega),Option.map_some,Addr.add_mid]
theorem wl_cut3 {t e n hi mx:Nat}{x yh ym:Operand}{kh km:IntKind}{ih jm:Int}{Φ:World→Prop}{p p':List Nat}{s':Value→Slots}(hg:gd s ops o=some true)(hd:dOk X.N o.dst=true)(ho:o.op=.slice t x none (some yh) (some ym))(hx:val s x=some v)
  (hyh:val s yh=some (.int kh ih)) (hym:val s ym=some (.int km jm)) (hih:ih=(hi:Int)) (hjm:jm=(mx:Int)) [ht:UT X.P t (.slice e)] [hs:SZ X.P e 1] [hv:CsB Φ v n p]
  (h:∀ v',CsB Φ v' hi p'→Wl X ops Q r (s' v') l)
  (h1:hi≤mx:=by first|(with_reducible assumption)|omega) (h2:mx≤n:=by first|(with_reducible assumption)|omega) (hxs:p.take hi=p':=by first|(with_reducible assumption)|rfl)
  (hs':∀ v',sputO s o.dst v'=s' v':=by intro _;(try dsimp only [sputO,sput,Nat.reduceBEq,cond_true,cond_false,beq_self_eq_true]);first|done|exact rfl):Wl X ops Q (o::r) s l:=
 wl_cut3P hg hd ho hx hyh hym hih hjm (fun v' h3 _=>h v' h3) h1 h2 hxs hs'
end
end Go.Proofs.YtkendlnjaopbeaaGreatDoor
namespace Go.Proofs.YtkendlnjaopbeaaGreatDoor
open Go.RowKit
attribute [local irreducible] rwA bys
set_option linter.unusedVariables false
set_option linter.unusedSimpArgs false
set_option maxRecDepth 100000
def padN (p:List Nat):Nat:=16 - p.length % 16
def padP (p:List Nat):List Nat:=p++List.replicate (padN p) (padN p)
theorem padN_le (p:List Nat):1≤padN p∧padN p≤16:=by unfold padN;omega
theorem padP_len (p:List Nat):(padP p).length=16 * (p.length / 16+1):=by
 rw [padP,List.length_append,List.length_replicate,padN];omega
theorem padP_byl {p:List Nat}(h:∀ x∈p,x<256):∀ x∈padP p,x<256:=fun x hx=>by
 rcases List.mem_append.1 hx with hx|hx
 ·exact h x hx
 ·rw [(List.mem_replicate.1 hx).2];have:=(padN_le p).2;omega
def xoP (a b:List Nat)(i:Nat):List Nat:=(xor16 a b).take i++a.drop i
theorem xoP_len {a b:List Nat}(ha:a.length=16){i:Nat}(hi:i≤16):(xoP a b i).length=16:=by
 rw [xoP,List.length_append,List.length_take,xor16_len,List.length_drop,ha];omega
theorem xoP_zero (a b:List Nat):xoP a b 0=a:=by simp [xoP]
theorem xoP_all {a b:List Nat}(ha:a.length=16):xoP a b 16=xor16 a b:=by
 rw [xoP,List.take_of_length_le (by rw [xor16_len];exact Nat.le_refl _),List.drop_of_length_le (by omega),List.append_nil]
theorem xoP_get {a b:List Nat}(ha:a.length=16){i:Nat}(hi:i<16):(xoP a b i).getD i 0=a.getD i 0:=by
 rw [xoP,List.getD_eq_getElem?_getD,List.getElem?_append_right (by rw [List.length_take,xor16_len];omega),List.length_take,xor16_len,Nat.min_eq_left (by omega),Nat.sub_self,List.getElem?_drop,Nat.add_zero,List.getD_eq_getElem?_getD]
theorem xoP_step {a b:List Nat}(ha:a.length=16){i:Nat}(hi:i<16):(xoP a b i).set i (a.getD i 0 ^^^ b.getD i 0)=xoP a b (i+1):=by
 have e1:a.drop i=a.getD i 0::a.drop (i+1):=by rw [List.drop_eq_getElem_cons (by omega)];simp [List.getD,(by omega:i<a.length)]
 have e2:(xor16 a b).take (i+1)=(xor16 a b).take i++[a.getD i 0 ^^^ b.getD i 0]:=by
  have hg:(xor16 a b)[i]? = some (a.getD i 0 ^^^ b.getD i 0):=by simp [xor16,hi]
  rw [List.take_add_one,hg];rfl
 rw [xoP,List.set_append_right _ _ (by rw [List.length_take,xor16_len];omega),List.length_take,xor16_len,Nat.min_eq_left (by omega),Nat.sub_self,e1,List.set_cons_zero,xoP,e2,List.append_assoc]
 rfl
def sealP (E:List Nat→List Nat)(iv P:List Nat)(k:Nat):List Nat:=cflat E iv P k++P.drop (16 * k)
section
variable {E D:List Nat→List Nat}{iv P:List Nat}
theorem sealP_get (h:EDok E D)(hi:B16 iv)(hP:∀ x∈P,x<256){k i:Nat}(hk:16 * k+16≤P.length)(hi':i<16):(sealP E iv P k).getD (16 * k+i) 0=(blk P k).getD i 0:=by
 have hl:=(cflat_ok h hi hP k (by omega)).1
 rw [blk_get hi',sealP,List.getD_eq_getElem?_getD,List.getElem?_append_right (by omega),hl,List.getElem?_drop,List.getD_eq_getElem?_getD]
 congr 2;omega
theorem sealP_step (h:EDok E D)(hi:B16 iv)(hP:∀ x∈P,x<256){k:Nat}(hk:16 * k+16≤P.length):(sealP E iv P k).take (16 * k)++((cblk E iv P (k+1)).take 16++(sealP E iv P k).drop (16 * k+16))=sealP E iv P (k+1):=by
 have hl:=(cflat_ok h hi hP k (by omega)).1
 have hc:=(cblk_ok h hi hP (k+1) (by omega)).len
 rw [sealP,List.take_left' hl,List.take_of_length_le (by omega),List.drop_append,List.drop_of_length_le (by omega),List.nil_append,hl,List.drop_drop,sealP,cflat,List.append_assoc]
 congr 3;omega
theorem sealP_len (h:EDok E D)(hi:B16 iv)(hP:∀ x∈P,x<256){k:Nat}(hk:16 * k≤P.length):(sealP E iv P k).length=P.length:=by
 rw [sealP,List.length_append,(cflat_ok h hi hP k hk).1,List.length_drop];omega
end
set_option maxHeartbeats 4000000 in
theorem seal_c (w':World){W iv p:List Nat}{R m:Nat}{E D:List Nat→List Nat}{u:Value}[hkk:AKey W](hed:EDok E D)
  (EN:∀ b,B16 b→∀ w,Calls Tryz.prog 116 [kv W R,.agg (bys b)].toArray w (Ret (.agg (bys (E b))) w)) (hi:B16 iv) (hm:m≤1073741824) (h:Cb w' u m p) :
  Calls Tryz.prog 124 [kv W R,.agg (bys iv),u].toArray w' (RetO (fun v=>v) (fun v oa=>OwnB 5 v (16 * (m / 16+1)) (cflat E iv (padP p) (m / 16+1)) oa) w'):=by
 haveI i1:=h.old
 have hpl:=h.ok.len
 have hpb:=h.ok.by'
 clear h
 haveI:NBy iv 16:=⟨hi.len⟩
 haveI:SgOk (sgA W R):=inferInstance
 have hPl:=padP_len p
 have hPb:=padP_byl hpb
 have hPe:padP p=p++List.replicate (16 - m % 16) (16 - m % 16):=by rw [padP,padN,hpl]
 rw [hpl] at hPl
 have hall:cflat E iv (padP p) (m / 16+1)=sealP E iv (padP p) (m / 16+1):=by rw [sealP,List.drop_of_length_le (by omega),List.append_nil]
 have hzero:sealP E iv (padP p) 0=padP p:=rfl
 rw [hall]
 have k1:IntKind.i64.wrap (16 - ((m % 16:Nat):Int))=((16 - m % 16:Nat):Int):=by rw [wrap_i64 _ (by omega) (by omega)];omega
 have k0:(m:Int).tmod 16=((m % 16:Nat):Int):=by rw [Int.tmod_eq_emod_of_nonneg (by omega)];omega
 have hn1:1≤16 - m % 16:=by omega
 have hn2:16 - m % 16≤16:=by omega
 have hq:m+(16 - m % 16)=16 * (m / 16+1):=by omega
 have hq1:m / 16+1≤1073741824:=by omega
 generalize padP p=P at *
 generalize 16 - m % 16=d at *
 generalize m / 16+1=q at *
 have k2:IntKind.i64.wrap ((m:Int)+(d:Int))=((m+d:Nat):Int):=by rw [wrap_i64 _ (by omega) (by omega)];omega
 have k3:IntKind.u8.wrap (d:Int)=(d:Int):=wrap_u8 _ (by omega) (by omega)
 clear hall
 refine fn_own (N:=_) Tryz.func124 rfl Tryz.ntmps124 Tryz.results124 (by simp) ?_
 simp only [initS,Nat.reduceAdd,Nat.zero_add]
 repeat' (first|(refine wlS ?_)|(refine wlG ?_)|(refine wlB ?_)|(refine wlE ?_)|(refine efSvao ?_;intro v oa ho)|(refine efG ?_)|((with_reducible refine sel_mslice ?_);first|(refine wl_makeC (m:=0) rfl rfl rfl rfl rfl rfl ?_;intro v oa ho))|(refine efBnn ?_;intro n hn)|(refine efB ?_)|(refine efBS ?_)|(refine wl_skip rfl rfl ?_)|(refine wdS ?_)|(refine wdG ?_)|(refine wdV ?_)|(refine wdB ?_)|(refine wdE ?_)|(refine wdT ?_)|(refine wdTO ?_)|(refine wd_skip rfl rfl ?_)|((with_reducible refine seld_nil ?_);refine wd_nil hm0 ?_;clear hm0 hw0)|((with_reducible refine wc_seq ?_);intro K hK)|(refine auC ?_)|(refine wc_cond rfl (fun hc=>?_) (fun hc=>?_))|(refine wc_draw (by kernel_rfl) (by kernel_rfl) (by decide +kernel) ?_;intro w0 hw0 hm0;(try simp only [List.append_eq,List.cons_append,List.nil_append]))|(refine auP ?_)|((refine auR ?_);clear hK K)|(refine auR ?_)|((with_reducible refine hK _ _ ?_);clear hK K)|fail)
 rename_i n3 hn3 v1 oa1 ho1
 obtain ⟨n4,rfl⟩:∃ n4,n4=n:=⟨n,rfl⟩
 have hov:OwnB 5 v (m+0) (p++List.replicate 0 d) oa:=by simpa using ho
 clear ho ho1
 refine wc_loop (σ:=Nat×Value×Blks) (fun x=>[(3,ptr n3),(4,ptr n4),(7,.int .i64 (d:Int)),(8,x.2.1),(23,.int .i64 (d:Int)),(24,.int .i64 (x.1:Int))])
  (fun x=>(n4,(bys iv,23))::(n3,(rwA (sgA W R),77))::x.2.2)
  (fun x=>x.1≤d∧OwnB 5 x.2.1 (m+x.1) (p++List.replicate x.1 d) x.2.2) (fun x=>d - x.1) (0,v,oa) ⟨Nat.zero_le _,hov⟩ (Fits.of ⟨rfl,rfl,rfl,rfl,rfl,rfl,trivial⟩ (SubL.refl _) rfl) ?_
 clear hov oa v oa1 v1
 rintro ⟨j,v8,oa8⟩ ⟨hj,ho8⟩
 dsimp only at hj ho8 ⊢
 by_cases hjt:j<d
 ·have t1:decide ((j:Int)<(d:Int))=true:=decide_eq_true (by omega)
  have k4:IntKind.i64.wrap ((j:Int)+1)=((j+1:Nat):Int):=by rw [wrap_i64 _ (by omega) (by omega)];omega
  repeat' (first|(refine wlS ?_)|(refine wlG ?_)|(refine wlB ?_)|(refine wlE ?_)|(refine efSvao ?_;intro v oa ho)|(refine efG ?_)|(refine efBnn ?_;intro n hn)|(refine efB ?_)|(refine efBS ?_)|(refine wl_skip rfl rfl ?_)|(refine wdS ?_)|(refine wdG ?_)|(refine wdV ?_)|(refine wdB ?_)|(refine wdE ?_)|(refine wdT ?_)|(refine wdTO ?_)|(refine wd_skip rfl rfl ?_)|((with_reducible refine seld_nil ?_);refine wd_nil hm0 ?_;clear hm0 hw0)|((with_reducible refine wc_seq ?_);intro K hK)|(refine auC ?_)|(refine wc_cond rfl (fun hc=>?_) (fun hc=>?_))|(refine wc_draw (by kernel_rfl) (by kernel_rfl) (by decide +kernel) ?_;intro w0 hw0 hm0;(try simp only [List.append_eq,List.cons_append,List.nil_append]))|(refine auP ?_)|((refine auR ?_);clear hK K)|(refine auR ?_)|((with_reducible refine hK _ _ ?_);clear hK K)|fail)
  exact ⟨(j+1,v,oa),⟨hjt,by dsimp only;have:=ho;rw [Nat.add_assoc,List.append_assoc] at this;rw [List.replicate_succ'];exact this⟩,by dsimp only;omega,Fits.of ⟨rfl,rfl,rfl,rfl,rfl,rfl,trivial⟩ (.keep (.keep (SubL.headA _ _))) rfl⟩
 ·obtain rfl:j=d:=by omega
  have t1:decide ((j:Int)<(j:Int))=false:=decide_eq_false (by omega)
  rw [←hPe,hq] at ho8
  clear hPe k0 k1 k2 k3
  repeat' (first|(refine wlS ?_)|(refine wlG ?_)|(refine wlB ?_)|(refine wlE ?_)|(refine efSvao ?_;intro v oa ho)|(refine efG ?_)|(refine efBnn ?_;intro n hn)|(refine efB ?_)|(refine efBS ?_)|(refine wl_skip rfl rfl ?_)|(refine wdS ?_)|(refine wdG ?_)|(refine wdV ?_)|(refine wdB ?_)|(refine wdE ?_)|(refine wdT ?_)|(refine wdTO ?_)|(refine wd_skip rfl rfl ?_)|((with_reducible refine seld_nil ?_);refine wd_nil hm0 ?_;clear hm0 hw0)|((with_reducible refine wc_seq ?_);intro K hK)|(refine auC ?_)|(refine wc_cond rfl (fun hc=>?_) (fun hc=>?_))|(refine wc_draw (by kernel_rfl) (by kernel_rfl) (by decide +kernel) ?_;intro w0 hw0 hm0;(try simp only [List.append_eq,List.cons_append,List.nil_append]))|(refine auP ?_)|((refine auR ?_);clear hK K)|(refine auR ?_)|((with_reducible refine hK _ _ ?_);clear hK K)|fail)
  refine wc_loop (σ:=Nat×Value×Blks) (fun x=>[(3,ptr n3),(4,ptr n4),(8,x.2.1),(9,.int .i64 ((16 * x.1:Nat):Int))])
   (fun x=>(n4,(bys (cblk E iv P x.1),23))::(n3,(rwA (sgA W R),77))::x.2.2)
   (fun x=>x.1≤q∧OwnB 5 x.2.1 (16 * q) (sealP E iv P x.1) x.2.2) (fun x=>q - x.1) (0,v8,oa8) ⟨Nat.zero_le _,by dsimp only;rw [hzero];exact ho8⟩ (Fits.of ⟨rfl,rfl,rfl,rfl,trivial⟩ (SubL.refl _) rfl) ?_
  clear ho8 oa8 v8 hzero
  rintro ⟨k,v8,oa8⟩ ⟨hk,ho8⟩
  dsimp only at hk ho8 ⊢
  by_cases hkt:k<q
  ·have t1:decide (((16 * k:Nat):Int)<((16 * q:Nat):Int))=true:=decide_eq_true (by omega)
   have t2:IntKind.i64.wrap (((16 * k:Nat):Int)+16)=((16 * (k+1):Nat):Int):=by rw [wrap_i64 _ (by omega) (by omega)];omega
   have cok:=cblk_ok hed hi hPb k (by omega)
   have cok1:=cblk_ok hed hi hPb (k+1) (by omega)
   have bok:=blk_ok (p:=P) (k:=k) (by omega) hPb
   have hst:=sealP_step hed hi hPb (k:=k) (by omega)
   have hget:=fun i hi'=>sealP_get hed hi hPb (k:=k) (i:=i) (by omega) hi'
   have hsl:=sealP_len hed hi hPb (k:=k) (by omega)
   have hbx:=xor16_ok cok bok
   have hcb:cblk E iv P (k+1)=E (xor16 (cblk E iv P k) (blk P k)):=rfl
   have EN1:=EN _ hbx
   rw [←hcb] at EN1
   have x0:=xoP_zero (cblk E iv P k) (blk P k)
   have xA:=xoP_all (b:=blk P k) cok.len
   have xL:=fun i hi=>xoP_len (b:=blk P k) cok.len (i:=i) hi
   have xG:=fun i hi=>xoP_get (b:=blk P k) cok.len (i:=i) hi
   have xS:=fun i hi=>xoP_step (b:=blk P k) cok.len (i:=i) hi
   haveI:NBy (cblk E iv P k) 16:=⟨cok.len⟩
   haveI:NBy (cblk E iv P (k+1)) 16:=⟨cok1.len⟩
   haveI:BLc 16 (cblk E iv P (k+1)):=⟨⟨cok1.len,cok1.byl⟩,by decide⟩
   clear EN hed hi hcb
   repeat' (first|(refine wlS ?_)|(refine wlG ?_)|(refine wlB ?_)|(refine wlE ?_)|(refine efSvao ?_;intro v oa ho)|(refine efG ?_)|(refine efBnn ?_;intro n hn)|(refine efB ?_)|(refine efBS ?_)|(refine wl_skip rfl rfl ?_)|(refine wdS ?_)|(refine wdG ?_)|(refine wdV ?_)|(refine wdB ?_)|(refine wdE ?_)|(refine wdT ?_)|(refine wdTO ?_)|(refine wd_skip rfl rfl ?_)|((with_reducible refine seld_nil ?_);refine wd_nil hm0 ?_;clear hm0 hw0)|((with_reducible refine wc_seq ?_);intro K hK)|(refine auC ?_)|(refine wc_cond rfl (fun hc=>?_) (fun hc=>?_))|(refine wc_draw (by kernel_rfl) (by kernel_rfl) (by decide +kernel) ?_;intro w0 hw0 hm0;(try simp only [List.append_eq,List.cons_append,List.nil_append]))|(refine auP ?_)|((refine auR ?_);clear hK K)|(refine auR ?_)|((with_reducible refine hK _ _ ?_);clear hK K)|fail)
   refine wc_loop (σ:=Nat) (fun i=>[(3,ptr n3),(4,ptr n4),(8,v8),(9,.int .i64 ((16 * k:Nat):Int)),(38,.int .i64 (i:Int))])
    (fun i=>(n4,(bys (xoP (cblk E iv P k) (blk P k) i),23))::(n3,(rwA (sgA W R),77))::oa8)
    (fun i=>i≤16) (fun i=>16 - i) 0 (Nat.zero_le _) (Fits.of ⟨rfl,rfl,rfl,rfl,rfl,trivial⟩ (by rw [x0];exact SubL.refl _) rfl) ?_
   intro i hi'
   haveI:NBy (xoP (cblk E iv P k) (blk P k) i) 16:=⟨xL i hi'⟩
   by_cases hit:i<16
   ·have t3:decide ((i:Int)<16)=true:=decide_eq_true (by omega)
    have t4:IntKind.i64.wrap ((i:Int)+1)=((i+1:Nat):Int):=by rw [wrap_i64 _ (by omega) (by omega)];omega
    have t5:IntKind.i64.wrap (((16 * k:Nat):Int)+(i:Int))=((16 * k+i:Nat):Int):=by rw [wrap_i64 _ (by omega) (by omega)];omega
    have g1:=bys_get (l:=xoP (cblk E iv P k) (blk P k) i) (i:=i) (by rw [xL i hi'];exact hit)
    rw [xG i hit] at g1
    have g2:=bl_get (l:=sealP E iv P k) (i:=16 * k+i) (by omega)
    rw [hget i hit] at g2
    have xo:=bits_u8 ((cblk E iv P k).getD i 0) ((blk P k).getD i 0) (cok.lt i) (bok.lt i)
    have st:=xS i hit
    clear x0 xA xL xG xS EN1
    repeat' (first|(refine wlS ?_)|(refine wlG ?_)|(refine wlB ?_)|(refine wlE ?_)|(refine efSvvp ?_;intro v hv hp)|(refine efSvao ?_;intro v oa ho)|(refine efG ?_)|(refine efBnn ?_;intro n hn)|(refine efB ?_)|(refine efBS ?_)|(refine wl_skip rfl rfl ?_)|((with_reducible refine wc_seq ?_);intro K hK)|(refine auC ?_)|(refine wc_cond rfl (fun hc=>?_) (fun hc=>?_))|((with_reducible refine wc_drawT (by kernel_rfl) ?_);(try simp only [List.append_eq,List.cons_append,List.nil_append,List.length_cons,List.length_nil,Nat.reduceAdd]))|((with_reducible refine sel_wh ?_);(refine wh_if (by decide +kernel) ?_);first|(refine wh_take (lq:=[]) rfl rfl rfl rfl (by first|exact rvS|exact rvG|exact rvB|exact rvE) (Or.inl rfl) ?_)|(refine wh_takeL rfl rfl rfl rfl (by first|exact rvS|exact rvG|exact rvB|exact rvE) (by decide +kernel) ?_))|(refine whS ?_;intro v hv hp)|((with_reducible refine sel_wh ?_);first|(refine wh_pass rfl rfl rfl rfl ?_)|(refine wh_done rfl ?_)|(refine wh_all rfl ?_))|((with_reducible refine sel_rest ?_);first|exact rest_nil rfl|refine rest_cons rfl rfl ?_ ?_)|((with_reducible refine sel_nx ?_);first|refine next_of ?_|refine next_late (by decide +kernel) ?_)|(refine auP ?_)|((refine auR ?_);clear hK K)|(refine auR ?_)|((with_reducible refine hK _ _ ?_);clear hK K)|fail)
    exact ⟨i+1,hit,by omega,Fits.of ⟨rfl,rfl,rfl,rfl,rfl,trivial⟩ (by rw [←st];exact SubL.refl _) rfl⟩
   ·obtain rfl:i=16:=by omega
    have t3:decide (((16:Nat):Int)<16)=false:=by decide
    haveI:NBy (xor16 (cblk E iv P k) (blk P k)) 16:=⟨xor16_len _ _⟩
    have mn:Nat.min 16 (16 * q - 16 * k)=16:=Nat.min_eq_left (by omega)
    rw [xA]
    clear x0 xA xL xG xS hget
    repeat' (first|(refine wlS ?_)|(refine wlG ?_)|(refine wlB ?_)|((with_reducible refine sel_call ?_);refine wl_rd rfl rfl (rd_call rfl rfl rfl (fun w hm=>by with_reducible exact EN1 w)) ?_)|(refine wlE ?_)|(refine efSvvp ?_;intro v hv hp;haveI hpo:=PartOf.of hp)|(refine efSvao ?_;intro v oa ho)|(refine efG ?_)|(refine efCOao ?_;intro oa ho)|(refine efBnn ?_;intro n hn)|(refine efB ?_)|(refine efBS ?_)|(refine wl_skip rfl rfl ?_)|((with_reducible refine wc_seq ?_);intro K hK)|(refine auC ?_)|(refine wc_cond rfl (fun hc=>?_) (fun hc=>?_))|((with_reducible refine wc_drawC (by kernel_rfl) ?_);(try simp only [List.append_eq,List.cons_append,List.nil_append,List.length_cons,List.length_nil,Nat.reduceAdd]))|((with_reducible refine sel_wh ?_);(refine wh_if (by decide +kernel) ?_);first|(refine wh_take (lq:=[]) rfl rfl rfl rfl (by first|exact rvS|exact rvG|exact rvB|exact rvE) (Or.inl rfl) ?_)|(refine wh_takeL rfl rfl rfl rfl (by first|exact rvS|exact rvG|exact rvB|exact rvE) (by decide +kernel) ?_))|(refine whS ?_;intro v hv hp;haveI hpo:=PartOf.of hp)|((with_reducible refine sel_wh ?_);first|(refine wh_pass rfl rfl rfl rfl ?_)|(refine wh_done rfl ?_)|(refine wh_all rfl ?_))|((with_reducible refine sel_rest ?_);first|exact rest_nil rfl|refine rest_cons rfl rfl ?_ ?_)|((with_reducible refine sel_nx ?_);first|refine next_of ?_|refine next_late (by decide +kernel) ?_)|(refine auP ?_)|((refine auR ?_);clear hK K)|(refine auR ?_)|((with_reducible refine hK _ _ ?_);clear hK K)|fail)
    exact ⟨(k+1,v8,oa),⟨hkt,ho⟩,by dsimp only;omega,Fits.of ⟨rfl,rfl,rfl,rfl,trivial⟩ (SubL.refl _) rfl⟩
  ·obtain rfl:k=q:=by omega
   have t1:decide (((16 * k:Nat):Int)<((16 * k:Nat):Int))=false:=decide_eq_false (by omega)
   repeat' (first|(refine wlS ?_)|(refine wlG ?_)|(refine wlB ?_)|(refine wlE ?_)|(refine efSvao ?_;intro v oa ho)|(refine efG ?_)|(refine efBnn ?_;intro n hn)|(refine efB ?_)|(refine efBS ?_)|(refine wl_skip rfl rfl ?_)|(refine wdS ?_)|(refine wdG ?_)|(refine wdV ?_)|(refine wdB ?_)|(refine wdE ?_)|(refine wdT ?_)|(refine wdTO ?_)|(refine wd_skip rfl rfl ?_)|((with_reducible refine seld_nil ?_);refine wd_nil hm0 ?_;clear hm0 hw0)|((with_reducible refine wc_seq ?_);intro K hK)|(refine auC ?_)|(refine wc_cond rfl (fun hc=>?_) (fun hc=>?_))|(refine wc_draw (by kernel_rfl) (by kernel_rfl) (by decide +kernel) ?_;intro w0 hw0 hm0;(try simp only [List.append_eq,List.cons_append,List.nil_append]))|(refine auP ?_)|((refine auR ?_);clear hK K)|(refine auR ?_)|((with_reducible refine hK _ _ ?_);clear hK K)|fail)
   first|refine end_ret (ResP.tmp rfl ResP.nil) ?_|refine end_normal (ResP.tmp rfl ResP.nil) ?_
   (try dsimp only [tupV])
   exact ⟨_,_,rfl,ho8,.skip (.skip (SubL.refl _))⟩
end Go.Proofs.YtkendlnjaopbeaaGreatDoor
