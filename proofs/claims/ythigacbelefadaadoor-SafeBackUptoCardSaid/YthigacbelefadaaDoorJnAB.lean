/- The package hash,walked: New. The package hash,walked: Write. Digests in plain terms: what goes on behind what;a digest's bytes are its words. hash.Pad,walked. The package hash,walked: Sum. Numbers of 256 bits as rows of four words: plain facts,no program in sight. What an argument is that came in: arrays of integers,numbers of 256 and 512 bits. The package hash,walked: Sum of bytes;equality of 32 bytes. The package hash: contracts for whatever state and bytes,in all worlds that a walk meets. Marks by a key,in plain terms. Bytes: copy,make,append of noughts,stores into a slice of the walk's own. Structs that are built of their fields,as rows of segments. The package mac,walked. The package mac,walked: Write. The package mac,walked: Sum of a state. The package mac,walked: Sum. -/
import Derived.Test.YthigacbelefadaaDoorShaB
import Derived.Test.YthigacbelefadaaDoorJnAA
import Derived.Test.YthigacbelefadaaDoorOwnB
import Derived.Test.YthigacbelefadaaDoorTyS
import Derived.WalkKit
import Derived.Test.YthigacbelefadaaDoorCom
import Derived.ProofKit
import Derived.OpenShut
import Derived.Laws.CopyRow
import Derived.Laws.IdiomCopy
import Derived.Laws.MakeOwn
import Derived.Lib.AppendZerosOnto
namespace Go.Proofs.YthigacbelefadaaDoor
open Go.RowKit
set_option linter.unusedVariables false
set_option maxRecDepth 100000
set_option linter.unusedSimpArgs false
abbrev sgH (s:HS):Sg:=[(8,iw s.h),(1,#[.int .u64 (s.n:Int)]),(64,bys s.left)]
abbrev hv (s:HS):Value:=.agg (rwA (sgH s))
class HSo (s:HS):Prop where
 out:s.ok
instance {s:HS}[h:HSo s]:SegL (iw s.h) 8:=seg_iw h.out.1
instance {s:HS}[h:HSo s]:SegL (bys s.left) 64:=seg_bys h.out.2.2.1
set_option maxRecDepth 100000 in
set_option maxHeartbeats 4000000 in
theorem new_c (w:World):Calls Tryd.prog 62 #[] w (Ret (hv newH) w):=by
 refine fn_ret (N:=_) Tryd.func62 rfl Tryd.ntmps62 Tryd.results62 (by simp) ?_
 simp only [initS,Nat.reduceAdd,Nat.zero_add]
 repeat' (first|(refine wlS ?_)|(refine wlE ?_)|(refine efBnn ?_;intro n hn)|(refine efB ?_)|(refine efBS ?_)|(refine wl_skip rfl rfl ?_)|((with_reducible refine wc_seq ?_);intro K hK)|(refine auC ?_)|(refine wc_cond rfl (fun hc=>?_) (fun hc=>?_))|(refine wc_draw (by kernel_rfl) (by kernel_rfl) (by decide +kernel) ?_;intro w0 hw0 hm0;(try simp only [List.append_eq,List.cons_append,List.nil_append]))|(refine auP ?_)|((refine auR ?_);clear hK K)|(refine auR ?_)|((with_reducible refine hK _ _ ?_);clear hK K)|fail)
 first|refine end_ret (ResP.cell rfl ld_whole ResP.nil) ?_|refine end_normal (ResP.cell rfl ld_whole ResP.nil) ?_
 first|rfl|(show _=_;rfl)|(simp only [tupV, *];done)
end Go.Proofs.YthigacbelefadaaDoor
namespace Go.Proofs.YthigacbelefadaaDoor
open Go.RowKit
set_option linter.unusedVariables false
set_option maxRecDepth 100000
set_option linter.unusedSimpArgs false
def zeroH:HS:=⟨List.replicate 8 0,0,List.replicate 64 0⟩
instance:HSo zeroH:=⟨⟨rfl,by decide,rfl,by decide⟩⟩
set_option maxRecDepth 100000 in
instance:ZG Tryd.prog 118 (sgH zeroH):=⟨by kernel_rfl,inferInstance⟩
theorem take_succ' (p:List Nat)(i:Nat)(h:i<p.length):p.take (i+1)=p.take i++[p.getD i 0]:=by
 rw [List.take_add_one,List.getElem?_eq_getElem h];simp [List.getD,h]
instance {st:HS}[h:HSo st]:Cells (rwA (sgH st)) 73:=⟨rw_size inferInstance,rw_one inferInstance⟩
theorem hs_eq (st:HS)(b:Nat)(h:(st.n+1) % 18446744073709551616 % 64≠0):st.put b=⟨st.h,(st.n+1) % 18446744073709551616,st.left.set (st.n % 64) b⟩:=by
 simp only [HS.put,if_neg h]
theorem hs_eq0 (st:HS)(b:Nat)(h:(st.n+1) % 18446744073709551616 % 64=0):st.put b=⟨pressI st.h (st.left.set (st.n % 64) b),(st.n+1) % 18446744073709551616,st.left.set (st.n % 64) b⟩:=by
 simp only [HS.put,if_pos h]
theorem hs_lit (h:List Int)(n:Nat)(l:List Nat):sgH ⟨h,n,l⟩=[(8,iw h),(1,#[.int .u64 (n:Int)]),(64,bys l)]:=rfl
set_option maxRecDepth 100000 in
set_option maxHeartbeats 8000000 in
theorem write_c (w:World)(hT:Tab w){s:HS}(hs:s.ok){v:Value}{m:Nat}{p:List Nat}(hp:Cb w v m p):Calls Tryd.prog 63 [hv s,v].toArray w (Ret (hv (s.write p)) w):=by
 haveI:=hp.old
 haveI:HSo s:=⟨hs⟩
 have hpl:=hp.ok.len
 have hpm:=hp.ok.by'
 have hnm:m≤maxLen:=by obtain ⟨_,_,_,h1,h2,_⟩:=hp.cs.ln.out;omega
 simp only [maxLen] at hnm
 have hP:∀ i,i<m→(bl p)[i]? = some (.int .u8 ((p.getD i 0:Nat):Int)):=fun i hi=>bl_get (by omega)
 have hB:∀ i,i<m→p.getD i 0<256:=fun i hi=>hpm _ (by rw [show p.getD i 0=p[i]'(by omega) by simp [List.getD,(by omega:i<p.length)]];exact List.getElem_mem _)
 clear hp
 refine fn_ret (N:=_) Tryd.func63 rfl Tryd.ntmps63 Tryd.results63 (by simp) ?_
 simp only [initS,Nat.reduceAdd,Nat.zero_add]
 repeat' (first|(refine wlS ?_)|(refine wlG ?_)|(refine wlB ?_)|(refine wlE ?_)|(refine efSvao ?_;intro v oa ho)|(refine efG ?_)|(refine efGnn ?_;intro n hn)|(refine efBnn ?_;intro n hn)|(refine efB ?_)|(refine efBS ?_)|(refine wl_skip rfl rfl ?_)|((with_reducible refine wc_seq ?_);intro K hK)|(refine auC ?_)|(refine wc_cond rfl (fun hc=>?_) (fun hc=>?_))|(refine wc_draw (by kernel_rfl) (by kernel_rfl) (by decide +kernel) ?_;intro w0 hw0 hm0;(try simp only [List.append_eq,List.cons_append,List.nil_append]))|(refine auP ?_)|((refine auR ?_);clear hK K)|(refine auR ?_)|((with_reducible refine hK _ _ ?_);clear hK K)|fail)
 rename_i n2 hn2
 refine wc_loop (σ:=Nat) (fun i=>[(1,v),(2,ptr n2),(4,ptr n),(7,v),(8,.int .i64 (m:Int)),(9,.int .i64 (i:Int))])
  (fun i=>[(n,(rwA (sgH zeroH),118)),(n2,(rwA (sgH (s.write (p.take i))),118))])
  (fun i=>i≤m) (fun i=>m - i) 0 (Nat.zero_le _) (Fits.of ⟨rfl,rfl,rfl,rfl,rfl,rfl,trivial⟩ (by rw [List.take_zero];exact SubL.refl _) rfl) ?_
 intro i hi
 by_cases hlt:i<m
 ·have t1:decide ((i:Int)<(m:Int))=true:=decide_eq_true (by omega)
  have k1:IntKind.i64.wrap ((i:Int)+1)=((i+1:Nat):Int):=by rw [wrap_i64 _ (by omega) (by omega)];omega
  have j1:(i:Int)<(m:Int):=by omega
  have g1:=hP i hlt
  have g2:=hB i hlt
  have hok:(s.write (p.take i)).ok:=HS.write_ok (fun x hx=>hpm x (List.mem_of_mem_take hx)) hs
  have hnx:s.write (p.take (i+1))=(s.write (p.take i)).put (p.getD i 0):=by rw [take_succ' p i (by omega),HS.write_snoc]
  generalize hw2:s.write (p.take (i+1))=st2 at *
  generalize s.write (p.take i)=st at *
  generalize p.getD i 0=b at *
  clear hP hB hpm hs
  haveI:HSo st:=⟨hok⟩
  obtain ⟨o1,o2,o3,o4⟩:=hok
  have m1:((st.n:Nat):Int).tmod 64=((st.n % 64:Nat):Int):=by rw [Int.tmod_eq_emod_of_nonneg (by omega)];omega
  have m2:IntKind.u64.wrap ((st.n:Int)+1)=(((st.n+1) % 18446744073709551616:Nat):Int):=by
   have:IntKind.u64.wrap ((st.n:Int)+1)=((st.n:Int)+1) % 18446744073709551616:=by simp [IntKind.wrap,IntKind.bits,IntKind.signed]
   rw [this];omega
  have m3:(((st.n+1) % 18446744073709551616:Nat):Int).tmod 64=(((st.n+1) % 18446744073709551616 % 64:Nat):Int):=by rw [Int.tmod_eq_emod_of_nonneg (by omega)];omega
  have m4:((st.n % 64:Nat):Int)<((64:Nat):Int):=by omega
  have m5:st.n % 64<64:=by omega
  by_cases h0:(st.n+1) % 18446744073709551616 % 64=0
  ·rw [h0] at m3
   have he:=hs_eq0 st b h0
   rw [he] at hnx
   clear he
   have hb:BL 64 (st.left.set (st.n % 64) b):=⟨by rw [List.length_set];exact o3,fun x hx=>by
    rcases List.mem_or_eq_of_mem_set hx with h|h
    ·exact o4 x h
    ·rw [h];exact g2⟩
   have C:∀ w',Below w.heap.size w w'→Calls Tryd.prog 69 [.agg (iw st.h),.agg (bys (st.left.set (st.n % 64) b))].toArray w' (Ret (.agg (iw (pressI st.h (st.left.set (st.n % 64) b)))) w'):=fun w' hw'=>press_c w' (hT.below hw') o1 hb
   have hl8:(pressI st.h (st.left.set (st.n % 64) b)).length=8:=by rw [pressI,addsI_len,o1]
   haveI:SegL (iw (pressI st.h (st.left.set (st.n % 64) b))) 8:=seg_iw hl8
   haveI:SegL (bys (st.left.set (st.n % 64) b)) 64:=seg_bys hb.len
   repeat' (first|(refine wlS ?_)|((with_reducible refine sel_load ?_);refine wv rfl rfl (rd_load rfl rfl (ld_sgC (p:=9) (m:=64))) ?_)|(refine wlG ?_)|(refine wlB ?_)|((with_reducible refine sel_call ?_);refine wl_rd rfl rfl (rd_call rfl rfl rfl (fun w hm=>by with_reducible exact C w (hm.below rfl))) ?_)|(refine wlE ?_)|(refine efSvao ?_;intro v oa ho)|(refine efG ?_)|(refine efGnn ?_;intro n hn)|((with_reducible refine sel_store ?_);first|refine wl_store rfl rfl (sv_sgC (p:=9) (m:=64) rfl rfl rfl One.out) ?_)|(refine efBnn ?_;intro n hn)|(refine efB ?_)|(refine efBS ?_)|(refine wl_skip rfl rfl ?_)|((with_reducible refine wc_seq ?_);intro K hK)|(refine auC ?_)|(refine wc_cond rfl (fun hc=>?_) (fun hc=>?_))|(refine wc_draw (by kernel_rfl) (by kernel_rfl) (by decide +kernel) ?_;intro w0 hw0 hm0;(try simp only [List.append_eq,List.cons_append,List.nil_append]))|(refine auP ?_)|((refine auR ?_);clear hK K)|(refine auR ?_)|((with_reducible refine hK _ _ ?_);clear hK K)|fail)
   exact ⟨i+1,hlt,by omega,Fits.of ⟨rfl,rfl,rfl,rfl,rfl,rfl,trivial⟩ (by rw [hw2,hnx];exact SubL.refl _) rfl⟩
  ·have m6:(((((st.n+1) % 18446744073709551616 % 64:Nat):Int)) == 0)=false:=by rw [beq_eq_false_iff_ne];omega
   have he:=hs_eq st b h0
   rw [he] at hnx
   clear he
   haveI:SegL (bys (st.left.set (st.n % 64) b)) 64:=seg_bys (by rw [List.length_set];exact o3)
   repeat' (first|(refine wlS ?_)|((with_reducible refine sel_load ?_);refine wv rfl rfl (rd_load rfl rfl (ld_sgC (p:=9) (m:=64))) ?_)|(refine wlG ?_)|(refine wlB ?_)|(refine wlE ?_)|(refine efSvao ?_;intro v oa ho)|(refine efG ?_)|(refine efGnn ?_;intro n hn)|((with_reducible refine sel_store ?_);first|refine wl_store rfl rfl (sv_sgC (p:=9) (m:=64) rfl rfl rfl One.out) ?_)|(refine efBnn ?_;intro n hn)|(refine efB ?_)|(refine efBS ?_)|(refine wl_skip rfl rfl ?_)|((with_reducible refine wc_seq ?_);intro K hK)|(refine auC ?_)|(refine wc_cond rfl (fun hc=>?_) (fun hc=>?_))|(refine wc_draw (by kernel_rfl) (by kernel_rfl) (by decide +kernel) ?_;intro w0 hw0 hm0;(try simp only [List.append_eq,List.cons_append,List.nil_append]))|(refine auP ?_)|((refine auR ?_);clear hK K)|(refine auR ?_)|((with_reducible refine hK _ _ ?_);clear hK K)|fail)
   exact ⟨i+1,hlt,by omega,Fits.of ⟨rfl,rfl,rfl,rfl,rfl,rfl,trivial⟩ (by rw [hw2,hnx];exact SubL.refl _) rfl⟩
 ·obtain rfl:i=m:=by omega
  have t1:decide ((i:Int)<(i:Int))=false:=decide_eq_false (by omega)
  have hok:(s.write p).ok:=HS.write_ok hpm hs
  have hall:s.write (p.take i)=s.write p:=by rw [List.take_of_length_le (by omega)]
  generalize s.write (p.take i)=st at *
  subst hall
  haveI:HSo (s.write p):=⟨hok⟩
  repeat' (first|(refine wlS ?_)|(refine wlG ?_)|(refine wlB ?_)|(refine wlE ?_)|(refine efSvao ?_;intro v oa ho)|(refine efG ?_)|(refine efGnn ?_;intro n hn)|(refine efBnn ?_;intro n hn)|(refine efB ?_)|(refine efBS ?_)|(refine wl_skip rfl rfl ?_)|((with_reducible refine wc_seq ?_);intro K hK)|(refine auC ?_)|(refine wc_cond rfl (fun hc=>?_) (fun hc=>?_))|(refine wc_draw (by kernel_rfl) (by kernel_rfl) (by decide +kernel) ?_;intro w0 hw0 hm0;(try simp only [List.append_eq,List.cons_append,List.nil_append]))|(refine auP ?_)|((refine auR ?_);clear hK K)|(refine auR ?_)|((with_reducible refine hK _ _ ?_);clear hK K)|fail)
  first|refine end_ret (ResP.cell rfl ld_whole ResP.nil) ?_|refine end_normal (ResP.cell rfl ld_whole ResP.nil) ?_
  first|rfl|(show _=_;rfl)|(simp only [tupV, *];done)
end Go.Proofs.YthigacbelefadaaDoor
namespace Go.Proofs.YthigacbelefadaaDoor
def HS.like (s t:HS):Prop:=s.h=t.h∧s.n=t.n∧s.left.length=64∧t.left.length=64∧∀ i,i<s.n % 64→s.left[i]? = t.left[i]?
theorem HS.like_refl {s:HS}(h:s.left.length=64):s.like s:=⟨rfl,rfl,h,h,fun _ _=>rfl⟩
theorem HS.like_put {s t:HS}(b:Nat)(h:s.like t):(s.put b).like (t.put b):=by
 obtain ⟨h1,h2,h3,h4,h5⟩:=h
 have hlt:s.n % 64<64:=Nat.mod_lt _ (by decide)
 have hset:∀ i,i<s.n % 64+1→(s.left.set (s.n % 64) b)[i]? = (t.left.set (s.n % 64) b)[i]?:=fun i hi=>by
  rw [List.getElem?_set,List.getElem?_set,h3,h4]
  split
  ·rfl
  ·exact h5 i (by omega)
 refine ⟨?_,by simp only [HS.put,h2],by simp [HS.put,h3],by simp [HS.put,h4],fun i hi=>?_⟩
 ·simp only [HS.put,←h2,←h1]
  split
  ·rename_i h0
   congr 1
   have h63:s.n % 64=63:=by omega
   apply List.ext_getElem?
   intro i
   by_cases hi:i<64
   ·exact hset i (by omega)
   ·rw [List.getElem?_eq_none (by rw [List.length_set,h3];omega),List.getElem?_eq_none (by rw [List.length_set,h4];omega)]
  ·rfl
 ·simp only [HS.put,←h2] at hi ⊢
  exact hset i (by omega)
theorem HS.like_write (p:List Nat):∀ {s t:HS},s.like t→(s.write p).like (t.write p):=by
 induction p with
 | nil=>intro s t h;exact h
 | cons b r ih=>intro s t h;exact ih (HS.like_put b h)
theorem HS.like_sum {s t:HS}(h:s.like t):s.sum=t.sum:=by
 unfold HS.sum
 rw [←h.2.1,(HS.like_write _ h).1]
theorem HS.put_n (s:HS)(b:Nat):(s.put b).n=(s.n+1) % 18446744073709551616:=rfl
theorem HS.write_n (p:List Nat):∀ (s:HS),s.n<18446744073709551616→(s.write p).n=(s.n+p.length) % 18446744073709551616:=by
 induction p with
 | nil=>intro s h;rw [List.length_nil,Nat.add_zero,Nat.mod_eq_of_lt h];rfl
 | cons b r ih=>
  intro s h
  rw [show s.write (b::r)=(s.put b).write r from rfl,ih _ (Nat.mod_lt _ (by decide)),HS.put_n,List.length_cons]
  omega
theorem newH_n (p:List Nat)(h:p.length<18446744073709551616):(newH.write p).n=p.length:=by
 rw [HS.write_n p newH (by decide),show newH.n=0 from rfl,Nat.zero_add,Nat.mod_eq_of_lt h]
def W32 (l:List Int):Prop:=∀ x∈l,0≤x∧x<4294967296
theorem wrap32 (x:Int):0≤IntKind.u32.wrap x∧IntKind.u32.wrap x<4294967296:=by
 have h:IntKind.u32.wrap x=x % 4294967296:=by simp [IntKind.wrap,IntKind.bits,IntKind.signed]
 rw [h]
 omega
theorem adds_w32 {h v:List Int}(hh:W32 h):∀ i,W32 (addsI h v i)
 | 0=>hh
 | i+1=>fun x hx=>by
  rcases List.mem_or_eq_of_mem_set hx with h1|h1
  ·exact adds_w32 hh i x h1
  ·rw [h1];exact wrap32 _
theorem HS.write_w32 (p:List Nat):∀ {s:HS},W32 s.h→W32 (s.write p).h:=by
 induction p with
 | nil=>intro s h;exact h
 | cons b r ih=>
  intro s h
  refine ih (s:=s.put b) ?_
  simp only [HS.put]
  split
  ·exact adds_w32 h 8
  ·exact h
theorem newH_w32:W32 newH.h:=by unfold W32 newH;decide
theorem or_nat {a b:Nat}(ha:a<4294967296)(hb:b<4294967296):or32 (a:Int) (b:Int)=((a ||| b:Nat):Int):=by
 have h1:(BitVec.ofInt 32 (a:Int))=BitVec.ofNat 32 a:=by rw [BitVec.ofInt_natCast]
 have h2:(BitVec.ofInt 32 (b:Int))=BitVec.ofNat 32 b:=by rw [BitVec.ofInt_natCast]
 have hw:∀ x:Int,IntKind.u32.wrap x=x % 4294967296:=fun x=>by simp [IntKind.wrap,IntKind.bits,IntKind.signed]
 have hlt:a ||| b<4294967296:=Nat.or_lt_two_pow (n:=32) ha hb
 show IntKind.u32.wrap (((BitVec.ofInt 32 (a:Int)) ||| (BitVec.ofInt 32 (b:Int))).toNat:Int)=_
 rw [h1,h2,BitVec.toNat_or,BitVec.toNat_ofNat,BitVec.toNat_ofNat,Nat.mod_eq_of_lt ha,Nat.mod_eq_of_lt hb,hw]
 omega
def by4 (x:Int):List Nat:=[(IntKind.u8.wrap (x / 16777216)).toNat,(IntKind.u8.wrap (x / 65536)).toNat,(IntKind.u8.wrap (x / 256)).toNat,(IntKind.u8.wrap x).toNat]
theorem wrap8 (x:Int):IntKind.u8.wrap x=x % 256:=by simp [IntKind.wrap,IntKind.bits,IntKind.signed]
theorem or4 {a b c d:Nat}(ha:a<256)(hb:b<256)(hc:c<256)(hd:d<256):or32 (or32 (or32 ((a * 16777216:Nat):Int) ((b * 65536:Nat):Int)) ((c * 256:Nat):Int)) (d:Int)=((a * 16777216+b * 65536+c * 256+d:Nat):Int):=by
 have e1:=Nat.two_pow_add_eq_or_of_lt (i:=24) (b:=b * 65536) (by omega) a
 rw [or_nat (by omega) (by omega),show a * 16777216 ||| b * 65536=a * 16777216+b * 65536 by rw [show a * 16777216=2 ^ 24 * a by omega,←e1]]
 have e2:=Nat.two_pow_add_eq_or_of_lt (i:=16) (b:=c * 256) (by omega) (a * 256+b)
 rw [or_nat (by omega) (by omega),show a * 16777216+b * 65536 ||| c * 256=a * 16777216+b * 65536+c * 256 by rw [show a * 16777216+b * 65536=2 ^ 16 * (a * 256+b) by omega,←e2]]
 have e3:=Nat.two_pow_add_eq_or_of_lt (i:=8) (b:=d) (by omega) (a * 65536+b * 256+c)
 rw [or_nat (by omega) (by omega),show a * 16777216+b * 65536+c * 256 ||| d=a * 16777216+b * 65536+c * 256+d by rw [show a * 16777216+b * 65536+c * 256=2 ^ 8 * (a * 65536+b * 256+c) by omega,←e3]]
theorem word_by4 {x:Int}(h:0≤x∧x<4294967296)(l r:List Nat)(at':Nat)(hl:l.length=at'):wordI (l++(by4 x++r)) at'=x:=by
 subst hl
 have g:∀ j,(l++(by4 x++r)).getD (l.length+j) 0=(by4 x++r).getD j 0:=fun j=>by simp [List.getD,List.getElem?_append_right]
 have g0:=g 0
 unfold wordI
 rw [Nat.add_zero] at g0
 rw [g0,g 1,g 2,g 3]
 obtain ⟨n,rfl⟩:=Int.eq_ofNat_of_zero_le h.1
 simp only [by4,List.cons_append,List.getD_cons_zero,List.getD_cons_succ,wrap8]
 rw [or4 (by omega) (by omega) (by omega) (by omega)]
 omega
theorem sumB_eq (h:List Int):sumB h=(h.map by4).flatten:=rfl
theorem sumB_len:∀ h:List Int,(sumB h).length=4 * h.length
 | []=>rfl
 | x::r=>by rw [sumB_eq,List.map_cons,List.flatten_cons,List.length_append,←sumB_eq,sumB_len r];simp [by4];omega
theorem sumB_byte (h:List Int):∀ x∈sumB h,x<256:=fun x hx=>by
 rw [sumB_eq] at hx
 obtain ⟨l,hl,hx⟩:=List.mem_flatten.1 hx
 obtain ⟨y,_,rfl⟩:=List.mem_map.1 hl
 simp only [by4,wrap8,List.mem_cons,List.not_mem_nil,or_false] at hx
 omega
theorem word_sum:∀ (h:List Int) (i:Nat),W32 h→i<h.length→wordI (sumB h) (4 * i)=h.getD i 0:=fun h i hw hi=>by
 have e:h=h.take i++(h[i]::h.drop (i+1)):=by rw [List.getElem_cons_drop];exact (List.take_append_drop i h).symm
 have hb:sumB h=sumB (h.take i)++(by4 h[i]++sumB (h.drop (i+1))):=by
  conv=>lhs;rw [e]
  simp only [sumB_eq,List.map_append,List.map_cons,List.flatten_append,List.flatten_cons]
 rw [hb,word_by4 (hw _ (List.getElem_mem hi)) _ _ _ (by rw [sumB_len,List.length_take];omega)]
 simp [List.getD,hi]
theorem dig_eq (p:List Nat)(h:p.length<18446744073709551616):dig p=sumB (newH.write (p++padL p.length)).h:=by
 rw [dig,HS.sum,newH_n p h,HS.write_app]
theorem dig_len (p:List Nat):(dig p).length=32:=by
 rw [dig,HS.sum,sumB_len]
 have:∀ (p:List Nat) (s:HS),s.h.length=8→(s.write p).h.length=8:=fun p=>by
  induction p with
  | nil=>intro s h;exact h
  | cons b r ih=>
   intro s h
   refine ih (s.put b) ?_
   simp only [HS.put]
   split
   ·rw [pressI,addsI_len,h]
   ·exact h
 rw [this _ _ (this _ _ rfl)]
def resumeH (d:List Nat)(n:Nat):HS:=⟨(List.range 8).map fun i=>wordI d (4 * i),n,List.replicate 64 0⟩
theorem resume_like (p:List Nat)(h:p.length+(padL p.length).length<18446744073709551616):(resumeH (dig p) (p.length+(padL p.length).length)).like (newH.write (p++padL p.length)):=by
 have hn:=newH_n (p++padL p.length) (by rw [List.length_append];exact h)
 rw [List.length_append] at hn
 have h64:(p.length+(padL p.length).length) % 64=0:=by rw [padL_len,padK];omega
 have hl8:(newH.write (p++padL p.length)).h.length=8:=by
  have:=dig_len p
  rw [dig_eq p (by omega),sumB_len] at this
  omega
 have hw:=HS.write_w32 (p++padL p.length) newH_w32
 refine ⟨?_,hn.symm,by simp [resumeH],?_,fun i hi=>?_⟩
 ·simp only [resumeH]
  rw [dig_eq p (by omega)]
  generalize (newH.write (p++padL p.length)).h=hh at *
  apply List.ext_getElem
  ·simp [hl8]
  ·intro i h1 h2
   simp only [List.length_map,List.length_range] at h1
   rw [List.getElem_map,List.getElem_range,word_sum hh i hw h2]
   simp [List.getD,h2]
 ·have:∀ (q:List Nat) (s:HS),s.left.length=64→(s.write q).left.length=64:=fun q=>by
   induction q with
   | nil=>intro s h;exact h
   | cons b r ih=>intro s h;exact ih (s.put b) (by simp [HS.put,h])
  exact this _ _ rfl
 ·simp only [resumeH] at hi
  omega
theorem extends_plain (p q:List Nat)(h:p.length+(padL p.length).length<18446744073709551616):((resumeH (dig p) (p.length+(padL p.length).length)).write q).sum=dig (p++padL p.length++q):=by
 rw [HS.like_sum (HS.like_write q (resume_like p h)),dig,←HS.write_app]
end Go.Proofs.YthigacbelefadaaDoor
namespace Go.Proofs.YthigacbelefadaaDoor
open Go.RowKit
set_option linter.unusedVariables false
set_option maxRecDepth 100000
set_option linter.unusedSimpArgs false
set_option maxRecDepth 100000 in
set_option maxHeartbeats 4000000 in
theorem pad_c (n:Nat)(hn:n<18446744073709551616)(w:World):Calls Tryd.prog 79 [.int .u64 (n:Int)].toArray w (RetO (fun v=>v) (fun v oa=>OwnB 5 v (padK n+9) (padL n) oa) w):=by
 refine fn_own (N:=_) Tryd.func79 rfl Tryd.ntmps79 Tryd.results79 (by simp) ?_
 simp only [initS,Nat.reduceAdd,Nat.zero_add]
 repeat' (first|(refine wlS ?_)|(refine wlB ?_)|(refine wlE ?_)|(refine efSvao ?_;intro v oa ho)|(refine wl_skip rfl rfl ?_)|((with_reducible refine wc_seq ?_);intro K hK)|(refine auC ?_)|(refine wc_cond rfl (fun hc=>?_) (fun hc=>?_))|(refine wc_draw (by kernel_rfl) (by kernel_rfl) (by decide +kernel) ?_;intro w0 hw0 hm0;(try simp only [List.append_eq,List.cons_append,List.nil_append]))|(refine auP ?_)|((refine auR ?_);clear hK K)|(refine auR ?_)|((with_reducible refine hK _ _ ?_);clear hK K)|fail)
 refine wc_loop (σ:=Nat×Value×Blks) (fun x=>[(0,.int .u64 (n:Int)),(3,x.2.1)]) (fun x=>x.2.2)
  (fun x=>x.1≤padK n∧OwnB 5 x.2.1 (1+x.1) ([128]++List.replicate x.1 0) x.2.2) (fun x=>padK n - x.1) (0,v,oa) ⟨Nat.zero_le _,ho⟩ (Fits.of ⟨rfl,rfl,trivial⟩ (SubL.refl _) rfl) ?_
 clear ho v oa
 rintro ⟨k,v,oa⟩ ⟨hk,ho⟩
 dsimp only at hk ho
 have hp:=padK_lt n
 have hc:IntKind.u64.wrap ((1+k:Nat):Int)=((1+k:Nat):Int):=by rw [wrapU];omega
 have ha:IntKind.u64.wrap ((n:Int)+((1+k:Nat):Int))=(((n+(1+k)) % 18446744073709551616:Nat):Int):=by rw [←wrapU];congr 1
 have hr:((((n+(1+k)) % 18446744073709551616:Nat):Int)).tmod 64=(((n+(1+k)) % 64:Nat):Int):=by rw [rem_nn _ _ (by omega)];omega
 by_cases hlt:k<padK n
 ·have t1:((((n+(1+k)) % 64:Nat):Int) != (56:Int))=true:=by
   unfold padK at hlt hp
   rw [bne_iff_ne];omega
  repeat' (first|(refine wlS ?_)|(refine wlB ?_)|(refine wlE ?_)|(refine efSvao ?_;intro v oa ho)|(refine wl_skip rfl rfl ?_)|((with_reducible refine wc_seq ?_);intro K hK)|(refine auC ?_)|(refine wc_cond rfl (fun hc=>?_) (fun hc=>?_))|(refine wc_draw (by kernel_rfl) (by kernel_rfl) (by decide +kernel) ?_;intro w0 hw0 hm0;(try simp only [List.append_eq,List.cons_append,List.nil_append]))|(refine auP ?_)|((refine auR ?_);clear hK K)|(refine auR ?_)|((with_reducible refine hK _ _ ?_);clear hK K)|fail)
  exact ⟨(k+1,v,oa),⟨hlt,by rw [List.append_assoc,rep_snoc] at ho;exact ho⟩,by dsimp only;omega,Fits.of ⟨rfl,rfl,trivial⟩ (SubL.headA _ _) rfl⟩
 ·obtain rfl:k=padK n:=by omega
  have t1:((((n+(1+padK n)) % 64:Nat):Int) != (56:Int))=false:=by
   have:(n+(1+padK n)) % 64=56:=by unfold padK;omega
   rw [this];rfl
  repeat' (first|(refine wlS ?_)|(refine wlB ?_)|(refine wlE ?_)|(refine efSvao ?_;intro v oa ho)|(refine wl_skip rfl rfl ?_)|((with_reducible refine wc_seq ?_);intro K hK)|(refine auC ?_)|(refine wc_cond rfl (fun hc=>?_) (fun hc=>?_))|(refine wc_draw (by kernel_rfl) (by kernel_rfl) (by decide +kernel) ?_;intro w0 hw0 hm0;(try simp only [List.append_eq,List.cons_append,List.nil_append]))|(refine auP ?_)|((refine auR ?_);clear hK K)|(refine auR ?_)|((with_reducible refine hK _ _ ?_);clear hK K)|fail)
  refine wc_loop (σ:=Nat×Value×Blks) (fun x=>[(0,.int .u64 (n:Int)),(3,x.2.1),(16,.int .i64 (x.1:Int))]) (fun x=>x.2.2)
   (fun x=>x.1≤8∧OwnB 5 x.2.1 (1+padK n+x.1) ([128]++List.replicate (padK n) 0++(List.range x.1).map fun i=>8 * n % 18446744073709551616 / 2 ^ (56 - 8 * i) % 256) x.2.2) (fun x=>8 - x.1) (0,v,oa)
   ⟨Nat.zero_le _,by simpa using ho⟩ (Fits.of ⟨rfl,rfl,rfl,trivial⟩ (SubL.refl _) rfl) ?_
  clear ho v oa hc ha hr t1 hlt
  rintro ⟨k,v,oa⟩ ⟨hk8,ho⟩
  dsimp only at hk8 ho
  by_cases hlt:k<8
  ·have t1:decide ((k:Int)<8)=true:=decide_eq_true (by omega)
   have h8:IntKind.u64.wrap (8 * (n:Int))=((8 * n % 18446744073709551616:Nat):Int):=by rw [←wrapU];rfl
   have hs:IntKind.u64.wrap (56 - 8 * (k:Int))=((56 - 8 * k:Nat):Int):=by rw [show (56 - 8 * (k:Int))=((56 - 8 * k:Nat):Int) by omega,wrapU];omega
   have hsh:(((8 * n % 18446744073709551616:Nat):Int)) / 2 ^ (min (((56 - 8 * k:Nat):Int).toNat) IntKind.u64.bits)=((8 * n % 18446744073709551616 / 2 ^ (56 - 8 * k):Nat):Int):=by
    rw [Int.toNat_natCast,Nat.min_eq_left (by simp [IntKind.bits];omega)];norm_cast
   have hb:IntKind.u8.wrap ((8 * n % 18446744073709551616 / 2 ^ (56 - 8 * k):Nat):Int)=((8 * n % 18446744073709551616 / 2 ^ (56 - 8 * k) % 256:Nat):Int):=wrapB _
   have hk1:IntKind.i64.wrap ((k:Int)+1)=((k+1:Nat):Int):=wrap_i64 _ (by omega) (by omega)
   repeat' (first|(refine wlS ?_)|(refine wlB ?_)|(refine wlE ?_)|(refine efSvao ?_;intro v oa ho)|(refine wl_skip rfl rfl ?_)|((with_reducible refine wc_seq ?_);intro K hK)|(refine auC ?_)|(refine wc_cond rfl (fun hc=>?_) (fun hc=>?_))|(refine wc_draw (by kernel_rfl) (by kernel_rfl) (by decide +kernel) ?_;intro w0 hw0 hm0;(try simp only [List.append_eq,List.cons_append,List.nil_append]))|(refine auP ?_)|((refine auR ?_);clear hK K)|(refine auR ?_)|((with_reducible refine hK _ _ ?_);clear hK K)|fail)
   exact ⟨(k+1,v,oa),⟨hlt,by rw [List.append_assoc,range_snoc (f:=fun i=>8 * n % 18446744073709551616 / 2 ^ (56 - 8 * i) % 256)] at ho;exact ho⟩,by dsimp only;omega,Fits.of ⟨rfl,rfl,rfl,trivial⟩ (SubL.headA _ _) rfl⟩
  ·obtain rfl:k=8:=by omega
   have t1:decide (((8:Nat):Int)<8)=false:=by decide
   have hpl:padK n+9=1+padK n+8:=by omega
   have hpp:padL n=[128]++List.replicate (padK n) 0++(List.range 8).map fun i=>8 * n % 18446744073709551616 / 2 ^ (56 - 8 * i) % 256:=by rw [List.append_assoc];rfl
   repeat' (first|(refine wlS ?_)|(refine wlB ?_)|(refine wlE ?_)|(refine efSvao ?_;intro v oa ho)|(refine wl_skip rfl rfl ?_)|((with_reducible refine wc_seq ?_);intro K hK)|(refine auC ?_)|(refine wc_cond rfl (fun hc=>?_) (fun hc=>?_))|(refine wc_draw (by kernel_rfl) (by kernel_rfl) (by decide +kernel) ?_;intro w0 hw0 hm0;(try simp only [List.append_eq,List.cons_append,List.nil_append]))|(refine auP ?_)|((refine auR ?_);clear hK K)|(refine auR ?_)|((with_reducible refine hK _ _ ?_);clear hK K)|fail)
   first|refine end_ret (ResP.tmp rfl ResP.nil) ?_|refine end_normal (ResP.tmp rfl ResP.nil) ?_
   (try dsimp only [tupV])
   exact ⟨_,_,rfl,by rw [hpl,hpp];exact ho,SubL.refl _⟩
end Go.Proofs.YthigacbelefadaaDoor
namespace Go.Proofs.YthigacbelefadaaDoor
open Go.RowKit
set_option linter.unusedVariables false
set_option maxRecDepth 100000
set_option linter.unusedSimpArgs false
theorem set4 {α:Type}(A R:List α)(a b c d z0 z1 z2 z3:α)(k:Nat)(hk:A.length=k) :
  ((((A++z0::z1::z2::z3::R).set k a).set (k+1) b).set (k+2) c).set (k+3) d=(A++[a,b,c,d])++R:=by
 subst hk
 simp [List.set_append_right]
def outB (h:List Int)(i:Nat):List Nat:=sumB (h.take i)++List.replicate (32 - 4 * i) 0
theorem outB_len (h:List Int)(hh:h.length=8){i:Nat}(hi:i≤8):(outB h i).length=32:=by
 rw [outB,List.length_append,sumB_len,List.length_take,List.length_replicate];omega
theorem outB_step (h:List Int)(hh:h.length=8){i:Nat}(hi:i<8){a b c d:Nat}(he:by4 (h.getD i 0)=[a,b,c,d]) :
  ((((outB h i).set (4 * i) a).set (4 * i+1) b).set (4 * i+2) c).set (4 * i+3) d=outB h (i+1):=by
 have e1:List.replicate (32 - 4 * i) 0=0::0::0::0::List.replicate (32 - 4 * (i+1)) 0:=by
  rw [show 32 - 4 * i=32 - 4 * (i+1)+1+1+1+1 by omega];rfl
 have e2:h.take (i+1)=h.take i++[h.getD i 0]:=by
  rw [List.take_add_one,List.getElem?_eq_getElem (by omega)];simp [List.getD,(by omega:i<h.length)]
 rw [outB,e1,set4 _ _ a b c d _ _ _ _ (4 * i) (by rw [sumB_len,List.length_take];omega),outB,e2]
 congr 1
 rw [sumB_eq,sumB_eq,List.map_append,List.flatten_append,List.map_cons,List.map_nil,List.flatten_cons,List.flatten_nil,List.append_nil,he]
class NBy (l:List Nat)(n:outParam Nat):Prop where
 out:l.length=n
instance {l:List Nat}{n i k:Nat}[h:NBy l n]:NBy (l.set i k) n:=⟨by rw [List.length_set,h.out]⟩
instance {n x:Nat}:NBy (List.replicate n x) n:=⟨by simp⟩
instance {l:List Nat}{n:Nat}[h:NBy l n]:Cells (bys l) n:=⟨(seg_bys h.out).size,(seg_bys h.out).one⟩
instance {l:List Nat}{n:Nat}[h:NBy l n]:SegL (bys l) n:=seg_bys h.out
instance:ZC Tryd.prog 23 (bys (List.replicate 32 0)):=⟨by kernel_rfl⟩
theorem padL_byte (n:Nat):∀ x∈padL n,x<256:=fun x hx=>by
 rcases List.mem_cons.1 hx with rfl|hx
 ·decide
 ·rcases List.mem_append.1 hx with h|h
  ·rw [(List.mem_replicate.1 h).2];decide
  ·obtain ⟨i,_,rfl⟩:=List.mem_map.1 h
   exact Nat.mod_lt _ (by decide)
set_option maxRecDepth 100000 in
set_option maxHeartbeats 8000000 in
theorem sum_c (w:World)(hT:Tab w){s:HS}(hs:s.ok):Calls Tryd.prog 67 [hv s].toArray w (Ret (.agg (bys s.sum)) w):=by
 haveI:HSo s:=⟨hs⟩
 obtain ⟨o1,o2,o3,o4⟩:=id hs
 have P1:=fun w'=>pad_c s.n o2 w'
 have W1:∀ w' v,Below w.heap.size w w'→Cb w' v (padK s.n+9) (padL s.n)→Calls Tryd.prog 63 [hv s,v].toArray w' (Ret (hv (s.write (padL s.n))) w'):=fun w' v hb hv=>write_c w' (hT.below hb) hs hv
 have hpb:∀ x∈padL s.n,x<256:=padL_byte s.n
 have hs2:(s.write (padL s.n)).ok:=HS.write_ok hpb hs
 have hsum:s.sum=sumB (s.write (padL s.n)).h:=rfl
 rw [hsum]
 generalize s.write (padL s.n)=t at *
 haveI:HSo t:=⟨hs2⟩
 obtain ⟨q1,q2,q3,q4⟩:=hs2
 have hlast:sumB t.h=outB t.h 8:=by rw [outB,List.take_of_length_le (by omega)];simp
 rw [hlast]
 clear hT hpb hsum hlast hs
 refine fn_ret (N:=_) Tryd.func67 rfl Tryd.ntmps67 Tryd.results67 (by simp) ?_
 simp only [initS,Nat.reduceAdd,Nat.zero_add]
 repeat' (first|(refine wlS ?_)|(refine wlG ?_)|(refine wlB ?_)|((with_reducible refine sel_call ?_);refine wl_rd rfl rfl (rd_call rfl rfl rfl (fun w hm=>by with_reducible exact W1 w _ (hm.below rfl) (VwB.out w hm))) ?_)|(refine wlE ?_)|(refine efSvao ?_;intro v oa ho)|(refine efG ?_)|(refine efGnn ?_;intro n hn)|(refine efZCnn ?_;intro n hn)|((with_reducible refine sel_call ?_);first|(refine wl_newO rfl rfl rfl rfl rfl (fun w hm=>by with_reducible exact P1 w) ?_;intro x oa hx))|(refine efBnn ?_;intro n hn)|(refine efB ?_)|(refine efBS ?_)|(refine wl_skip rfl rfl ?_)|((with_reducible refine wc_seq ?_);intro K hK)|(refine auC ?_)|(refine wc_cond rfl (fun hc=>?_) (fun hc=>?_))|((with_reducible refine wc_drawT (by kernel_rfl) ?_);(try simp only [List.append_eq,List.cons_append,List.nil_append,List.length_cons,List.length_nil,Nat.reduceAdd]))|((with_reducible refine sel_wh ?_);(refine wh_if (by decide +kernel) ?_);first|(refine wh_take (lq:=[]) rfl rfl rfl rfl (by first|exact rvS|exact rvG|exact rvB|exact rvE) (Or.inl rfl) ?_)|(refine wh_takeL rfl rfl rfl rfl (by first|exact rvS|exact rvG|exact rvB|exact rvE) (by decide +kernel) ?_))|(refine whS ?_;intro v hv hp)|((with_reducible refine sel_wh ?_);first|(refine wh_pass rfl rfl rfl rfl ?_)|(refine wh_done rfl ?_)|(refine wh_all rfl ?_))|((with_reducible refine sel_rest ?_);first|exact rest_nil rfl|refine rest_cons rfl rfl ?_ ?_)|((with_reducible refine sel_nx ?_);first|refine next_of ?_|refine next_late (by decide +kernel) ?_)|(refine auP ?_)|((refine auR ?_);clear hK K)|(refine auR ?_)|((with_reducible refine hK _ _ ?_);clear hK K)|fail)
 rename_i n1 hn1 n2 hn2
 have e0:outB t.h 0=List.replicate 32 0:=rfl
 refine wc_loop (σ:=Nat) (fun i=>[(2,ptr n2),(3,ptr n),(12,.agg (iw t.h)),(13,.int .i64 (i:Int))])
  (fun i=>[(n,(bys (outB t.h i),23)),(n2,(bys (List.replicate 32 0),23))])
  (fun i=>i≤8) (fun i=>8 - i) 0 (Nat.zero_le _) (Fits.of ⟨rfl,rfl,rfl,rfl,trivial⟩ (by rw [e0];exact .keep (.keep .nil)) rfl) ?_
 intro i hi
 haveI:NBy (outB t.h i) 32:=⟨outB_len t.h q1 hi⟩
 by_cases hlt:i<8
 ·have t1:decide ((i:Int)<8)=true:=decide_eq_true (by omega)
  have k1:IntKind.i64.wrap ((i:Int)+1)=((i+1:Nat):Int):=by rw [wrap_i64 _ (by omega) (by omega)];omega
  have k4:IntKind.i64.wrap (4 * (i:Int))=((4 * i:Nat):Int):=by rw [wrap_i64 _ (by omega) (by omega)];omega
  have k5:IntKind.i64.wrap (((4 * i:Nat):Int)+1)=((4 * i+1:Nat):Int):=by rw [wrap_i64 _ (by omega) (by omega)];omega
  have k6:IntKind.i64.wrap (((4 * i:Nat):Int)+2)=((4 * i+2:Nat):Int):=by rw [wrap_i64 _ (by omega) (by omega)];omega
  have k7:IntKind.i64.wrap (((4 * i:Nat):Int)+3)=((4 * i+3:Nat):Int):=by rw [wrap_i64 _ (by omega) (by omega)];omega
  have j0:(i:Int)<((8:Nat):Int):=by omega
  have j1:((4 * i:Nat):Int)<((32:Nat):Int):=by omega
  have j2:((4 * i+1:Nat):Int)<((32:Nat):Int):=by omega
  have j3:((4 * i+2:Nat):Int)<((32:Nat):Int):=by omega
  have j4:((4 * i+3:Nat):Int)<((32:Nat):Int):=by omega
  have g:(iw t.h)[((i:Nat):Int).toNat]? = some (.int .u32 (t.h.getD i 0)):=iw_get (l:=t.h) (i:=i) (by omega)
  have hst:=fun a b c d=>outB_step t.h q1 hlt (a:=a) (b:=b) (c:=c) (d:=d)
  generalize t.h.getD i 0=x at *
  have s24:x / 2 ^ (min ((24:Int).toNat) IntKind.u32.bits)=x / 16777216:=rfl
  have s16:x / 2 ^ (min ((16:Int).toNat) IntKind.u32.bits)=x / 65536:=rfl
  have s8:x / 2 ^ (min ((8:Int).toNat) IntKind.u32.bits)=x / 256:=rfl
  obtain ⟨a,ha⟩:∃ a:Nat,IntKind.u8.wrap (x / 16777216)=(a:Int):=⟨_,(Int.toNat_of_nonneg (by rw [wrap8];omega)).symm⟩
  obtain ⟨b,hb⟩:∃ a:Nat,IntKind.u8.wrap (x / 65536)=(a:Int):=⟨_,(Int.toNat_of_nonneg (by rw [wrap8];omega)).symm⟩
  obtain ⟨c,hc⟩:∃ a:Nat,IntKind.u8.wrap (x / 256)=(a:Int):=⟨_,(Int.toNat_of_nonneg (by rw [wrap8];omega)).symm⟩
  obtain ⟨d,hd⟩:∃ a:Nat,IntKind.u8.wrap x=(a:Int):=⟨_,(Int.toNat_of_nonneg (by rw [wrap8];omega)).symm⟩
  replace hst:=hst a b c d (by rw [by4,ha,hb,hc,hd];rfl)
  clear hi
  repeat' (first|(refine wlS ?_)|(refine wlB ?_)|(refine efBnn ?_;intro n hn)|(refine efB ?_)|(refine efBS ?_)|(refine wl_skip rfl rfl ?_)|(refine wdS ?_)|(refine wdV ?_)|(refine wdB ?_)|(refine wdE ?_)|(refine wdT ?_)|(refine wdTO ?_)|(refine wd_skip rfl rfl ?_)|((with_reducible refine seld_nil ?_);refine wd_nil hm0 ?_;clear hm0 hw0)|((with_reducible refine wc_seq ?_);intro K hK)|(refine auC ?_)|(refine wc_cond rfl (fun hc=>?_) (fun hc=>?_))|(refine wc_draw (by kernel_rfl) (by kernel_rfl) (by decide +kernel) ?_;intro w0 hw0 hm0;(try simp only [List.append_eq,List.cons_append,List.nil_append]))|(refine auP ?_)|((refine auR ?_);clear hK K)|(refine auR ?_)|((with_reducible refine hK _ _ ?_);clear hK K)|fail)
  exact ⟨i+1,hlt,by omega,Fits.of ⟨rfl,rfl,rfl,rfl,trivial⟩ (by rw [←hst];exact SubL.refl _) rfl⟩
 ·obtain rfl:i=8:=by omega
  have t1:decide (((8:Nat):Int)<8)=false:=by decide
  repeat' (first|(refine wlS ?_)|(refine wlB ?_)|(refine efBnn ?_;intro n hn)|(refine efB ?_)|(refine efBS ?_)|(refine wl_skip rfl rfl ?_)|(refine wdS ?_)|(refine wdV ?_)|(refine wdB ?_)|(refine wdE ?_)|(refine wdT ?_)|(refine wdTO ?_)|(refine wd_skip rfl rfl ?_)|((with_reducible refine seld_nil ?_);refine wd_nil hm0 ?_;clear hm0 hw0)|((with_reducible refine wc_seq ?_);intro K hK)|(refine auC ?_)|(refine wc_cond rfl (fun hc=>?_) (fun hc=>?_))|(refine wc_draw (by kernel_rfl) (by kernel_rfl) (by decide +kernel) ?_;intro w0 hw0 hm0;(try simp only [List.append_eq,List.cons_append,List.nil_append]))|(refine auP ?_)|((refine auR ?_);clear hK K)|(refine auR ?_)|((with_reducible refine hK _ _ ?_);clear hK K)|fail)
  first|refine end_ret (ResP.cell rfl ld_whole ResP.nil) ?_|refine end_normal (ResP.cell rfl ld_whole ResP.nil) ?_
  first|rfl|(show _=_;rfl)|(simp only [tupV, *];done)
end Go.Proofs.YthigacbelefadaaDoor
namespace Go.Proofs.YthigacbelefadaaDoor
open Go.RowKit
def U (x:Int):Prop:=0≤x∧x<18446744073709551616
def limb (n i:Nat):Int:=((n / 2 ^ (64 * i) % 18446744073709551616:Nat):Int)
abbrev num (n:Nat):Value:=.agg #[.int .u64 (limb n 0),.int .u64 (limb n 1),.int .u64 (limb n 2),.int .u64 (limb n 3)]
abbrev wide (n:Nat):Value:=.agg #[.int .u64 (limb n 0),.int .u64 (limb n 1),.int .u64 (limb n 2),.int .u64 (limb n 3),.int .u64 (limb n 4),.int .u64 (limb n 5),.int .u64 (limb n 6),.int .u64 (limb n 7)]
def T256:Nat:=115792089237316195423570985008687907853269984665640564039457584007913129639936
class SmT (a:Nat):Prop where
 out:a<T256
def T512:Nat:=T256 * T256
theorem T256_eq:T256=2 ^ 256:=by decide +kernel
theorem T512_eq:T512=2 ^ 512:=by decide +kernel
theorem limb_U (n i:Nat):U (limb n i):=by
 unfold limb U
 have:=Nat.mod_lt (n / 2 ^ (64 * i)) (show 0<18446744073709551616 by omega)
 omega
theorem limb_nonneg (n i:Nat):0≤limb n i:=(limb_U n i).1
def sumLo (x y c:Int):Int:=(x+y+c) % 18446744073709551616
def sumHi (x y c:Int):Int:=(x+y+c) / 18446744073709551616
def subLo (x y c:Int):Int:=(x - y - c) % 18446744073709551616
def subHi (x y c:Int):Int:=if x<y+c then 1 else 0
theorem sumHi_bd {x y c:Int}(hx:U x)(hy:U y)(h0:0≤c)(h1:c≤1):0≤sumHi x y c∧sumHi x y c≤1:=by
 unfold sumHi U at *;omega
theorem subHi_bd (x y c:Int):0≤subHi x y c∧subHi x y c≤1:=by
 unfold subHi;split <;> omega
def four (a0 a1 a2 a3:Nat):Nat:=a0+18446744073709551616 * a1+340282366920938463463374607431768211456 * a2+6277101735386680763835789423207666416102355444464034512896 * a3
theorem limb0 (n:Nat):limb n 0=((n % 18446744073709551616:Nat):Int):=by unfold limb;simp
theorem limb1 (n:Nat):limb n 1=((n / 18446744073709551616 % 18446744073709551616:Nat):Int):=by unfold limb;simp
theorem limb2 (n:Nat):limb n 2=((n / 340282366920938463463374607431768211456 % 18446744073709551616:Nat):Int):=by unfold limb;simp
theorem limb3 (n:Nat):limb n 3=((n / 6277101735386680763835789423207666416102355444464034512896 % 18446744073709551616:Nat):Int):=by unfold limb;simp
theorem limb4 (n:Nat):limb n 4=((n / T256 % 18446744073709551616:Nat):Int):=by unfold limb T256;simp
theorem limb_shift4 (n i:Nat):limb n (i+4)=limb (n / T256) i:=by
 unfold limb
 rw [Nat.div_div_eq_div_mul,T256_eq,←Nat.pow_add,show 64 * (i+4)=256+64 * i by omega]
theorem limb_four (a0 a1 a2 a3:Nat)(h0:a0<18446744073709551616)(h1:a1<18446744073709551616)(h2:a2<18446744073709551616)(h3:a3<18446744073709551616) :
  limb (four a0 a1 a2 a3) 0=a0∧limb (four a0 a1 a2 a3) 1=a1∧limb (four a0 a1 a2 a3) 2=a2∧limb (four a0 a1 a2 a3) 3=a3:=by
 rw [limb0,limb1,limb2,limb3];unfold four
 refine ⟨?_,?_,?_,?_⟩ <;> (congr 1;omega)
theorem four_lt (a0 a1 a2 a3:Nat)(h0:a0<18446744073709551616)(h1:a1<18446744073709551616)(h2:a2<18446744073709551616)(h3:a3<18446744073709551616):four a0 a1 a2 a3<T256:=by
 unfold four T256;omega
theorem four_of (n:Nat)(h:n<T256):∃ a0 a1 a2 a3,a0<18446744073709551616∧a1<18446744073709551616∧a2<18446744073709551616∧a3<18446744073709551616∧n=four a0 a1 a2 a3:=by
 refine ⟨n % 18446744073709551616,n / 18446744073709551616 % 18446744073709551616,n / 340282366920938463463374607431768211456 % 18446744073709551616,n / 6277101735386680763835789423207666416102355444464034512896 % 18446744073709551616,?_,?_,?_,?_,?_⟩
 all_goals unfold T256 at h
 all_goals first|omega|(unfold four;omega)
theorem num_of (x0 x1 x2 x3:Int)(h0:U x0)(h1:U x1)(h2:U x2)(h3:U x3):∃ n,n<T256∧x0=limb n 0∧x1=limb n 1∧x2=limb n 2∧x3=limb n 3:=by
 obtain ⟨a0,rfl⟩:=Int.eq_ofNat_of_zero_le h0.1
 obtain ⟨a1,rfl⟩:=Int.eq_ofNat_of_zero_le h1.1
 obtain ⟨a2,rfl⟩:=Int.eq_ofNat_of_zero_le h2.1
 obtain ⟨a3,rfl⟩:=Int.eq_ofNat_of_zero_le h3.1
 unfold U at *
 have k:=limb_four a0 a1 a2 a3 (by omega) (by omega) (by omega) (by omega)
 exact ⟨four a0 a1 a2 a3,four_lt _ _ _ _ (by omega) (by omega) (by omega) (by omega),k.1.symm,k.2.1.symm,k.2.2.1.symm,k.2.2.2.symm⟩
theorem num_inj {a b:Nat}(ha:a<T256)(hb:b<T256)(h0:limb a 0=limb b 0)(h1:limb a 1=limb b 1)(h2:limb a 2=limb b 2)(h3:limb a 3=limb b 3):a=b:=by
 obtain ⟨a0,a1,a2,a3,k0,k1,k2,k3,rfl⟩:=four_of a ha
 obtain ⟨b0,b1,b2,b3,l0,l1,l2,l3,rfl⟩:=four_of b hb
 have k:=limb_four a0 a1 a2 a3 k0 k1 k2 k3
 have l:=limb_four b0 b1 b2 b3 l0 l1 l2 l3
 rw [k.1,l.1] at h0;rw [k.2.1,l.2.1] at h1;rw [k.2.2.1,l.2.2.1] at h2;rw [k.2.2.2,l.2.2.2] at h3
 obtain rfl:=Int.ofNat.inj h0;obtain rfl:=Int.ofNat.inj h1;obtain rfl:=Int.ofNat.inj h2;obtain rfl:=Int.ofNat.inj h3
 rfl
theorem limb_lo (n m i:Nat)(hi:i<4):limb (n % T256+T256 * m) i=limb n i:=by
 unfold limb
 congr 1
 rw [T256_eq]
 have e:2 ^ 256=2 ^ (64 * i) * (18446744073709551616 * 2 ^ (192 - 64 * i)):=by
  rw [show (18446744073709551616:Nat)=2 ^ 64 by decide,←Nat.pow_add,←Nat.pow_add];congr 1;omega
 have h1:(n % 2 ^ 256+2 ^ 256 * m) / 2 ^ (64 * i)=n % 2 ^ 256 / 2 ^ (64 * i)+18446744073709551616 * (2 ^ (192 - 64 * i) * m):=by
  rw [show 2 ^ 256 * m=2 ^ (64 * i) * (18446744073709551616 * (2 ^ (192 - 64 * i) * m)) by conv=>lhs;rw [e];simp only [Nat.mul_assoc],Nat.add_mul_div_left _ _ (Nat.two_pow_pos _)]
 rw [h1,Nat.add_mul_mod_self_left]
 conv=>lhs;rw [e,Nat.mod_mul_right_div_self]
 rw [Nat.mod_mul_right_mod]
theorem limb_hi (n m i:Nat)(hn:n<T256):limb (n+T256 * m) (i+4)=limb m i:=by
 rw [limb_shift4,Nat.add_mul_div_left _ _ (by unfold T256;omega),Nat.div_eq_of_lt hn,Nat.zero_add]
theorem limb_two (n m:Nat)(hn:n<T256):limb (n+T256 * m) 0=limb n 0∧limb (n+T256 * m) 1=limb n 1∧limb (n+T256 * m) 2=limb n 2∧limb (n+T256 * m) 3=limb n 3∧
  limb (n+T256 * m) 4=limb m 0∧limb (n+T256 * m) 5=limb m 1∧limb (n+T256 * m) 6=limb m 2∧limb (n+T256 * m) 7=limb m 3:=by
 have a:=limb_lo n m 0 (by omega)
 have b:=limb_lo n m 1 (by omega)
 have c:=limb_lo n m 2 (by omega)
 have d:=limb_lo n m 3 (by omega)
 rw [Nat.mod_eq_of_lt hn] at a b c d
 exact ⟨a,b,c,d,limb_hi n m 0 hn,limb_hi n m 1 hn,limb_hi n m 2 hn,limb_hi n m 3 hn⟩
theorem two_lt (n m:Nat)(hn:n<T256)(hm:m<T256):n+T256 * m<T512:=by
 have:T256 * (m+1)≤T256 * T256:=Nat.mul_le_mul_left _ hm
 unfold T512
 rw [Nat.mul_add] at this
 omega
theorem add_sub_back {T a b s c d t:Nat}(ha:a<T)(hb:b<T)(h1:Hid (s=(a+b) % T∧c=(a+b) / T))(h2:Hid (d=(s+T - b) % T∧t=if s<b then 1 else 0)):d=a∧t=c:=by
 have ⟨e1,e2⟩:=h1.out
 have ⟨e3,e4⟩:=h2.out
 clear h1 h2
 have z:0<T:=by omega
 by_cases h:a+b<T
 ·rw [Nat.mod_eq_of_lt h] at e1;rw [Nat.div_eq_of_lt h] at e2
  subst e1 e2
  rw [if_neg (by omega)] at e4
  rw [show a+b+T - b=a+T by omega,Nat.add_mod_right,Nat.mod_eq_of_lt ha] at e3
  exact ⟨e3,e4⟩
 ·have k:(a+b)=(a+b - T)+T * 1:=by omega
  rw [k,Nat.add_mul_mod_self_left,Nat.mod_eq_of_lt (by omega)] at e1
  rw [k,Nat.add_mul_div_left _ _ z,Nat.div_eq_of_lt (by omega)] at e2
  subst e1 e2
  rw [if_pos (by omega)] at e4
  rw [show a+b - T+T - b=a by omega,Nat.mod_eq_of_lt ha] at e3
  exact ⟨e3,by omega⟩
theorem sub_add_back {T a b s c d t:Nat}(ha:a<T)(hb:b<T)(h1:Hid (s=(a+T - b) % T∧c=if a<b then 1 else 0))(h2:Hid (d=(s+b) % T∧t=(s+b) / T)):d=a∧t=c:=by
 have ⟨e1,e2⟩:=h1.out
 have ⟨e3,e4⟩:=h2.out
 clear h1 h2
 have z:0<T:=by omega
 by_cases h:a<b
 ·rw [Nat.mod_eq_of_lt (by omega)] at e1;rw [if_pos h] at e2
  subst e1 e2
  rw [show a+T - b+b=a+T * 1 by omega] at e3 e4
  rw [Nat.add_mul_mod_self_left,Nat.mod_eq_of_lt ha] at e3
  rw [Nat.add_mul_div_left _ _ z,Nat.div_eq_of_lt ha] at e4
  exact ⟨e3,by omega⟩
 ·rw [show a+T - b=a - b+T by omega,Nat.add_mod_right,Nat.mod_eq_of_lt (by omega)] at e1;rw [if_neg h] at e2
  subst e1 e2
  rw [show a - b+b=a by omega] at e3 e4
  rw [Nat.mod_eq_of_lt ha] at e3
  rw [Nat.div_eq_of_lt ha] at e4
  exact ⟨e3,e4⟩
theorem add_law (a b:Nat)(ha:a<T256)(hb:b<T256)(c0 c1 c2:Int)(e0:c0=sumHi (limb a 0) (limb b 0) 0)(e1:c1=sumHi (limb a 1) (limb b 1) c0)(e2:c2=sumHi (limb a 2) (limb b 2) c1) :
  limb ((a+b) % T256) 0=sumLo (limb a 0) (limb b 0) 0∧limb ((a+b) % T256) 1=sumLo (limb a 1) (limb b 1) c0∧limb ((a+b) % T256) 2=sumLo (limb a 2) (limb b 2) c1∧
  limb ((a+b) % T256) 3=sumLo (limb a 3) (limb b 3) c2∧(((a+b) / T256:Nat):Int)=sumHi (limb a 3) (limb b 3) c2:=by
 obtain ⟨a0,a1,a2,a3,k0,k1,k2,k3,rfl⟩:=four_of a ha
 obtain ⟨b0,b1,b2,b3,l0,l1,l2,l3,rfl⟩:=four_of b hb
 have k:=limb_four a0 a1 a2 a3 k0 k1 k2 k3
 have l:=limb_four b0 b1 b2 b3 l0 l1 l2 l3
 rw [k.1,l.1] at e0;rw [k.2.1,l.2.1] at e1;rw [k.2.2.1,l.2.2.1] at e2;rw [k.1,l.1,k.2.1,l.2.1,k.2.2.1,l.2.2.1,k.2.2.2,l.2.2.2]
 clear k l
 obtain ⟨s0,t0,hs0,hs0',ht0⟩:∃ s t:Nat,a0+b0=s+18446744073709551616 * t∧s<18446744073709551616∧t≤1:=⟨(a0+b0) % 18446744073709551616,(a0+b0) / 18446744073709551616,by omega,by omega,by omega⟩
 obtain ⟨s1,t1,hs1,hs1',ht1⟩:∃ s t:Nat,a1+b1+t0=s+18446744073709551616 * t∧s<18446744073709551616∧t≤1:=⟨(a1+b1+t0) % 18446744073709551616,(a1+b1+t0) / 18446744073709551616,by omega,by omega,by omega⟩
 obtain ⟨s2,t2,hs2,hs2',ht2⟩:∃ s t:Nat,a2+b2+t1=s+18446744073709551616 * t∧s<18446744073709551616∧t≤1:=⟨(a2+b2+t1) % 18446744073709551616,(a2+b2+t1) / 18446744073709551616,by omega,by omega,by omega⟩
 obtain ⟨s3,t3,hs3,hs3',ht3⟩:∃ s t:Nat,a3+b3+t2=s+18446744073709551616 * t∧s<18446744073709551616∧t≤1:=⟨(a3+b3+t2) % 18446744073709551616,(a3+b3+t2) / 18446744073709551616,by omega,by omega,by omega⟩
 have hsum:four a0 a1 a2 a3+four b0 b1 b2 b3=four s0 s1 s2 s3+T256 * t3:=by unfold four T256;omega
 have hlt:=four_lt s0 s1 s2 s3 hs0' hs1' hs2' hs3'
 have hm:(four a0 a1 a2 a3+four b0 b1 b2 b3) % T256=four s0 s1 s2 s3:=by rw [hsum,Nat.add_mul_mod_self_left,Nat.mod_eq_of_lt hlt]
 have hd:(four a0 a1 a2 a3+four b0 b1 b2 b3) / T256=t3:=by
  rw [hsum,Nat.add_mul_div_left _ _ (by unfold T256;omega),Nat.div_eq_of_lt hlt];omega
 rw [hm,hd]
 have m:=limb_four s0 s1 s2 s3 hs0' hs1' hs2' hs3'
 rw [m.1,m.2.1,m.2.2.1,m.2.2.2]
 unfold sumHi at e0;obtain rfl:c0=(t0:Int):=by omega
 unfold sumHi at e1;obtain rfl:c1=(t1:Int):=by omega
 unfold sumHi at e2;obtain rfl:c2=(t2:Int):=by omega
 unfold sumLo sumHi
 omega
theorem sub_law (a b:Nat)(ha:a<T256)(hb:b<T256)(c0 c1 c2:Int)(e0:c0=subHi (limb a 0) (limb b 0) 0)(e1:c1=subHi (limb a 1) (limb b 1) c0)(e2:c2=subHi (limb a 2) (limb b 2) c1) :
  limb ((a+T256 - b) % T256) 0=subLo (limb a 0) (limb b 0) 0∧limb ((a+T256 - b) % T256) 1=subLo (limb a 1) (limb b 1) c0∧limb ((a+T256 - b) % T256) 2=subLo (limb a 2) (limb b 2) c1∧
  limb ((a+T256 - b) % T256) 3=subLo (limb a 3) (limb b 3) c2∧(if a<b then 1 else 0:Int)=subHi (limb a 3) (limb b 3) c2:=by
 obtain ⟨a0,a1,a2,a3,k0,k1,k2,k3,rfl⟩:=four_of a ha
 obtain ⟨b0,b1,b2,b3,l0,l1,l2,l3,rfl⟩:=four_of b hb
 have k:=limb_four a0 a1 a2 a3 k0 k1 k2 k3
 have l:=limb_four b0 b1 b2 b3 l0 l1 l2 l3
 rw [k.1,l.1] at e0;rw [k.2.1,l.2.1] at e1;rw [k.2.2.1,l.2.2.1] at e2;rw [k.1,l.1,k.2.1,l.2.1,k.2.2.1,l.2.2.1,k.2.2.2,l.2.2.2]
 clear k l
 have step:∀ x y c:Nat,x<18446744073709551616→y<18446744073709551616→c≤1→∃ s t:Nat,x+18446744073709551616 * t=s+y+c∧s<18446744073709551616∧t≤1∧subLo x y c=s∧subHi x y c=t:=by
  intro x y c hx hy hc
  unfold subLo subHi
  by_cases h:x<y+c
  ·exact ⟨x+18446744073709551616 - y - c,1,by omega,by omega,by omega,by omega,by rw [if_pos (by omega)];rfl⟩
  ·exact ⟨x - y - c,0,by omega,by omega,by omega,by omega,by rw [if_neg (by omega)];rfl⟩
 obtain ⟨s0,t0,hs0,hs0',ht0,m0,n0⟩:=step a0 b0 0 k0 l0 (by omega)
 obtain ⟨s1,t1,hs1,hs1',ht1,m1,n1⟩:=step a1 b1 t0 k1 l1 ht0
 obtain ⟨s2,t2,hs2,hs2',ht2,m2,n2⟩:=step a2 b2 t1 k2 l2 ht1
 obtain ⟨s3,t3,hs3,hs3',ht3,m3,n3⟩:=step a3 b3 t2 k3 l3 ht2
 clear step
 have e0':c0=(t0:Int):=e0.trans n0
 subst e0'
 have e1':c1=(t1:Int):=e1.trans n1
 subst e1'
 have e2':c2=(t2:Int):=e2.trans n2
 subst e2'
 clear e0 e1 e2 n0 n1 n2
 have z:((0:Nat):Int)=0:=rfl
 rw [z] at m0
 rw [m0,m1,m2,m3,n3]
 have hsum:four a0 a1 a2 a3+T256 * t3=four s0 s1 s2 s3+four b0 b1 b2 b3:=by unfold four T256;omega
 have hlt:=four_lt s0 s1 s2 s3 hs0' hs1' hs2' hs3'
 have hm:(four a0 a1 a2 a3+T256 - four b0 b1 b2 b3) % T256=four s0 s1 s2 s3:=by
  have:t3=0∨t3=1:=by omega
  rcases this with rfl|rfl
  ·rw [show four a0 a1 a2 a3+T256 - four b0 b1 b2 b3=four s0 s1 s2 s3+T256 * 1 by omega,Nat.add_mul_mod_self_left,Nat.mod_eq_of_lt hlt]
  ·rw [show four a0 a1 a2 a3+T256 - four b0 b1 b2 b3=four s0 s1 s2 s3 by omega,Nat.mod_eq_of_lt hlt]
 rw [hm]
 have m:=limb_four s0 s1 s2 s3 hs0' hs1' hs2' hs3'
 rw [m.1,m.2.1,m.2.2.1,m.2.2.2]
 refine ⟨rfl,rfl,rfl,rfl,?_⟩
 have:t3=0∨t3=1:=by omega
 rcases this with rfl|rfl
 ·rw [if_neg (by omega)];rfl
 ·rw [if_pos (by omega)];rfl
end Go.Proofs.YthigacbelefadaaDoor
namespace Go.Proofs.YthigacbelefadaaDoor
open Go.RowKit Go.ChangeShapes Go.WideShapes Go.ChangeAt
section
variable {H:Type}{enc:TypeId×Value→H}{P:Program}{w:World}{base:Nat}{spare:Nat→Bool}{held:Bool}
theorem okWide_array {t e:TypeId}{n:Nat}{r:Reach}{b0:Nat}{v:Value}(ht:P.underlying t=some (.array n e))(h:Value.okWide P w r b0 t v):∃ cs,v=.agg cs∧cs.size=P.cellsOf t:=by
 simp only [Value.okWide,ht] at h
 obtain ⟨cs,h1,h2,_⟩:=h
 exact ⟨cs,h1,h2⟩
def intAt (cs:List Value)(i:Nat):Int:=match cs[i]? with|some (.int _ z)=>z|_=>0
theorem cells_ints {t e:TypeId}{n:Nat}{k:IntKind}{cs:List Value}{fuel:Nat}{x:DataW H×List MemPlace}(ht:P.underlying t=some (.array n e))(he:P.underlying e=some (.int k))(hce:P.cellsOf e=1)(hct:P.cellsOf t=n)
  (h:DataW.trod enc P w base spare held fuel t cs=some x):∃ zs:List Int,zs.length=n∧cs=zs.map (Value.int k)∧∀ z∈zs,(Lit.int k z).wf=true:=by
 obtain ⟨xs,m,_,_,hl,hx,hf⟩:=DataW.trod_array ht h
 rw [hct] at hl
 have key:∀ i,i<n→∃ z,cs[i]? = some (.int k z)∧(Lit.int k z).wf=true:=by
  intro i hi
  have:=hf i hi
  rw [hce,Nat.mul_one,List.getElem?_eq_getElem (by omega)] at this
  obtain ⟨z,hc,_,hz⟩:=DataW.trod_int he this
  refine ⟨z,?_,hz⟩
  have:=congrArg (·[0]?) hc
  simpa [List.getElem?_take,List.getElem?_drop] using this
 refine ⟨(List.range n).map (intAt cs),by simp,?_,?_⟩
 ·apply List.ext_getElem?
  intro i
  by_cases hi:i<n
  ·obtain ⟨z,hz,_⟩:=key i hi
   simp [hi,intAt,hz]
  ·simp only [List.map_map,List.getElem?_map]
   rw [List.getElem?_eq_none (by omega),List.getElem?_eq_none (by simp;omega)]
   rfl
 ·intro z hz
  obtain ⟨i,hi,rfl⟩:=List.mem_map.1 hz
  obtain ⟨z,hz,hw⟩:=key i (List.mem_range.1 hi)
  simpa [intAt,hz] using hw
theorem open_array {t e:TypeId}{n:Nat}{k:IntKind}{r:Reach}{b0:Nat}{v:Value}{d:DataW H}{p:List MemPlace}(ht:P.underlying t=some (.array n e))(he:P.underlying e=some (.int k))(hce:P.cellsOf e=1)(hct:P.cellsOf t=n)
  (hv:Value.okWide P w r b0 t v) (h:DataW.Trod enc P w base spare held t v d p):∃ zs:List Int,zs.length=n∧v=.agg (zs.map (Value.int k)).toArray∧∀ z∈zs,(Lit.int k z).wf=true:=by
 obtain ⟨cs,rfl,_⟩:=okWide_array ht hv
 obtain ⟨fuel,hf⟩:=h
 obtain ⟨zs,h1,h2,h3⟩:=cells_ints ht he hce hct (cs:=cs.toList) (by simpa [Value.cells] using hf)
 refine ⟨zs,h1,?_,h3⟩
 rw [←h2]
theorem wf_U {z:Int}(h:(Lit.int .u64 z).wf=true):U z:=by
 simp [Lit.wf,IntKind.min,IntKind.max,IntKind.signed,IntKind.bits] at h
 exact ⟨h.1,by omega⟩
theorem len4 {α:Type}{l:List α}(h:l.length=4):∃ a b c d,l=[a,b,c,d]:=by
 match l,h with | [a,b,c,d],_=>exact ⟨a,b,c,d,rfl⟩
theorem len8 {α:Type}{l:List α}(h:l.length=8):∃ a b c d e f g i,l=[a,b,c,d,e,f,g,i]:=by
 match l,h with | [a,b,c,d,e,f,g,i],_=>exact ⟨a,b,c,d,e,f,g,i,rfl⟩
theorem num_list {zs:List Int}(hl:zs.length=4)(hz:∀ z∈zs,(Lit.int .u64 z).wf=true):∃ n,n<T256∧Value.agg (zs.map (Value.int .u64)).toArray=num n:=by
 obtain ⟨a,b,c,d,rfl⟩:=len4 hl
 obtain ⟨n,hn,h0,h1,h2,h3⟩:=num_of a b c d (wf_U (hz a (by simp))) (wf_U (hz b (by simp))) (wf_U (hz c (by simp))) (wf_U (hz d (by simp)))
 refine ⟨n,hn,?_⟩
 rw [h0,h1,h2,h3]
 rfl
theorem wide_list {zs:List Int}(hl:zs.length=8)(hz:∀ z∈zs,(Lit.int .u64 z).wf=true):∃ n,n<T512∧Value.agg (zs.map (Value.int .u64)).toArray=wide n:=by
 obtain ⟨a,b,c,d,e,f,g,i,rfl⟩:=len8 hl
 obtain ⟨n,hn,h0,h1,h2,h3⟩:=num_of a b c d (wf_U (hz a (by simp))) (wf_U (hz b (by simp))) (wf_U (hz c (by simp))) (wf_U (hz d (by simp)))
 obtain ⟨m,hm,k0,k1,k2,k3⟩:=num_of e f g i (wf_U (hz e (by simp))) (wf_U (hz f (by simp))) (wf_U (hz g (by simp))) (wf_U (hz i (by simp)))
 have s:=limb_two n m hn
 refine ⟨n+T256 * m,two_lt n m hn hm,?_⟩
 rw [h0,h1,h2,h3,k0,k1,k2,k3]
 simp only [wide,s.1,s.2.1,s.2.2.1,s.2.2.2.1,s.2.2.2.2.1,s.2.2.2.2.2.1,s.2.2.2.2.2.2.1,s.2.2.2.2.2.2.2]
 rfl
theorem open_num {t e:TypeId}{r:Reach}{b0:Nat}{v:Value}{d:DataW H}{p:List MemPlace}(ht:P.underlying t=some (.array 4 e))(he:P.underlying e=some (.int .u64))(hce:P.cellsOf e=1)(hct:P.cellsOf t=4)
  (hv:Value.okWide P w r b0 t v) (h:DataW.Trod enc P w base spare held t v d p):∃ n,n<T256∧v=num n:=by
 obtain ⟨zs,hl,rfl,hz⟩:=open_array ht he hce hct hv h
 exact num_list hl hz
theorem open_wide {t e:TypeId}{r:Reach}{b0:Nat}{v:Value}{d:DataW H}{p:List MemPlace}(ht:P.underlying t=some (.array 8 e))(he:P.underlying e=some (.int .u64))(hce:P.cellsOf e=1)(hct:P.cellsOf t=8)
  (hv:Value.okWide P w r b0 t v) (h:DataW.Trod enc P w base spare held t v d p):∃ n,n<T512∧v=wide n:=by
 obtain ⟨zs,hl,rfl,hz⟩:=open_array ht he hce hct hv h
 exact wide_list hl hz
end
end Go.Proofs.YthigacbelefadaaDoor
namespace Go.Proofs.YthigacbelefadaaDoor
open Go.RowKit
set_option linter.unusedVariables false
set_option maxRecDepth 100000
set_option linter.unusedSimpArgs false
instance {p:List Nat}:NBy (dig p) 32:=⟨dig_len p⟩
instance:HSo newH:=⟨newH_ok⟩
theorem bys_Z (p:List Nat):bys p=((p.map fun k:Nat=>(k:Int)).map (Value.int .u8)).toArray:=by simp [bys,bl]
theorem eql_bys {a b:List Nat}(ha:a.length=32)(hb:b.length=32){r:Bool}(hr:(a == b)=r)(w:World) :
  (Op.equalIn 10000 23 (.agg (bys a)) (.agg (bys b))).run Tryd.prog w=.ok r w:=by
 have h:=eql_ints (P:=Tryd.prog) (t:=23) (e:=5) (k:=.u8) (k':=.u8) w 9998 32 (a.map fun k:Nat=>(k:Int)) (b.map fun k:Nat=>(k:Int)) (by kernel_rfl) (by kernel_rfl) (by kernel_rfl) (by kernel_rfl) (by kernel_rfl) (by simp [ha]) (by simp [hb])
 rw [←bys_Z,←bys_Z] at h
 rw [←hr]
 have e:((a.map fun k:Nat=>(k:Int)) == (b.map fun k:Nat=>(k:Int)))=(a == b):=by
  rw [Bool.eq_iff_iff,beq_iff_eq,beq_iff_eq]
  constructor
  ·intro h
   exact (List.map_inj_right (fun x y h=>Int.ofNat.inj h)).1 h
  ·intro h;rw [h]
 rw [e] at h
 exact h
set_option maxRecDepth 100000 in
set_option maxHeartbeats 4000000 in
theorem dig_c (w:World)(hT:Tab w){v:Value}{m:Nat}{p:List Nat}(hp:Cb w v m p):Calls Tryd.prog 61 [v].toArray w (Ret (.agg (bys (dig p))) w):=by
 haveI:=hp.old
 have N1:=new_c
 have W1:∀ w',Below w.heap.size w w'→Calls Tryd.prog 63 [hv newH,v].toArray w' (Ret (hv (newH.write p)) w'):=fun w' hb=>write_c w' (hT.below hb) newH_ok (hp.below hb)
 have S1:∀ w',Below w.heap.size w w'→Calls Tryd.prog 67 [hv (newH.write p)].toArray w' (Ret (.agg (bys (dig p))) w'):=fun w' hb=>sum_c w' (hT.below hb) (HS.write_ok hp.ok.by' newH_ok)
 clear hp hT
 refine fn_ret (N:=_) Tryd.func61 rfl Tryd.ntmps61 Tryd.results61 (by simp) ?_
 simp only [initS,Nat.reduceAdd,Nat.zero_add]
 repeat' (first|(refine wlS ?_)|(refine wlB ?_)|((with_reducible refine sel_call ?_);refine wl_rd rfl rfl (rd_call rfl rfl rfl (fun w hm=>by with_reducible first|exact N1 w|exact W1 w (hm.below rfl)|exact S1 w (hm.below rfl))) ?_)|(refine wlE ?_)|(refine efSvao ?_;intro v oa ho)|(refine efG ?_)|(refine efGnn ?_;intro n hn)|(refine efZCnn ?_;intro n hn)|(refine efBnn ?_;intro n hn)|(refine efB ?_)|(refine efBS ?_)|(refine wl_skip rfl rfl ?_)|((with_reducible refine wc_seq ?_);intro K hK)|(refine auC ?_)|(refine wc_cond rfl (fun hc=>?_) (fun hc=>?_))|(refine wc_draw (by kernel_rfl) (by kernel_rfl) (by decide +kernel) ?_;intro w0 hw0 hm0;(try simp only [List.append_eq,List.cons_append,List.nil_append]))|(refine auP ?_)|((refine auR ?_);clear hK K)|(refine auR ?_)|((with_reducible refine hK _ _ ?_);clear hK K)|fail)
 first|refine end_ret (ResP.cell rfl ld_whole ResP.nil) ?_|refine end_normal (ResP.cell rfl ld_whole ResP.nil) ?_
 first|rfl|(show _=_;rfl)|(simp only [tupV, *];done)
theorem cb_nil (w:World):Cb w (.slice none 0 0) 0 []:=(CsB.nil).cs.out w (by intro p hp;cases hp) |> fun h=>⟨h,BL.nil⟩
theorem dig_nil0:(dig []).getD 0 0=227:=by decide +kernel
theorem dig_nil31:(dig []).getD 31 0=85:=by decide +kernel
end Go.Proofs.YthigacbelefadaaDoor
namespace Go.Proofs.YthigacbelefadaaDoor
open Go.RowKit
set_option linter.unusedVariables false
set_option maxRecDepth 100000
set_option linter.unusedSimpArgs false
class ByL (p:List Nat):Prop where
 out:∀ x∈p,x<256
instance:ByL []:=⟨by simp⟩
instance {p q:List Nat}[h:ByL p][h':ByL q]:ByL (p++q):=⟨fun x hx=>(List.mem_append.1 hx).elim (h.out x) (h'.out x)⟩
instance {p:List Nat}:ByL (dig p):=⟨by rw [dig,HS.sum];exact sumB_byte _⟩
instance {n:Nat}:ByL (padL n):=⟨padL_byte n⟩
instance {st:HS}:ByL st.sum:=⟨sumB_byte _⟩
instance {st:HS}{p:List Nat}[h:HSo st][h':ByL p]:HSo (st.write p):=⟨HS.write_ok h'.out h.out⟩
theorem sum_len {st:HS}(h:st.ok):st.sum.length=32:=by
 have:∀ (q:List Nat) (s:HS),s.h.length=8→(s.write q).h.length=8:=fun q=>by
  induction q with
  | nil=>intro s h;exact h
  | cons b r ih=>
   intro s h
   refine ih (s.put b) ?_
   simp only [HS.put]
   split
   ·rw [pressI,addsI_len,h]
   ·exact h
 rw [HS.sum,sumB_len,this _ _ h.1]
instance {st:HS}[h:HSo st]:NBy st.sum 32:=⟨sum_len h.out⟩
theorem write_g (w:World)(hT:Tab w)(w':World)(hb:Below w.heap.size w w'){st:HS}[h:HSo st]{v:Value}{n:Nat}{p:List Nat}(hq:Cb w' v n p) :
  Calls Tryd.prog 63 [hv st,v].toArray w' (Ret (hv (st.write p)) w'):=write_c w' (hT.below hb) h.out hq
theorem sum_g (w:World)(hT:Tab w)(w':World)(hb:Below w.heap.size w w'){st:HS}[h:HSo st] :
  Calls Tryd.prog 67 [hv st].toArray w' (Ret (.agg (bys st.sum)) w'):=sum_c w' (hT.below hb) h.out
theorem dig_g (w:World)(hT:Tab w)(w':World)(hb:Below w.heap.size w w'){v:Value}{n:Nat}{p:List Nat}(hq:Cb w' v n p) :
  Calls Tryd.prog 61 [v].toArray w' (Ret (.agg (bys (dig p))) w'):=dig_c w' (hT.below hb) hq
end Go.Proofs.YthigacbelefadaaDoor
namespace Go.Proofs.YthigacbelefadaaDoor
def keyL (key:List Nat):List Nat:=(if key.length>64 then dig key else key)++List.replicate (64 - (if key.length>64 then dig key else key).length) 0
def xorL (k:List Nat)(c:Nat):List Nat:=k.map fun b=>Nat.xor b c
structure MS where
 inner:HS
 outer:HS
def newM (key:List Nat):MS:=⟨newH.write (xorL (keyL key) 54),newH.write (xorL (keyL key) 92)⟩
def MS.write (s:MS)(p:List Nat):MS:=⟨s.inner.write p,s.outer⟩
def MS.sum (s:MS):List Nat:=(s.outer.write s.inner.sum).sum
def mark (key p:List Nat):List Nat:=((newM key).write p).sum
theorem keyL_len (key:List Nat):(keyL key).length=64:=by
 unfold keyL
 have:=dig_len key
 split <;> simp <;> omega
theorem keyL_byte (key:List Nat)(h:∀ x∈key,x<256):∀ x∈keyL key,x<256:=fun x hx=>by
 unfold keyL at hx
 rcases List.mem_append.1 hx with hx|hx
 ·split at hx
  ·rw [dig,HS.sum] at hx
   exact sumB_byte _ x hx
  ·exact h x hx
 ·rw [(List.mem_replicate.1 hx).2];decide
theorem xorL_len (k:List Nat)(c:Nat):(xorL k c).length=k.length:=by simp [xorL]
theorem xorL_byte (k:List Nat){c:Nat}(hc:c<256)(h:∀ x∈k,x<256):∀ x∈xorL k c,x<256:=fun x hx=>by
 obtain ⟨b,hb,rfl⟩:=List.mem_map.1 hx
 exact Nat.xor_lt_two_pow (n:=8) (h b hb) hc
theorem MS.write_app (s:MS)(p q:List Nat):s.write (p++q)=(s.write p).write q:=by simp [MS.write,HS.write_app]
theorem keyL_pad (key:List Nat)(n:Nat)(h:key.length+n≤64):keyL (key++List.replicate n 0)=keyL key:=by
 unfold keyL
 rw [if_neg (by rw [List.length_append,List.length_replicate];omega),if_neg (by omega),List.length_append,List.length_replicate,List.append_assoc,List.replicate_append_replicate]
 congr 2
 omega
theorem keyL_long (key:List Nat)(h:key.length>64):keyL (dig key)=keyL key:=by
 have:=dig_len key
 unfold keyL
 rw [if_neg (by omega),if_pos h]
end Go.Proofs.YthigacbelefadaaDoor
namespace Go.Proofs.YthigacbelefadaaDoor
open Go.RowKit
set_option linter.unusedVariables false
set_option linter.unusedSimpArgs false
theorem At.ex2 {n:Nat}{x:Array Value×TypeId}(y:Array Value×TypeId){l l':Blks}(h:At l n x y l'):∃ pre post,l=pre++((n,x)::post)∧l'=pre++((n,y)::post):=by
 induction h with
 | here=>exact ⟨[],_,rfl,rfl⟩
 | there _ ih=>
  obtain ⟨pre,post,h1,h2⟩:=ih
  exact ⟨_::pre,post,by rw [h1];rfl,by rw [h2];rfl⟩
theorem At.same {n:Nat}{x:Array Value×TypeId}{l l':Blks}(h:At l n x x l'):l'=l:=by
 obtain ⟨pre,post,h1,h2⟩:=At.ex2 x h
 rw [h1,h2]
theorem made_one (z:Value)(n:Nat):(madeCells #[z] n).toList=List.replicate n z:=by
 apply List.ext_getElem
 ·simp [size_madeCells]
 ·intro i h1 h2
  simp [madeCells,Nat.mod_one]
theorem zeros_one (z:Value)(n:Nat):(Builtin.zeroCells #[z] n).toList=List.replicate n z:=by
 apply List.ext_getElem
 ·simp [Builtin.zeroCells]
 ·intro i h1 h2
  simp [Builtin.zeroCells,Nat.mod_one]
theorem bl_rep (n k:Nat):bl (List.replicate n k)=List.replicate n (.int .u8 (k:Int)):=by simp [bl]
section
variable {X:Cx}{s:Slots}{l:Blks}{o:Oper}{v:Value}{Q:Post}{ops:Array Oper}{r:List Oper}
theorem putR_bys (q p:List Nat)(off:Nat):((bys q).toList.take off++bl p++(bys q).toList.drop (off+(bl p).length)).toArray=bys (q.take off++(p++q.drop (off+p.length))):=by
 simp [bys,bl]
theorem wl_copyB {x y:Operand}{t t' e te n cap b off m:Nat}{u:Value}{p q q':List Nat}{l':Blks}{s':Slots}(hg:gd s ops o=some true)(hd:dOk X.N o.dst=true)(hop:o.op=.call {callee:=.builtin .copy,args:=#[x,y],argTypes:=#[t,t']})
  (hx:val s x=some (.slice (some ⟨b,off,none⟩) n cap)) (hy:val s y=some u) [ht:UT X.P t (.slice e)] [hs:SZ X.P e 1] [hu:VwB X l u m p] {k:Nat}
  (h:Wl X ops Q r s' l') (hat:At l b (bys q,te) (bys q',te) l':=by repeat (first|exact At.here|apply At.there)) (hk:Nat.min m n=k:=by first|(with_reducible assumption)|rfl)
  (hfit:off+k≤q.length:=by first|(with_reducible assumption)|omega) (hq:q.take off++(p.take k++q.drop (off+k))=q':=by first|(with_reducible assumption)|rfl)
  (hs':sputO s o.dst (.int .i64 (k:Int))=s':=by (try dsimp only [sputO,sput,Nat.reduceBEq,cond_true,cond_false,beq_self_eq_true]);first|done|exact rfl) (htb:Nat.blt te BIG=true:=by first|rfl|assumption):Wl X ops Q (o::r) s l:=fun a w hst=>by
 subst hs'
 have hw:=gd_wanted hst.env hg
 obtain ⟨hcs,hok⟩:=hu.out w hst.mem
 obtain ⟨pu,cu,rfl,h1,h2,h3⟩:=hcs.ln.out
 have hgb:=(hst.mem.cls.now b (bys q) te (hat.now hst.mem.nd)).trans (congrArg some (toObj_cells htb))
 have hkm:k≤m:=by rw [←hk];exact Nat.min_le_left _ _
 have htl:(bl (p.take k)).length=k:=by rw [bl_len,List.length_take,hok.len];omega
 have hrun:∃ w',(Builtin.copy_ #[t,t'] o.type #[.slice (some ⟨b,off,none⟩) n cap,.slice pu m cu]).run X.P w=.ok (.int .i64 (k:Int)) w'∧Mem X l' w':=by
  by_cases h0:k=0
  ·subst h0
   refine ⟨w,run_copy_none (P:=X.P) w t t' o.type e _ pu n cap m cu ht.out hs.out hk,?_⟩
   have e1:q'=q:=by rw [←hq];simp
   subst e1
   have e2:l'=l:=hat.same
   rw [e2];exact hst.mem
  ·obtain ⟨b',off',rfl⟩:=h3 (by omega)
   refine ⟨_,run_copy_row (P:=X.P) w t t' o.type e b off n cap ⟨b',off',none⟩ m cu (bys q) te (bl (p.take k)) ht.out hs.out hgb (by rw [htl,hk]) (fun j y hj=>?_) (by rw [htl];simpa [bys,bl_len] using hfit) (bl_one _) |>.trans (by rw [htl];rfl),?_⟩
   ·have hjl:j<k:=by rw [←htl];exact (List.getElem?_eq_some_iff.1 hj).1
    have hj':(bl p)[j]? = some y:=by
     rw [←bl_take,List.getElem?_take_of_lt hjl] at hj
     exact hj
    obtain ⟨b2,off2,cap2,hv,hc⟩:=hcs.cell j y hj'
    injection hv with hv
    injection hv with hv
    injection hv with hb' ho'
    subst hb';subst ho'
    rw [Addr.add_mid];exact hc
   ·have e0:off+k=off+(bl (p.take k)).length:=by rw [htl]
    rw [e0,putR_bys]
    have e1:q.take off++(p.take k++q.drop (off+(p.take k).length))=q':=by
     rw [←hq,List.length_take,hok.len,Nat.min_eq_left hkm]
    rw [e1]
    exact hst.mem.upd hat
 obtain ⟨w',hrun,hmem⟩:=hrun
 unfold wpList
 rw [if_pos hw]
 refine .inl ?_
 unfold Oper.wp
 have:(execOp a.eval o).run X.P w=.ok (.value (.int .i64 (k:Int))) w':=by
  simp only [execOp,hop,resolve,invoke,builtin,Sem.run_bind,Sem.run_pure,Result.andThen_ok,List.map_toArray,List.map_cons,List.map_nil,hst.env.eval hx,hst.env.eval hy,hrun]
 rw [this]
 exact h _ _ ⟨hst.env.put hd _,hmem⟩
theorem wl_makeB {t e bytes n:Nat}{x y:Operand}{kx ky:IntKind}{s':Value→Slots}{f:Blks→Blks}(hg:gd s ops o=some true)(hd:dOk X.N o.dst=true)(hop:o.op=.makeSlice t x y)(hx:val s x=some (.int kx (n:Int)))(hy:val s y=some (.int ky (n:Int)))
  [ht:UT X.P t (.slice e)] [hei:EI X.P e 1 bytes #[.int .u8 0]] [hf:Snoc l f] (h:∀ v' oa',OwnB e v' n (List.replicate n 0) oa'→Wl X ops Q r (s' v') (f oa'))
  (hb:n * bytes≤140737488355328∧n≤1152921504606846976:=by (refine ⟨?_,?_⟩ <;> omega))
  (hs':∀ v',sputO s o.dst v'=s' v':=by intro _;(try dsimp only [sputO,sput,Nat.reduceBEq,cond_true,cond_false,beq_self_eq_true]);first|done|exact rfl):Wl X ops Q (o::r) s l:=fun ac w hst=>by
 obtain rfl:(fun v'=>sputO s o.dst v')=s':=funext hs'
 have hw:=gd_wanted hst.env hg
 obtain ⟨i,zv,hi,hsz,hby,hz,hzc,hzs⟩:=hei.out
 have hr:=run_make (P:=X.P) w t e i zv ht.out hi hz kx ky (n:Int) (n:Int) (by omega) (Int.le_refl _) (by rw [hby,←Int.natCast_mul,Nat.mul_comm];omega) (by omega)
 rw [hsz,Nat.mul_one,Int.toNat_natCast,hzc] at hr
 unfold wpList
 rw [if_pos hw]
 refine .inl ?_
 unfold Oper.wp
 have:(execOp ac.eval o).run X.P w=.ok (.value (.slice (some ⟨w.heap.size,0,none⟩) n n)) (w.alloc (.cells (madeCells #[.int .u8 0] n) e)):=by
  simp only [execOp,hop,hst.env.eval hx,hst.env.eval hy,Sem.run_bind,hr,Result.andThen_ok,Sem.run_pure]
 rw [this]
 haveI:Seg l [] f:=⟨l,[],by simp,fun o=>by rw [hf.out,List.append_nil]⟩
 refine h _ [(w.heap.size,(madeCells #[.int .u8 0] n,e))] ⟨⟨by rw [bl_len,List.length_replicate,Nat.mul_one],.inr ⟨w.heap.size,n,madeCells #[.int .u8 0] n,rfl,Nat.le_refl _,?_,by rw [size_madeCells,Nat.mul_one],?_,rfl⟩,.inr hei.tb⟩,BL.rep n 0 (by decide)⟩ _ _ ⟨hst.env.put hd _,(upd_new (w:=w) (w1:=w) rfl rfl rfl rfl [] _ e hei.tb).mem hst.mem⟩
 ·simp only [maxLen];omega
 ·rw [made_one,bl_rep,Nat.mul_one,List.take_of_length_le (by simp)];rfl
theorem append_zeros {P:Program}{oa:Blks}{w:World}{t tn ty e bytes:Nat}{v:Value}{n m:Nat}{p:List Nat}{kn kv:IntKind}
  (ht:P.underlying t=some (.slice e)) (htn:P.underlying tn=some (.int kn)) (hei:EI P e 1 bytes #[.int .u8 0]) (hown:OwnB e v n p oa) (hd:Hd oa w)
  (h63:n+m≤maxLen) (hb:(n+m) * bytes≤140737488355328) :
  ∃ v' w' oa',(Builtin.append_ #[t,tn] ty #[v,.int kv (m:Int)]).run P w=.ok v' w'∧OwnB e v' (n+m) (p++List.replicate m 0) oa'∧Upd w oa w' oa':=by
 obtain ⟨i,zv,hi,hsz,hby,hz,hzc,hzs⟩:=hei.out
 have hxl:=hown.own.len
 rw [Nat.mul_one] at hxl
 have hok:BL (n+m) (p++List.replicate m 0):=hown.ok.app (BL.rep m 0 (by decide))
 have hnd:(keys oa).Nodup:=by rcases hown.own.out with ⟨_,_,rfl⟩ | ⟨g,cap,cur,_,_,_,_,_,rfl⟩ <;> simp [keys]
 have hl2:(bl (p++List.replicate m 0)).length=(n+m) * 1:=by rw [bl_len,hok.len,Nat.mul_one]
 have h63':n+m≤9223372036854775807:=by simp only [maxLen] at h63;omega
 have hw:IntKind.i64.wrap (m:Int)=m:=by rw [IntKind.wrap_i64];omega
 have hneg:¬((m:Int)<0):=by omega
 have hmb:m * bytes≤140737488355328:=Nat.le_trans (Nat.mul_le_mul_right _ (by omega)) hb
 have h48i:¬(281474976710656<(m:Int) * (bytes:Int)):=by rw [←Int.natCast_mul];omega
 have hw0:IntKind.i64.wrap 0=0:=by decide
 by_cases h0:m=0
 ·subst h0
  refine ⟨v,w,oa,?_,⟨by simpa using hown.own,by simpa using hok⟩,rfl,rfl,rfl,Nat.le_refl _,fun _ _ _=>rfl,hnd,hd,fun n hn=>.inl hn⟩
  rcases hown.own.out with ⟨rfl,rfl,rfl⟩ | ⟨g,cap,cur,rfl,hnc,hcm,hcs,htake,rfl⟩
  ·simp [Builtin.append_,run_underlying ht,run_underlying htn,sizeOf,typeInfo,hi,asInt,asIntOf,hw0]
  ·simp [Builtin.append_,run_underlying ht,run_underlying htn,sizeOf,typeInfo,hi,asInt,asIntOf,hw0,hnc,storeCells]
 have size_new:∀ k,n+m≤k→((bl p).toArray++Builtin.zeroCells zv.cells m++Builtin.zeroCells zv.cells (k - (n+m))).size=k * 1:=fun k hk=>by
  simp only [Array.size_append,List.size_toArray,size_zeroCells,hzc]
  rw [hxl]
  simp only [List.size_toArray,List.length_cons,List.length_nil]
  omega
 have take_new:∀ k,((bl p).toArray++Builtin.zeroCells zv.cells m++Builtin.zeroCells zv.cells (k - (n+m))).toList.take ((n+m) * 1)=bl (p++List.replicate m 0):=fun k=>by
  rw [Array.toList_append,Array.toList_append,hzc,zeros_one,bl_app,bl_rep,←hl2,bl_app,bl_rep]
  exact List.take_left
 rcases hown.own.out with ⟨rfl,rfl,rfl⟩ | ⟨g,cap,cur,rfl,hnc,hcm,hcs,htake,rfl⟩
 ·have hx:p=[]:=List.eq_nil_of_length_eq_zero (by rw [←hown.ok.len])
  subst hx
  have hr:=Lib.run_append_nil_zeros (P:=P) w t tn ty e i zv kv kn ht htn hi hz m (by omega) (by omega) (by omega) (by rw [hby];omega)
  have hge:=grownCap_ge w m 0 e
  have hcl:=grownCap_le_maxLen w m 0 e (by omega)
  have hs:=size_new (grownCap w m 0 e) (by omega)
  have htk:=take_new (grownCap w m 0 e)
  simp only [Nat.zero_add,bl,List.map_nil,Array.empty_append,List.nil_append] at hs htk hl2 hok ⊢
  exact ⟨_,_,[(w.heap.size,(_,e))],hr,⟨⟨hl2,.inr ⟨w.heap.size,_,_,rfl,hge,hcl,hs,htk,rfl⟩,.inr hei.tb⟩,hok⟩,upd_new (w:=w) (w1:=w.drew) rfl rfl rfl rfl [] _ e hei.tb⟩
 ·have hg:w.heap[g]? = some (.cells cur e (0,0)):=(hd (g,(cur,e)) (by simp)).trans (congrArg some (toObj_cells hei.tb))
  by_cases hroom:n+m≤cap
  ·have hfit:n+(List.replicate m (Value.int .u8 0)).length≤cur.size:=by rw [List.length_replicate,hcs];omega
   have hst:=run_storeCells_at P g n e (List.replicate m (Value.int .u8 0)) 0 cur w hg (by simpa using hfit) (fun y hy=>by rw [(List.mem_replicate.1 hy).2];rfl)
   simp only [Nat.add_zero] at hst
   have hms:¬(m * i.size=0):=by rw [hsz];omega
   have hr:(Builtin.append_ #[t,tn] ty #[.slice (some ⟨g,0,none⟩) n cap,.int kv (m:Int)]).run P w=.ok (.slice (some ⟨g,0,none⟩) (n+m) cap) (w.setRow g (cur.toList.take n++List.replicate m (Value.int .u8 0)++cur.toList.drop (n+(List.replicate m (Value.int .u8 0)).length)).toArray):=by
    simp [Builtin.append_,run_underlying ht,run_underlying htn,sizeOf,typeInfo,zeroValue,hi,hz,hsz,hby,asInt,asIntOf,hw,hneg,h0,h48i,hroom,hzc,zeros_one,Addr.add_lit,hst]
   refine ⟨_,_,[(g,(_,e))],hr,⟨⟨hl2,.inr ⟨g,cap,_,rfl,hroom,hcm,?_,?_,rfl⟩,.inr hei.tb⟩,hok⟩,rfl,rfl,rfl,by simp,fun k hk hne=>setRow_other w g k _ (fun e=>hne (by simp [keys,e])),by simp [keys],hd_one ((setRow_heap w g cur _ e _ hg).trans (congrArg some (toObj_cells hei.tb).symm)),fun n hn=>.inl (by simpa [keys] using hn)⟩
   ·simp only [List.size_toArray,List.length_append,List.length_take,List.length_drop,Array.length_toList,List.length_replicate]
    omega
   ·rw [Nat.mul_one] at htake
    simp only [htake]
    rw [←hl2,bl_app,bl_rep]
    exact List.take_left
  ·have holds:∀ j y,(bl p)[j]? = some y→w.cell? ((⟨g,0,none⟩:Addr).add j)=some y:=(hown.own.row hd).cells (g:=g) rfl
   have hfc:=run_firstCells_some (P:=P) w.drew i.size n ⟨g,0,none⟩ n cap (bl p) (by rw [hxl,hsz,Nat.mul_one]) holds
   have hr:=Lib.run_append_grow_zeros (P:=P) w t tn ty e i zv kv kn ht htn hi hz (some ⟨g,0,none⟩) n cap (bl p) hfc m (by omega) (by omega) (by omega) (by omega) (by rw [hby];omega) (by rw [hby];exact growslice_fits (by omega) hb)
   have hge:=grownCap_ge w (n+m) cap e
   have hcl:=grownCap_le_maxLen w (n+m) cap e h63
   exact ⟨_,_,[(w.heap.size,(_,e))],hr,⟨⟨hl2,.inr ⟨w.heap.size,_,_,rfl,hge,hcl,size_new _ hge,take_new _,rfl⟩,.inr hei.tb⟩,hok⟩,upd_new (w:=w) (w1:=w.drew) rfl rfl rfl rfl _ _ e hei.tb⟩
theorem wl_append0 {x y:Operand}{t tn e bytes n m:Nat}{kn kv:IntKind}{p:List Nat}{oa:Blks}{f:Blks→Blks}{s':Value→Slots}
  (hg:gd s ops o=some true) (hd:dOk X.N o.dst=true) (hop:o.op=.call {callee:=.builtin .append,args:=#[x,y],argTypes:=#[t,tn]})
  (hx:val s x=some v) (hy:val s y=some (.int kv (m:Int))) [ht:UT X.P t (.slice e)] [htn:UT X.P tn (.int kn)] [hei:EI X.P e 1 bytes #[.int .u8 0]] [hown:OwnB e v n p oa] [hseg:Seg l oa f]
  (h:∀ v' oa',OwnB e v' (n+m) (p++List.replicate m 0) oa'→Wl X ops Q r (s' v') (f oa'))
  (h63:(n+m) * bytes≤1152921504606846976∧n+m≤1152921504606846976∧(n+m) * bytes≤140737488355328:=by (refine ⟨?_,?_,?_⟩ <;> omega))
  (hs':∀ v',sputO s o.dst v'=s' v':=by intro _;(try dsimp only [sputO,sput,Nat.reduceBEq,cond_true,cond_false,beq_self_eq_true]);first|done|exact rfl):Wl X ops Q (o::r) s l:=fun ac w hst=>by
 obtain rfl:(fun v'=>sputO s o.dst v')=s':=funext hs'
 have hw:=gd_wanted hst.env hg
 have hdd:Hd oa w:=by
  obtain ⟨pre,post,rfl,_⟩:=hseg.out
  intro p hp
  exact hst.mem.cls.now p.1 p.2.1 p.2.2 (mu_mem_of (by simp [hp]) hst.mem.nd)
 obtain ⟨v',w',oa',hr,ho',hup⟩:=append_zeros (ty:=o.type) (kv:=kv) (m:=m) ht.out htn.out hei hown hdd (by simp only [maxLen];omega) h63.2.2
 unfold wpList
 rw [if_pos hw]
 refine .inl ?_
 unfold Oper.wp
 have:(execOp ac.eval o).run X.P w=.ok (.value v') w':=by
  simp only [execOp,hop,resolve,invoke,builtin,Sem.run_bind,Sem.run_pure,Result.andThen_ok,List.map_toArray,List.map_cons,List.map_nil,hst.env.eval hx,hst.env.eval hy,hr]
 rw [this]
 exact h v' oa' ho' _ _ ⟨hst.env.put hd _,hup.mem hst.mem⟩
theorem wl_putB {x y:Operand}{t e n j k:Nat}{u:Value}{p:List Nat}{oa:Blks}{f:Blks→Blks}(hg:gd s ops o=some true)(hd:dOk X.N o.dst=true)(ho:o.op=.store t x y)
  (hx:val s x=some (.pointer (some ⟨elB u,elO u+j,none⟩))) (hy:val s y=some (.int .u8 (k:Int))) [hs:SZ X.P t 1] [hown:OwnB e u n p oa] [hseg:Seg l oa f]
  (h:∀ oa',OwnB e u n (p.set j k) oa'→Wl X ops Q r s (f oa')) (hj:j<n:=by first|(with_reducible assumption)|omega) (hk:k<256:=by first|(with_reducible assumption)|omega) (hdn:o.dst=none:=by rfl):Wl X ops Q (o::r) s l:=fun ac w hst=>by
 have hw:=gd_wanted hst.env hg
 have hdd:Hd oa w:=by
  obtain ⟨pre,post,rfl,_⟩:=hseg.out
  intro p hp
  exact hst.mem.cls.now p.1 p.2.1 p.2.2 (mu_mem_of (by simp [hp]) hst.mem.nd)
 have hxl:=hown.own.len
 rcases hown.own.out with ⟨rfl,rfl,rfl⟩ | ⟨g,cap,cur,rfl,hnc,hcm,hcs,htake,rfl⟩
 ·omega
 have hbig:=hown.own.big
 have hgb:w.heap[g]? = some (.cells cur e (0,0)):=(hdd (g,(cur,e)) (by simp)).trans (congrArg some (toObj_cells hbig))
 have hlt:0+j<cur.size:=by omega
 have h1:(Value.int .u8 (k:Int)).oneCell'=true:=rfl
 have hrun:=store_run (P:=X.P) (ty:=t) (off:=0+j) (v:=.int .u8 (k:Int)) (w:=w) (.inr ⟨h1,hs.out,hlt⟩) hgb
 have e1:splice cur (0+j) (.int .u8 (k:Int))=cur.setIfInBounds (0+j) (.int .u8 (k:Int)):=rfl
 rw [e1] at hrun
 unfold wpList
 rw [if_pos hw]
 refine .inl ?_
 unfold Oper.wp
 have hx':=hst.env.eval hx
 have:(execOp ac.eval o).run X.P w=.ok .skip (w.setRow g (cur.setIfInBounds (0+j) (.int .u8 (k:Int)))):=by
  simp only [execOp,ho,hx',hst.env.eval hy,Instr.storeAt,Instr.sureAddr,Sem.run_bind,Sem.run_pure,Result.andThen_ok,elB,elO,hrun]
 rw [this]
 have hs0:sputO s o.dst undef=s:=by rw [hdn];rfl
 have hup:Upd w [(g,(cur,e))] (w.setRow g (cur.setIfInBounds (0+j) (.int .u8 (k:Int)))) [(g,(cur.setIfInBounds (0+j) (.int .u8 (k:Int)),e))]:=
  ⟨rfl,rfl,rfl,by simp,fun k' hk' hne=>setRow_other w g k' _ (fun e=>hne (by simp [keys,e])),by simp [keys],hd_one ((setRow_heap w g cur _ e _ hgb).trans (congrArg some (toObj_cells hbig).symm)),fun n hn=>.inl (by simpa [keys] using hn)⟩
 refine (show Wl X ops Q r (sputO s o.dst undef) (f [(g,(cur.setIfInBounds (0+j) (.int .u8 (k:Int)),e))]) from by
  rw [hs0]
  refine h _ ⟨⟨by rw [bl_len,List.length_set,hown.ok.len,Nat.mul_one],.inr ⟨g,cap,_,rfl,hnc,hcm,by simpa using hcs,?_,rfl⟩,.inr hbig⟩,hown.ok.set hk⟩
  rw [Nat.zero_add,Array.toList_setIfInBounds,List.take_set,htake,bl_set]) _ _ ⟨hst.env.put hd _,hup.mem hst.mem⟩
end
end Go.Proofs.YthigacbelefadaaDoor
namespace Go.Proofs.YthigacbelefadaaDoor
open Go.RowKit
set_option linter.unusedVariables false
set_option linter.unusedSimpArgs false
def putsH (pl:List (Nat×Nat)):Sg→List (Nat×Value)→Option Sg
 | g,[]=>some g
 | g,(i,v)::r=>match pl[i]? with
  | none=>none
  | some q=>match putG g q.1 q.2 v.cells with
   | some g'=>putsH pl g' r
   | none=>none
theorem putsH_spec {pl:List (Nat×Nat)}:∀ {vs:List (Nat×Value)} {g g':Sg},SgOk g→(∀ p∈vs,p.2.cells.all (·.oneCell')=true)→(∀ p∈vs,∀ q,pl[p.1]? = some q→p.2.cells.size=q.2)→putsH pl g vs=some g'→fillC (fun i=>pl[i]?) (rwL g) vs=some (rwL g')∧SgOk g'
 | [],g,g',hok,_,_,h=>by cases h;exact ⟨rfl,hok⟩
 | (i,v)::r,g,g',hok,h1,h2,h=>by
  unfold putsH at h
  unfold fillC
  cases hp:pl[i]? with
  | none=>simp [hp] at h
  | some q=>
   simp only [hp] at h ⊢
   have c:v.cells.size=q.2:=h2 (i,v) (by simp) q hp
   cases hg:putG g q.1 q.2 v.cells with
   | none=>rw [hg] at h;cases h
   | some g1=>
    rw [hg] at h
    simp only at h
    obtain ⟨e1,e2,e3,e4⟩:=putG_spec hok c (h1 (i,v) (by simp)) hg
    have hb:Nat.ble (q.1+q.2) (rwL g).length=true:=Nat.ble_eq_true_of_le (by rw [rwL_len hok];exact e4)
    have c':(v.cells.size == q.2)=true:=by simp [c]
    rw [c',hb,Bool.and_self,cond_true,e1]
    exact putsH_spec e2 (fun p hp=>h1 p (by simp [hp])) (fun p hp=>h2 p (by simp [hp])) h
section
variable {X:Cx}{s:Slots}{l:Blks}{o:Oper}{v:Value}
theorem all_one {v:Value}(h:v.oneCell'=true):v.cells.all (·.oneCell')=true:=by rw [one_cells h];simpa using h
theorem rd_buildH {t:Nat}{ps:Array (Nat×Operand)}{vs:List (Nat×Value)}{pl:List (Nat×Nat)}{g0 g g':Sg}(ho:o.op=.build t ps)(hx:valsP s ps.toList=some vs)[ht:SP X.P t pl][hz:ZG X.P t g0]
  (hc:putsH pl g0 vs=some g:=by rfl) (hg:g=g':=by (try dsimp only [Value.cells]);first|done|exact rfl) (h1:∀ p∈vs,p.2.cells.all (·.oneCell')=true:=by (simp only [List.forall_mem_cons,List.not_mem_nil,false_imp_iff,implies_true,and_true];(repeat' apply And.intro) <;> first|(dsimp only [Value.cells];exact Cells.one)|exact all_one rfl|rfl))
  (h2:∀ p∈vs,∀ q,pl[p.1]? = some q→p.2.cells.size=q.2:=by (simp only [List.forall_mem_cons,List.not_mem_nil,false_imp_iff,implies_true,and_true];(repeat' apply And.intro) <;> (intro q hq;obtain rfl:=Option.some.inj hq;first|(dsimp only [Value.cells];exact Cells.size)|rfl))):RdV X s l o (.agg (rwA g')):=by
 subst hg
 haveI:ZR X.P t (.agg (rwA g0)):=⟨hz.out⟩
 exact rd_buildS ho hx (by rw [rwA];exact (putsH_spec hz.ok h1 h2 hc).1)
theorem mk_boxG {t:Nat}{x:Operand}{g:Sg}(ho:o.op=.box t x)(hx:val s x=some (.agg (rwA g))):Mk X s o (rwA g) t ptr:=mk_box ho hx
end
end Go.Proofs.YthigacbelefadaaDoor
namespace Go.Proofs.YthigacbelefadaaDoor
open Go.RowKit
attribute [local irreducible] rwA bys iw
set_option linter.unusedVariables false
set_option maxRecDepth 100000
set_option linter.unusedSimpArgs false
abbrev sgM (s:MS):Sg:=[(73,rwA (sgH s.inner)),(73,rwA (sgH s.outer))]
abbrev mv (s:MS):Value:=.agg (rwA (sgM s))
class MSo (s:MS):Prop where
 inner:HSo s.inner
 outer:HSo s.outer
instance {s:HS}[h:HSo s]:SegL (rwA (sgH s)) 73:=seg_rw rfl
instance {s:MS}[h:MSo s]:HSo s.inner:=h.inner
instance {s:MS}[h:MSo s]:HSo s.outer:=h.outer
instance {s:MS}[h:MSo s]:Cells (rwA (sgM s)) 146:=⟨rw_size inferInstance,rw_one inferInstance⟩
instance {s:MS}{p:List Nat}[h:MSo s][ByL p]:MSo (s.write p):=⟨inferInstanceAs (HSo (s.inner.write p)),h.outer⟩
instance:ZC Tryd.prog 116 (bys (List.replicate 64 0)):=⟨by kernel_rfl⟩
def zeroM:MS:=⟨zeroH,zeroH⟩
instance:MSo zeroM:=⟨inferInstanceAs (HSo zeroH),inferInstanceAs (HSo zeroH)⟩
set_option maxRecDepth 100000 in
instance:ZG Tryd.prog 120 (sgM zeroM):=⟨by kernel_rfl,inferInstance⟩
theorem msum_len {s:MS}[h:MSo s]:s.sum.length=32:=by
 unfold MS.sum
 haveI:ByL s.inner.sum:=inferInstance
 exact sum_len (HSo.out (s:=s.outer.write s.inner.sum))
instance {s:MS}[h:MSo s]:NBy s.sum 32:=⟨msum_len⟩
instance {s:MS}:ByL s.sum:=inferInstanceAs (ByL (s.outer.write s.inner.sum).sum)
def xorP (k:List Nat)(c i:Nat):List Nat:=xorL (k.take i) c++k.drop i
theorem xorP_len (k:List Nat)(c i:Nat):(xorP k c i).length=k.length:=by rw [xorP,List.length_append,xorL_len,←List.length_append,List.take_append_drop]
theorem xorP_get {k:List Nat}{c i:Nat}(h:i<k.length):(xorP k c i).getD i 0=k.getD i 0:=by
 rw [xorP,List.getD_eq_getElem?_getD,List.getElem?_append_right (by rw [xorL_len,List.length_take];omega),xorL_len,List.length_take,Nat.min_eq_left (by omega),Nat.sub_self,List.getElem?_drop,Nat.add_zero,List.getD_eq_getElem?_getD]
theorem xorP_step {k:List Nat}{c i:Nat}(h:i<k.length):(xorP k c i).set i (Nat.xor (k.getD i 0) c)=xorP k c (i+1):=by
 have e1:k.drop i=k.getD i 0::k.drop (i+1):=by rw [List.drop_eq_getElem_cons h];simp [List.getD,h]
 rw [xorP,List.set_append_right _ _ (by rw [xorL_len,List.length_take];omega),xorL_len,List.length_take,Nat.min_eq_left (by omega),Nat.sub_self,e1,List.set_cons_zero,xorP,take_succ' k i h]
 simp [xorL]
set_option maxRecDepth 100000 in
set_option maxHeartbeats 8000000 in
theorem mnew_c (w:World)(hT:Tab w){v:Value}{m:Nat}{key:List Nat}(hp:Cb w v m key):Calls Tryd.prog 45 [v].toArray w (Ret (mv (newM key)) w):=by
 have i1:=hp.old
 haveI:ByL key:=⟨hp.ok.by'⟩
 have hpl:=hp.ok.len
 have WG:=write_g w hT
 have DG:=dig_g w hT
 have NG:=new_c
 have hkb:=keyL_byte key hp.ok.by'
 have hkl:=keyL_len key
 have z64:(List.replicate 64 0).length=64:=by simp
 haveI:BLc 32 (dig key):=⟨⟨dig_len key,ByL.out⟩,by decide⟩
 clear hT hp
 have hnew:newM key=⟨newH.write (xorL (keyL key) 54),newH.write (xorL (keyL key) 92)⟩:=rfl
 by_cases hlong:m>64
 ·have t1:decide ((m:Int)>64)=true:=decide_eq_true (by omega)
  have hq:(List.replicate 64 0).take 0++((dig key).take 32++(List.replicate 64 0).drop (0+32))=keyL key:=by
   rw [List.take_of_length_le (Nat.le_of_eq (dig_len key)),keyL,if_pos (by omega),dig_len,List.drop_replicate];rfl
  have hmn:Nat.min 32 64=32:=rfl
  generalize keyL key=KY at *
  haveI:NBy KY 64:=⟨hkl⟩
  rw [hnew]
  clear hnew
  refine fn_ret (N:=_) Tryd.func45 rfl Tryd.ntmps45 Tryd.results45 (by simp) ?_
  simp only [initS,Nat.reduceAdd,Nat.zero_add]
  repeat' (first|(refine wlS ?_)|(refine wlG ?_)|(refine wlB ?_)|((with_reducible refine sel_call ?_);refine wl_rd rfl rfl (rd_call rfl rfl rfl (fun w hm=>by with_reducible first|exact NG w|exact DG w (hm.below rfl) (VwB.out w hm))) ?_)|(refine wlE ?_)|(refine efSvvp ?_;intro v hv hp)|(refine efSvao ?_;intro v oa ho)|(refine efM ?_)|(refine efMvao ?_;intro v oa ho)|((with_reducible refine sel_store ?_);first|(refine wl_putB (e:=5) rfl rfl rfl rfl rfl ?_;intro oa ho))|(refine efG ?_)|(refine efGnn ?_;intro n hn)|(refine efZCnn ?_;intro n hn)|(refine efBnn ?_;intro n hn)|(refine efB ?_)|(refine efBS ?_)|(refine wl_skip rfl rfl ?_)|(refine wdS ?_)|(refine wdG ?_)|((with_reducible refine seld_call ?_);refine wd_rd hm0 rfl rfl rfl rfl (rd_call rfl rfl rfl (fun w hm=>by with_reducible first|exact NG w|exact DG w (hm.below rfl) (VwB.out w hm))) ?_)|(refine wdE ?_)|(refine wdT ?_)|(refine wdTO ?_)|(refine wd_skip rfl rfl ?_)|((with_reducible refine seld_nil ?_);refine wd_nil hm0 ?_;clear hm0 hw0)|((with_reducible refine wc_seq ?_);intro K hK)|(refine auC ?_)|(refine wc_cond rfl (fun hc=>?_) (fun hc=>?_))|(refine wc_draw (by kernel_rfl) (by kernel_rfl) (by decide +kernel) ?_;intro w0 hw0 hm0;(try simp only [List.append_eq,List.cons_append,List.nil_append]))|(refine auP ?_)|((refine auR ?_);clear hK K)|(refine auR ?_)|((with_reducible refine hK _ _ ?_);clear hK K)|fail)
  rename_i n2 hn2 n3 hn3 n4 hn4
  refine wc_loop (σ:=Nat) (fun i=>[(2,ptr n2),(4,ptr n4),(5,ptr n),(17,.int .i64 (i:Int))])
   (fun i=>[(n,(bys (xorP KY 92 i),116)),(n4,(bys (xorP KY 54 i),116)),(n2,(rwA (sgM zeroM),120))])
   (fun i=>i≤64) (fun i=>64 - i) 0 (Nat.zero_le _) (Fits.of ⟨rfl,rfl,rfl,rfl,trivial⟩ (by rw [show xorP KY 92 0=KY from rfl,show xorP KY 54 0=KY from rfl];first|exact SubL.refl _|exact .keep (.keep (.skip (.keep .nil)))) rfl) ?_
  intro i hi
  haveI:NBy (xorP KY 54 i) 64:=⟨by rw [xorP_len];exact hkl⟩
  haveI:NBy (xorP KY 92 i) 64:=⟨by rw [xorP_len];exact hkl⟩
  by_cases hlt:i<64
  ·have t1:decide ((i:Int)<64)=true:=decide_eq_true (by omega)
   have k1:IntKind.i64.wrap ((i:Int)+1)=((i+1:Nat):Int):=by rw [wrap_i64 _ (by omega) (by omega)];omega
   have j1:(i:Int)<((64:Nat):Int):=by omega
   have g1:=bys_get (l:=xorP KY 54 i) (i:=i) (by rw [xorP_len];omega)
   have g2:=bys_get (l:=xorP KY 92 i) (i:=i) (by rw [xorP_len];omega)
   rw [xorP_get (by omega)] at g1 g2
   have s1:=xorP_step (k:=KY) (c:=54) (i:=i) (by omega)
   have s2:=xorP_step (k:=KY) (c:=92) (i:=i) (by omega)
   have hb:KY.getD i 0<256:=hkb _ (by rw [show KY.getD i 0=KY[i]'(by omega) by simp [List.getD,(by omega:i<KY.length)]];exact List.getElem_mem _)
   generalize KY.getD i 0=b at *
   have x1:bits .xor .u8 (b:Int) 54=((Nat.xor b 54:Nat):Int):=xor_u8 (b:=54) hb (by decide)
   have x2:bits .xor .u8 (b:Int) 92=((Nat.xor b 92:Nat):Int):=xor_u8 (b:=92) hb (by decide)
   clear WG DG NG
   repeat' (first|(refine wlS ?_)|(refine wlB ?_)|(refine wlE ?_)|(refine efSvvp ?_;intro v hv hp)|(refine efSvao ?_;intro v oa ho)|(refine efBnn ?_;intro n hn)|(refine efB ?_)|(refine efBS ?_)|(refine wl_skip rfl rfl ?_)|(refine wdS ?_)|(refine wdE ?_)|(refine wdT ?_)|(refine wdTO ?_)|(refine wd_skip rfl rfl ?_)|((with_reducible refine seld_nil ?_);refine wd_nil hm0 ?_;clear hm0 hw0)|((with_reducible refine wc_seq ?_);intro K hK)|(refine auC ?_)|(refine wc_cond rfl (fun hc=>?_) (fun hc=>?_))|(refine wc_draw (by kernel_rfl) (by kernel_rfl) (by decide +kernel) ?_;intro w0 hw0 hm0;(try simp only [List.append_eq,List.cons_append,List.nil_append]))|(refine auP ?_)|((refine auR ?_);clear hK K)|(refine auR ?_)|((with_reducible refine hK _ _ ?_);clear hK K)|fail)
   exact ⟨i+1,hlt,by omega,Fits.of ⟨rfl,rfl,rfl,rfl,trivial⟩ (by rw [←s1,←s2];exact SubL.refl _) rfl⟩
  ·obtain rfl:i=64:=by omega
   have t1:decide (((64:Nat):Int)<64)=false:=by decide
   have e1:∀ c,xorP KY c 64=xorL KY c:=fun c=>by rw [xorP,List.take_of_length_le (by omega),List.drop_of_length_le (by omega),List.append_nil]
   rw [e1,e1]
   haveI:ByL (xorL KY 54):=⟨xorL_byte KY (by decide) hkb⟩
   haveI:ByL (xorL KY 92):=⟨xorL_byte KY (by decide) hkb⟩
   haveI:BLc 64 (xorL KY 54):=⟨⟨by rw [xorL_len];exact hkl,ByL.out⟩,by decide⟩
   haveI:BLc 64 (xorL KY 92):=⟨⟨by rw [xorL_len];exact hkl,ByL.out⟩,by decide⟩
   clear hkb hkl e1 hi hlt
   repeat' (first|(refine wlS ?_)|(refine wlG ?_)|(refine wlB ?_)|((with_reducible refine sel_call ?_);refine wl_rd rfl rfl (rd_call rfl rfl rfl (fun w hm=>by with_reducible first|exact NG w|exact WG w (hm.below rfl) (VwB.out w hm))) ?_)|(refine wlE ?_)|(refine efSvvp ?_;intro v hv hp)|(refine efSvao ?_;intro v oa ho)|(refine efG ?_)|(refine efGnn ?_;intro n hn)|(refine efBnn ?_;intro n hn)|(refine efB ?_)|(refine efBS ?_)|(refine wl_skip rfl rfl ?_)|((with_reducible refine wc_seq ?_);intro K hK)|(refine auC ?_)|(refine wc_cond rfl (fun hc=>?_) (fun hc=>?_))|((with_reducible refine wc_drawT (by kernel_rfl) ?_);(try simp only [List.append_eq,List.cons_append,List.nil_append,List.length_cons,List.length_nil,Nat.reduceAdd]))|((with_reducible refine sel_wh ?_);(refine wh_if (by decide +kernel) ?_);first|(refine wh_take (lq:=[]) rfl rfl rfl rfl (by first|exact rvS|exact rvG|exact rvE) (Or.inl rfl) ?_)|(refine wh_takeL rfl rfl rfl rfl (by first|exact rvS|exact rvG|exact rvE) (by decide +kernel) ?_))|(refine whS ?_;intro v hv hp)|((with_reducible refine sel_wh ?_);first|(refine wh_pass rfl rfl rfl rfl ?_)|(refine wh_done rfl ?_)|(refine wh_all rfl ?_))|((with_reducible refine sel_rest ?_);first|exact rest_nil rfl|refine rest_cons rfl rfl ?_ ?_)|((with_reducible refine sel_nx ?_);first|refine next_of ?_|refine next_late (by decide +kernel) ?_)|(refine auP ?_)|((refine auR ?_);clear hK K)|(refine auR ?_)|((with_reducible refine hK _ _ ?_);clear hK K)|fail)
   first|refine end_ret (ResP.cell rfl ld_wholeG ResP.nil) ?_|refine end_normal (ResP.cell rfl ld_wholeG ResP.nil) ?_
   first|rfl|(show _=_;rfl)|(simp only [tupV, *];done)
 ·have t1:decide ((m:Int)>64)=false:=decide_eq_false (by omega)
  have hq:(List.replicate 64 0).take 0++(key.take m++(List.replicate 64 0).drop (0+m))=keyL key:=by
   rw [List.take_of_length_le (Nat.le_of_eq hpl),keyL,if_neg (by omega),List.drop_replicate,Nat.zero_add,hpl];rfl
  have hmn:Nat.min m 64=m:=Nat.min_eq_left (by omega)
  have hf:0+m≤(List.replicate 64 0).length:=by simp;omega
  generalize keyL key=KY at *
  haveI:NBy KY 64:=⟨hkl⟩
  rw [hnew]
  clear hnew
  refine fn_ret (N:=_) Tryd.func45 rfl Tryd.ntmps45 Tryd.results45 (by simp) ?_
  simp only [initS,Nat.reduceAdd,Nat.zero_add]
  repeat' (first|(refine wlS ?_)|(refine wlG ?_)|(refine wlB ?_)|((with_reducible refine sel_call ?_);refine wl_rd rfl rfl (rd_call rfl rfl rfl (fun w hm=>by with_reducible exact NG w)) ?_)|(refine wlE ?_)|(refine efSvvp ?_;intro v hv hp)|(refine efSvao ?_;intro v oa ho)|(refine efM ?_)|(refine efMvao ?_;intro v oa ho)|((with_reducible refine sel_store ?_);first|(refine wl_putB (e:=5) rfl rfl rfl rfl rfl ?_;intro oa ho))|(refine efG ?_)|(refine efGnn ?_;intro n hn)|(refine efZCnn ?_;intro n hn)|(refine efBnn ?_;intro n hn)|(refine efB ?_)|(refine efBS ?_)|(refine wl_skip rfl rfl ?_)|(refine wdS ?_)|(refine wdG ?_)|((with_reducible refine seld_call ?_);refine wd_rd hm0 rfl rfl rfl rfl (rd_call rfl rfl rfl (fun w hm=>by with_reducible exact NG w)) ?_)|(refine wdE ?_)|(refine wdT ?_)|(refine wdTO ?_)|(refine wd_skip rfl rfl ?_)|((with_reducible refine seld_nil ?_);refine wd_nil hm0 ?_;clear hm0 hw0)|((with_reducible refine wc_seq ?_);intro K hK)|(refine auC ?_)|(refine wc_cond rfl (fun hc=>?_) (fun hc=>?_))|(refine wc_draw (by kernel_rfl) (by kernel_rfl) (by decide +kernel) ?_;intro w0 hw0 hm0;(try simp only [List.append_eq,List.cons_append,List.nil_append]))|(refine auP ?_)|((refine auR ?_);clear hK K)|(refine auR ?_)|((with_reducible refine hK _ _ ?_);clear hK K)|fail)
  rename_i n2 hn2 n4 hn4
  refine wc_loop (σ:=Nat) (fun i=>[(2,ptr n2),(4,ptr n4),(5,ptr n),(17,.int .i64 (i:Int))])
   (fun i=>[(n,(bys (xorP KY 92 i),116)),(n4,(bys (xorP KY 54 i),116)),(n2,(rwA (sgM zeroM),120))])
   (fun i=>i≤64) (fun i=>64 - i) 0 (Nat.zero_le _) (Fits.of ⟨rfl,rfl,rfl,rfl,trivial⟩ (by rw [show xorP KY 92 0=KY from rfl,show xorP KY 54 0=KY from rfl];first|exact SubL.refl _|exact .keep (.keep (.skip (.keep .nil)))) rfl) ?_
  intro i hi
  haveI:NBy (xorP KY 54 i) 64:=⟨by rw [xorP_len];exact hkl⟩
  haveI:NBy (xorP KY 92 i) 64:=⟨by rw [xorP_len];exact hkl⟩
  by_cases hlt:i<64
  ·have t1:decide ((i:Int)<64)=true:=decide_eq_true (by omega)
   have k1:IntKind.i64.wrap ((i:Int)+1)=((i+1:Nat):Int):=by rw [wrap_i64 _ (by omega) (by omega)];omega
   have j1:(i:Int)<((64:Nat):Int):=by omega
   have g1:=bys_get (l:=xorP KY 54 i) (i:=i) (by rw [xorP_len];omega)
   have g2:=bys_get (l:=xorP KY 92 i) (i:=i) (by rw [xorP_len];omega)
   rw [xorP_get (by omega)] at g1 g2
   have s1:=xorP_step (k:=KY) (c:=54) (i:=i) (by omega)
   have s2:=xorP_step (k:=KY) (c:=92) (i:=i) (by omega)
   have hb:KY.getD i 0<256:=hkb _ (by rw [show KY.getD i 0=KY[i]'(by omega) by simp [List.getD,(by omega:i<KY.length)]];exact List.getElem_mem _)
   generalize KY.getD i 0=b at *
   have x1:bits .xor .u8 (b:Int) 54=((Nat.xor b 54:Nat):Int):=xor_u8 (b:=54) hb (by decide)
   have x2:bits .xor .u8 (b:Int) 92=((Nat.xor b 92:Nat):Int):=xor_u8 (b:=92) hb (by decide)
   clear WG DG NG
   repeat' (first|(refine wlS ?_)|(refine wlB ?_)|(refine wlE ?_)|(refine efSvvp ?_;intro v hv hp)|(refine efSvao ?_;intro v oa ho)|(refine efBnn ?_;intro n hn)|(refine efB ?_)|(refine efBS ?_)|(refine wl_skip rfl rfl ?_)|(refine wdS ?_)|(refine wdE ?_)|(refine wdT ?_)|(refine wdTO ?_)|(refine wd_skip rfl rfl ?_)|((with_reducible refine seld_nil ?_);refine wd_nil hm0 ?_;clear hm0 hw0)|((with_reducible refine wc_seq ?_);intro K hK)|(refine auC ?_)|(refine wc_cond rfl (fun hc=>?_) (fun hc=>?_))|(refine wc_draw (by kernel_rfl) (by kernel_rfl) (by decide +kernel) ?_;intro w0 hw0 hm0;(try simp only [List.append_eq,List.cons_append,List.nil_append]))|(refine auP ?_)|((refine auR ?_);clear hK K)|(refine auR ?_)|((with_reducible refine hK _ _ ?_);clear hK K)|fail)
   exact ⟨i+1,hlt,by omega,Fits.of ⟨rfl,rfl,rfl,rfl,trivial⟩ (by rw [←s1,←s2];exact SubL.refl _) rfl⟩
  ·obtain rfl:i=64:=by omega
   have t1:decide (((64:Nat):Int)<64)=false:=by decide
   have e1:∀ c,xorP KY c 64=xorL KY c:=fun c=>by rw [xorP,List.take_of_length_le (by omega),List.drop_of_length_le (by omega),List.append_nil]
   rw [e1,e1]
   haveI:ByL (xorL KY 54):=⟨xorL_byte KY (by decide) hkb⟩
   haveI:ByL (xorL KY 92):=⟨xorL_byte KY (by decide) hkb⟩
   haveI:BLc 64 (xorL KY 54):=⟨⟨by rw [xorL_len];exact hkl,ByL.out⟩,by decide⟩
   haveI:BLc 64 (xorL KY 92):=⟨⟨by rw [xorL_len];exact hkl,ByL.out⟩,by decide⟩
   clear hkb hkl e1 hi hlt
   repeat' (first|(refine wlS ?_)|(refine wlG ?_)|(refine wlB ?_)|((with_reducible refine sel_call ?_);refine wl_rd rfl rfl (rd_call rfl rfl rfl (fun w hm=>by with_reducible first|exact NG w|exact WG w (hm.below rfl) (VwB.out w hm))) ?_)|(refine wlE ?_)|(refine efSvvp ?_;intro v hv hp)|(refine efSvao ?_;intro v oa ho)|(refine efG ?_)|(refine efGnn ?_;intro n hn)|(refine efBnn ?_;intro n hn)|(refine efB ?_)|(refine efBS ?_)|(refine wl_skip rfl rfl ?_)|((with_reducible refine wc_seq ?_);intro K hK)|(refine auC ?_)|(refine wc_cond rfl (fun hc=>?_) (fun hc=>?_))|((with_reducible refine wc_drawT (by kernel_rfl) ?_);(try simp only [List.append_eq,List.cons_append,List.nil_append,List.length_cons,List.length_nil,Nat.reduceAdd]))|((with_reducible refine sel_wh ?_);(refine wh_if (by decide +kernel) ?_);first|(refine wh_take (lq:=[]) rfl rfl rfl rfl (by first|exact rvS|exact rvG|exact rvE) (Or.inl rfl) ?_)|(refine wh_takeL rfl rfl rfl rfl (by first|exact rvS|exact rvG|exact rvE) (by decide +kernel) ?_))|(refine whS ?_;intro v hv hp)|((with_reducible refine sel_wh ?_);first|(refine wh_pass rfl rfl rfl rfl ?_)|(refine wh_done rfl ?_)|(refine wh_all rfl ?_))|((with_reducible refine sel_rest ?_);first|exact rest_nil rfl|refine rest_cons rfl rfl ?_ ?_)|((with_reducible refine sel_nx ?_);first|refine next_of ?_|refine next_late (by decide +kernel) ?_)|(refine auP ?_)|((refine auR ?_);clear hK K)|(refine auR ?_)|((with_reducible refine hK _ _ ?_);clear hK K)|fail)
   first|refine end_ret (ResP.cell rfl ld_wholeG ResP.nil) ?_|refine end_normal (ResP.cell rfl ld_wholeG ResP.nil) ?_
   first|rfl|(show _=_;rfl)|(simp only [tupV, *];done)
end Go.Proofs.YthigacbelefadaaDoor
namespace Go.Proofs.YthigacbelefadaaDoor
open Go.RowKit
attribute [local irreducible] rwA bys iw
set_option linter.unusedVariables false
set_option maxRecDepth 100000
set_option linter.unusedSimpArgs false
set_option maxRecDepth 100000 in
set_option maxHeartbeats 4000000 in
theorem mwrite_g (w:World)(hT:Tab w)(w':World)(hb:Below w.heap.size w w'){st:MS}[h:MSo st]{v:Value}{n:Nat}{p:List Nat}(hq:Cb w' v n p) :
  Calls Tryd.prog 53 [mv st,v].toArray w' (Ret (mv (st.write p)) w'):=by
 have WG:=write_g w' (hT.below hb)
 have i1:=hq.old
 haveI:ByL p:=⟨hq.ok.by'⟩
 have hw:st.write p=⟨st.inner.write p,st.outer⟩:=rfl
 rw [hw]
 clear hw hb hT hq
 refine fn_ret (N:=_) Tryd.func53 rfl Tryd.ntmps53 Tryd.results53 (by simp) ?_
 simp only [initS,Nat.reduceAdd,Nat.zero_add]
 repeat' (first|(refine wlS ?_)|(refine wlG ?_)|(refine wlB ?_)|((with_reducible refine sel_call ?_);refine wl_rd rfl rfl (rd_call rfl rfl rfl (fun w hm=>by with_reducible exact WG w (hm.below rfl) (VwB.out w hm))) ?_)|(refine wlE ?_)|(refine efSvao ?_;intro v oa ho)|(refine efG ?_)|(refine efGnn ?_;intro n hn)|(refine efBnn ?_;intro n hn)|(refine efB ?_)|(refine efBS ?_)|(refine wl_skip rfl rfl ?_)|((with_reducible refine wc_seq ?_);intro K hK)|(refine auC ?_)|(refine wc_cond rfl (fun hc=>?_) (fun hc=>?_))|(refine wc_draw (by kernel_rfl) (by kernel_rfl) (by decide +kernel) ?_;intro w0 hw0 hm0;(try simp only [List.append_eq,List.cons_append,List.nil_append]))|(refine auP ?_)|((refine auR ?_);clear hK K)|(refine auR ?_)|((with_reducible refine hK _ _ ?_);clear hK K)|fail)
 first|refine end_ret (ResP.cell rfl ld_wholeG ResP.nil) ?_|refine end_normal (ResP.cell rfl ld_wholeG ResP.nil) ?_
 first|rfl|(show _=_;rfl)|(simp only [tupV, *];done)
end Go.Proofs.YthigacbelefadaaDoor
namespace Go.Proofs.YthigacbelefadaaDoor
open Go.RowKit
attribute [local irreducible] rwA bys iw
set_option linter.unusedVariables false
set_option maxRecDepth 100000
set_option linter.unusedSimpArgs false
set_option maxRecDepth 100000 in
set_option maxHeartbeats 4000000 in
theorem msum_g (w:World)(hT:Tab w)(w':World)(hb:Below w.heap.size w w'){st:MS}[h:MSo st] :
  Calls Tryd.prog 54 [mv st].toArray w' (Ret (.agg (bys st.sum)) w'):=by
 have WG:=write_g w' (hT.below hb)
 have SG:=sum_g w' (hT.below hb)
 haveI:ByL st.inner.sum:=inferInstance
 haveI:BLc 32 st.inner.sum:=⟨⟨sum_len h.inner.out,ByL.out⟩,by decide⟩
 have hw:st.sum=(st.outer.write st.inner.sum).sum:=rfl
 rw [hw]
 clear hw hb hT
 refine fn_ret (N:=_) Tryd.func54 rfl Tryd.ntmps54 Tryd.results54 (by simp) ?_
 simp only [initS,Nat.reduceAdd,Nat.zero_add]
 repeat' (first|(refine wlS ?_)|(refine wlG ?_)|(refine wlB ?_)|((with_reducible refine sel_call ?_);refine wl_rd rfl rfl (rd_call rfl rfl rfl (fun w hm=>by with_reducible first|exact WG w (hm.below rfl) (VwB.out w hm)|exact SG w (hm.below rfl))) ?_)|(refine wlE ?_)|(refine efSvvp ?_;intro v hv hp)|(refine efSvao ?_;intro v oa ho)|(refine efG ?_)|(refine efGnn ?_;intro n hn)|(refine efZCnn ?_;intro n hn)|(refine efBnn ?_;intro n hn)|(refine efB ?_)|(refine efBS ?_)|(refine wl_skip rfl rfl ?_)|((with_reducible refine wc_seq ?_);intro K hK)|(refine auC ?_)|(refine wc_cond rfl (fun hc=>?_) (fun hc=>?_))|((with_reducible refine wc_drawT (by kernel_rfl) ?_);(try simp only [List.append_eq,List.cons_append,List.nil_append,List.length_cons,List.length_nil,Nat.reduceAdd]))|((with_reducible refine sel_wh ?_);(refine wh_if (by decide +kernel) ?_);first|(refine wh_take (lq:=[]) rfl rfl rfl rfl (by first|exact rvS|exact rvG|exact rvB|exact rvE) (Or.inl rfl) ?_)|(refine wh_takeL rfl rfl rfl rfl (by first|exact rvS|exact rvG|exact rvB|exact rvE) (by decide +kernel) ?_))|(refine whS ?_;intro v hv hp)|((with_reducible refine sel_wh ?_);first|(refine wh_pass rfl rfl rfl rfl ?_)|(refine wh_done rfl ?_)|(refine wh_all rfl ?_))|((with_reducible refine sel_rest ?_);first|exact rest_nil rfl|refine rest_cons rfl rfl ?_ ?_)|((with_reducible refine sel_nx ?_);first|refine next_of ?_|refine next_late (by decide +kernel) ?_)|(refine auP ?_)|((refine auR ?_);clear hK K)|(refine auR ?_)|((with_reducible refine hK _ _ ?_);clear hK K)|fail)
 first|refine end_ret (ResP.cell rfl ld_whole ResP.nil) ?_|refine end_normal (ResP.cell rfl ld_whole ResP.nil) ?_
 first|rfl|(show _=_;rfl)|(simp only [tupV, *];done)
end Go.Proofs.YthigacbelefadaaDoor
namespace Go.Proofs.YthigacbelefadaaDoor
open Go.RowKit
attribute [local irreducible] rwA bys iw
set_option linter.unusedVariables false
set_option maxRecDepth 100000
set_option linter.unusedSimpArgs false
theorem mnew_g (w:World)(hT:Tab w)(w':World)(hb:Below w.heap.size w w'){v:Value}{n:Nat}{p:List Nat}(hq:Cb w' v n p) :
  Calls Tryd.prog 45 [v].toArray w' (Ret (mv (newM p)) w'):=mnew_c w' (hT.below hb) hq
theorem newM_ok {key:List Nat}(h:∀ x∈key,x<256):MSo (newM key):=by
 have hkb:=keyL_byte key h
 haveI:ByL (xorL (keyL key) 54):=⟨xorL_byte _ (by decide) hkb⟩
 haveI:ByL (xorL (keyL key) 92):=⟨xorL_byte _ (by decide) hkb⟩
 exact ⟨inferInstanceAs (HSo (newH.write (xorL (keyL key) 54))),inferInstanceAs (HSo (newH.write (xorL (keyL key) 92)))⟩
instance {key:List Nat}[h:ByL key]:MSo (newM key):=newM_ok h.out
instance {key p:List Nat}[ByL key][ByL p]:NBy (mark key p) 32:=inferInstanceAs (NBy ((newM key).write p).sum 32)
instance {key p:List Nat}:ByL (mark key p):=inferInstanceAs (ByL ((newM key).write p).sum)
end Go.Proofs.YthigacbelefadaaDoor
