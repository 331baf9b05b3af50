/- The package hash,walked: New. The package hash,walked: Write. Digests in plain terms: what goes on behind what;a digest's bytes are its words. hash.Pad,walked. The package hash,walked: Sum. Slices of digests of 32 bytes. Calls that write blocks which they are given. The core. Calls that write blocks which they are given. The beginning of a slice of the walk's own is again one. A block of one's own,seen in a world. Worlds seen from one in which none of the walk's own blocks was. What arguments are that came in,with how much they hold: shapes built out of shapes. Arguments that are slices of slices of bytes,and slices of integers. Calls that write blocks of the walk's own,seen from a world in which none of these was. Parts of segments: rows read,bytes copied into them. Bytes as a field,plainly: products of polynomials over bits. gf.Sub in plain terms. The walk of gf.Mul. Four bytes: as a value,as a variable. gf.column,gf.Mix,gf.Unmix. -/
import Derived.Test.YtkendlnjaopbeaaGreatDoorShaB
import Derived.Test.YtkendlnjaopbeaaGreatDoorJnAC
import Derived.Test.YtkendlnjaopbeaaGreatDoorJnAB
import Derived.Test.YtkendlnjaopbeaaGreatDoorSl
import Derived.Test.YtkendlnjaopbeaaGreatDoorRows
import Derived.ChangeSlices
import Derived.OpenShut
import Derived.WideShapes
import Derived.DataReads
import Derived.ChangeSame
namespace Go.Proofs.YtkendlnjaopbeaaGreatDoor
open Go.RowKit
set_option linter.unusedVariables false
set_option maxRecDepth 100000
set_option linter.unusedSimpArgs false
abbrev sgH (s:HS):Sg:=[(8,iw s.h),(1,#[.int .u64 (s.n:Int)]),(64,bys s.left)]
abbrev hv (s:HS):Value:=.agg (rwA (sgH s))
class HSo (s:HS):Prop where
 out:s.ok
instance {s:HS}[h:HSo s]:SegL (iw s.h) 8:=seg_iw h.out.1
instance {s:HS}[h:HSo s]:SegL (bys s.left) 64:=seg_bys h.out.2.2.1
set_option maxRecDepth 100000 in
set_option maxHeartbeats 4000000 in
theorem new_c (w:World):Calls Tryz.prog 21 #[] w (Ret (hv newH) w):=by
 refine fn_ret (N:=_) Tryz.func21 rfl Tryz.ntmps21 Tryz.results21 (by simp) ?_
 simp only [initS,Nat.reduceAdd,Nat.zero_add]
 repeat' (first|(refine wlS ?_)|(refine wlE ?_)|(refine efBnn ?_;intro n hn)|(refine efB ?_)|(refine efBS ?_)|(refine wl_skip rfl rfl ?_)|((with_reducible refine wc_seq ?_);intro K hK)|(refine auC ?_)|(refine wc_cond rfl (fun hc=>?_) (fun hc=>?_))|(refine wc_draw (by kernel_rfl) (by kernel_rfl) (by decide +kernel) ?_;intro w0 hw0 hm0;(try simp only [List.append_eq,List.cons_append,List.nil_append]))|(refine auP ?_)|((refine auR ?_);clear hK K)|(refine auR ?_)|((with_reducible refine hK _ _ ?_);clear hK K)|fail)
 first|refine end_ret (ResP.cell rfl ld_whole ResP.nil) ?_|refine end_normal (ResP.cell rfl ld_whole ResP.nil) ?_
 first|rfl|(show _=_;rfl)|(simp only [tupV, *];done)
end Go.Proofs.YtkendlnjaopbeaaGreatDoor
namespace Go.Proofs.YtkendlnjaopbeaaGreatDoor
open Go.RowKit
set_option linter.unusedVariables false
set_option maxRecDepth 100000
set_option linter.unusedSimpArgs false
def zeroH:HS:=⟨List.replicate 8 0,0,List.replicate 64 0⟩
instance:HSo zeroH:=⟨⟨rfl,by decide,rfl,by decide⟩⟩
set_option maxRecDepth 100000 in
instance:ZG Tryz.prog 69 (sgH zeroH):=⟨by kernel_rfl,inferInstance⟩
theorem take_succ' (p:List Nat)(i:Nat)(h:i<p.length):p.take (i+1)=p.take i++[p.getD i 0]:=by
 rw [List.take_add_one,List.getElem?_eq_getElem h];simp [List.getD,h]
instance {st:HS}[h:HSo st]:Cells (rwA (sgH st)) 73:=⟨rw_size inferInstance,rw_one inferInstance⟩
theorem hs_eq (st:HS)(b:Nat)(h:(st.n+1) % 18446744073709551616 % 64≠0):st.put b=⟨st.h,(st.n+1) % 18446744073709551616,st.left.set (st.n % 64) b⟩:=by
 simp only [HS.put,if_neg h]
theorem hs_eq0 (st:HS)(b:Nat)(h:(st.n+1) % 18446744073709551616 % 64=0):st.put b=⟨pressI st.h (st.left.set (st.n % 64) b),(st.n+1) % 18446744073709551616,st.left.set (st.n % 64) b⟩:=by
 simp only [HS.put,if_pos h]
set_option maxRecDepth 100000 in
set_option maxHeartbeats 8000000 in
theorem write_c (w:World)(hT:Tab w){s:HS}(hs:s.ok){v:Value}{m:Nat}{p:List Nat}(hp:Cb w v m p):Calls Tryz.prog 22 [hv s,v].toArray w (Ret (hv (s.write p)) w):=by
 haveI:=hp.old
 haveI:HSo s:=⟨hs⟩
 have hpl:=hp.ok.len
 have hpm:=hp.ok.by'
 have hnm:m≤maxLen:=by obtain ⟨_,_,_,h1,h2,_⟩:=hp.cs.ln.out;omega
 simp only [maxLen] at hnm
 have hP:∀ i,i<m→(bl p)[i]? = some (.int .u8 ((p.getD i 0:Nat):Int)):=fun i hi=>bl_get (by omega)
 have hB:∀ i,i<m→p.getD i 0<256:=fun i hi=>hpm _ (by rw [show p.getD i 0=p[i]'(by omega) by simp [List.getD,(by omega:i<p.length)]];exact List.getElem_mem _)
 clear hp
 refine fn_ret (N:=_) Tryz.func22 rfl Tryz.ntmps22 Tryz.results22 (by simp) ?_
 simp only [initS,Nat.reduceAdd,Nat.zero_add]
 repeat' (first|(refine wlS ?_)|(refine wlG ?_)|(refine wlB ?_)|(refine wlE ?_)|(refine efSvao ?_;intro v oa ho)|(refine efG ?_)|(refine efGnn ?_;intro n hn)|(refine efBnn ?_;intro n hn)|(refine efB ?_)|(refine efBS ?_)|(refine wl_skip rfl rfl ?_)|((with_reducible refine wc_seq ?_);intro K hK)|(refine auC ?_)|(refine wc_cond rfl (fun hc=>?_) (fun hc=>?_))|(refine wc_draw (by kernel_rfl) (by kernel_rfl) (by decide +kernel) ?_;intro w0 hw0 hm0;(try simp only [List.append_eq,List.cons_append,List.nil_append]))|(refine auP ?_)|((refine auR ?_);clear hK K)|(refine auR ?_)|((with_reducible refine hK _ _ ?_);clear hK K)|fail)
 rename_i n2 hn2
 refine wc_loop (σ:=Nat) (fun i=>[(1,v),(2,ptr n2),(4,ptr n),(7,v),(8,.int .i64 (m:Int)),(9,.int .i64 (i:Int))])
  (fun i=>[(n,(rwA (sgH zeroH),69)),(n2,(rwA (sgH (s.write (p.take i))),69))])
  (fun i=>i≤m) (fun i=>m - i) 0 (Nat.zero_le _) (Fits.of ⟨rfl,rfl,rfl,rfl,rfl,rfl,trivial⟩ (by rw [List.take_zero];exact SubL.refl _) rfl) ?_
 intro i hi
 by_cases hlt:i<m
 ·have t1:decide ((i:Int)<(m:Int))=true:=decide_eq_true (by omega)
  have k1:IntKind.i64.wrap ((i:Int)+1)=((i+1:Nat):Int):=by rw [wrap_i64 _ (by omega) (by omega)];omega
  have j1:(i:Int)<(m:Int):=by omega
  have g1:=hP i hlt
  have g2:=hB i hlt
  have hok:(s.write (p.take i)).ok:=HS.write_ok (fun x hx=>hpm x (List.mem_of_mem_take hx)) hs
  have hnx:s.write (p.take (i+1))=(s.write (p.take i)).put (p.getD i 0):=by rw [take_succ' p i (by omega),HS.write_snoc]
  generalize hw2:s.write (p.take (i+1))=st2 at *
  generalize s.write (p.take i)=st at *
  generalize p.getD i 0=b at *
  clear hP hB hpm hs
  haveI:HSo st:=⟨hok⟩
  obtain ⟨o1,o2,o3,o4⟩:=hok
  have m1:((st.n:Nat):Int).tmod 64=((st.n % 64:Nat):Int):=by rw [Int.tmod_eq_emod_of_nonneg (by omega)];omega
  have m2:IntKind.u64.wrap ((st.n:Int)+1)=(((st.n+1) % 18446744073709551616:Nat):Int):=by
   have:IntKind.u64.wrap ((st.n:Int)+1)=((st.n:Int)+1) % 18446744073709551616:=by simp [IntKind.wrap,IntKind.bits,IntKind.signed]
   rw [this];omega
  have m3:(((st.n+1) % 18446744073709551616:Nat):Int).tmod 64=(((st.n+1) % 18446744073709551616 % 64:Nat):Int):=by rw [Int.tmod_eq_emod_of_nonneg (by omega)];omega
  have m4:((st.n % 64:Nat):Int)<((64:Nat):Int):=by omega
  have m5:st.n % 64<64:=by omega
  by_cases h0:(st.n+1) % 18446744073709551616 % 64=0
  ·rw [h0] at m3
   have he:=hs_eq0 st b h0
   rw [he] at hnx
   clear he
   have hb:BL 64 (st.left.set (st.n % 64) b):=⟨by rw [List.length_set];exact o3,fun x hx=>by
    rcases List.mem_or_eq_of_mem_set hx with h|h
    ·exact o4 x h
    ·rw [h];exact g2⟩
   have C:∀ w',Below w.heap.size w w'→Calls Tryz.prog 29 [.agg (iw st.h),.agg (bys (st.left.set (st.n % 64) b))].toArray w' (Ret (.agg (iw (pressI st.h (st.left.set (st.n % 64) b)))) w'):=fun w' hw'=>press_c w' (hT.below hw') o1 hb
   have hl8:(pressI st.h (st.left.set (st.n % 64) b)).length=8:=by rw [pressI,addsI_len,o1]
   haveI:SegL (iw (pressI st.h (st.left.set (st.n % 64) b))) 8:=seg_iw hl8
   haveI:SegL (bys (st.left.set (st.n % 64) b)) 64:=seg_bys hb.len
   repeat' (first|(refine wlS ?_)|((with_reducible refine sel_load ?_);refine wv rfl rfl (rd_load rfl rfl (ld_sgC (p:=9) (m:=64))) ?_)|(refine wlG ?_)|(refine wlB ?_)|((with_reducible refine sel_call ?_);refine wl_rd rfl rfl (rd_call rfl rfl rfl (fun w hm=>by with_reducible exact C w (hm.below rfl))) ?_)|(refine wlE ?_)|(refine efSvao ?_;intro v oa ho)|(refine efG ?_)|(refine efGnn ?_;intro n hn)|((with_reducible refine sel_store ?_);first|refine wl_store rfl rfl (sv_sgC (p:=9) (m:=64) rfl rfl rfl One.out) ?_)|(refine efBnn ?_;intro n hn)|(refine efB ?_)|(refine efBS ?_)|(refine wl_skip rfl rfl ?_)|((with_reducible refine wc_seq ?_);intro K hK)|(refine auC ?_)|(refine wc_cond rfl (fun hc=>?_) (fun hc=>?_))|(refine wc_draw (by kernel_rfl) (by kernel_rfl) (by decide +kernel) ?_;intro w0 hw0 hm0;(try simp only [List.append_eq,List.cons_append,List.nil_append]))|(refine auP ?_)|((refine auR ?_);clear hK K)|(refine auR ?_)|((with_reducible refine hK _ _ ?_);clear hK K)|fail)
   exact ⟨i+1,hlt,by omega,Fits.of ⟨rfl,rfl,rfl,rfl,rfl,rfl,trivial⟩ (by rw [hw2,hnx];exact SubL.refl _) rfl⟩
  ·have m6:(((((st.n+1) % 18446744073709551616 % 64:Nat):Int)) == 0)=false:=by rw [beq_eq_false_iff_ne];omega
   have he:=hs_eq st b h0
   rw [he] at hnx
   clear he
   haveI:SegL (bys (st.left.set (st.n % 64) b)) 64:=seg_bys (by rw [List.length_set];exact o3)
   repeat' (first|(refine wlS ?_)|((with_reducible refine sel_load ?_);refine wv rfl rfl (rd_load rfl rfl (ld_sgC (p:=9) (m:=64))) ?_)|(refine wlG ?_)|(refine wlB ?_)|(refine wlE ?_)|(refine efSvao ?_;intro v oa ho)|(refine efG ?_)|(refine efGnn ?_;intro n hn)|((with_reducible refine sel_store ?_);first|refine wl_store rfl rfl (sv_sgC (p:=9) (m:=64) rfl rfl rfl One.out) ?_)|(refine efBnn ?_;intro n hn)|(refine efB ?_)|(refine efBS ?_)|(refine wl_skip rfl rfl ?_)|((with_reducible refine wc_seq ?_);intro K hK)|(refine auC ?_)|(refine wc_cond rfl (fun hc=>?_) (fun hc=>?_))|(refine wc_draw (by kernel_rfl) (by kernel_rfl) (by decide +kernel) ?_;intro w0 hw0 hm0;(try simp only [List.append_eq,List.cons_append,List.nil_append]))|(refine auP ?_)|((refine auR ?_);clear hK K)|(refine auR ?_)|((with_reducible refine hK _ _ ?_);clear hK K)|fail)
   exact ⟨i+1,hlt,by omega,Fits.of ⟨rfl,rfl,rfl,rfl,rfl,rfl,trivial⟩ (by rw [hw2,hnx];exact SubL.refl _) rfl⟩
 ·obtain rfl:i=m:=by omega
  have t1:decide ((i:Int)<(i:Int))=false:=decide_eq_false (by omega)
  have hok:(s.write p).ok:=HS.write_ok hpm hs
  have hall:s.write (p.take i)=s.write p:=by rw [List.take_of_length_le (by omega)]
  generalize s.write (p.take i)=st at *
  subst hall
  haveI:HSo (s.write p):=⟨hok⟩
  repeat' (first|(refine wlS ?_)|(refine wlG ?_)|(refine wlB ?_)|(refine wlE ?_)|(refine efSvao ?_;intro v oa ho)|(refine efG ?_)|(refine efGnn ?_;intro n hn)|(refine efBnn ?_;intro n hn)|(refine efB ?_)|(refine efBS ?_)|(refine wl_skip rfl rfl ?_)|((with_reducible refine wc_seq ?_);intro K hK)|(refine auC ?_)|(refine wc_cond rfl (fun hc=>?_) (fun hc=>?_))|(refine wc_draw (by kernel_rfl) (by kernel_rfl) (by decide +kernel) ?_;intro w0 hw0 hm0;(try simp only [List.append_eq,List.cons_append,List.nil_append]))|(refine auP ?_)|((refine auR ?_);clear hK K)|(refine auR ?_)|((with_reducible refine hK _ _ ?_);clear hK K)|fail)
  first|refine end_ret (ResP.cell rfl ld_whole ResP.nil) ?_|refine end_normal (ResP.cell rfl ld_whole ResP.nil) ?_
  first|rfl|(show _=_;rfl)|(simp only [tupV, *];done)
end Go.Proofs.YtkendlnjaopbeaaGreatDoor
namespace Go.Proofs.YtkendlnjaopbeaaGreatDoor
def by4 (x:Int):List Nat:=[(IntKind.u8.wrap (x / 16777216)).toNat,(IntKind.u8.wrap (x / 65536)).toNat,(IntKind.u8.wrap (x / 256)).toNat,(IntKind.u8.wrap x).toNat]
theorem wrap8 (x:Int):IntKind.u8.wrap x=x % 256:=by simp [IntKind.wrap,IntKind.bits,IntKind.signed]
theorem sumB_eq (h:List Int):sumB h=(h.map by4).flatten:=rfl
theorem sumB_len:∀ h:List Int,(sumB h).length=4 * h.length
 | []=>rfl
 | x::r=>by rw [sumB_eq,List.map_cons,List.flatten_cons,List.length_append,←sumB_eq,sumB_len r];simp [by4];omega
theorem sumB_byte (h:List Int):∀ x∈sumB h,x<256:=fun x hx=>by
 rw [sumB_eq] at hx
 obtain ⟨l,hl,hx⟩:=List.mem_flatten.1 hx
 obtain ⟨y,_,rfl⟩:=List.mem_map.1 hl
 simp only [by4,wrap8,List.mem_cons,List.not_mem_nil,or_false] at hx
 omega
theorem dig_len (p:List Nat):(dig p).length=32:=by
 rw [dig,HS.sum,sumB_len]
 have:∀ (p:List Nat) (s:HS),s.h.length=8→(s.write p).h.length=8:=fun p=>by
  induction p with
  | nil=>intro s h;exact h
  | cons b r ih=>
   intro s h
   refine ih (s.put b) ?_
   simp only [HS.put]
   split
   ·rw [pressI,addsI_len,h]
   ·exact h
 rw [this _ _ (this _ _ rfl)]
end Go.Proofs.YtkendlnjaopbeaaGreatDoor
namespace Go.Proofs.YtkendlnjaopbeaaGreatDoor
open Go.RowKit
set_option linter.unusedVariables false
set_option maxRecDepth 100000
set_option linter.unusedSimpArgs false
set_option maxRecDepth 100000 in
set_option maxHeartbeats 4000000 in
theorem pad_c (n:Nat)(hn:n<18446744073709551616)(w:World):Calls Tryz.prog 30 [.int .u64 (n:Int)].toArray w (RetO (fun v=>v) (fun v oa=>OwnB 5 v (padK n+9) (padL n) oa) w):=by
 refine fn_own (N:=_) Tryz.func30 rfl Tryz.ntmps30 Tryz.results30 (by simp) ?_
 simp only [initS,Nat.reduceAdd,Nat.zero_add]
 repeat' (first|(refine wlS ?_)|(refine wlB ?_)|(refine wlE ?_)|(refine efSvao ?_;intro v oa ho)|(refine wl_skip rfl rfl ?_)|((with_reducible refine wc_seq ?_);intro K hK)|(refine auC ?_)|(refine wc_cond rfl (fun hc=>?_) (fun hc=>?_))|(refine wc_draw (by kernel_rfl) (by kernel_rfl) (by decide +kernel) ?_;intro w0 hw0 hm0;(try simp only [List.append_eq,List.cons_append,List.nil_append]))|(refine auP ?_)|((refine auR ?_);clear hK K)|(refine auR ?_)|((with_reducible refine hK _ _ ?_);clear hK K)|fail)
 refine wc_loop (σ:=Nat×Value×Blks) (fun x=>[(0,.int .u64 (n:Int)),(3,x.2.1)]) (fun x=>x.2.2)
  (fun x=>x.1≤padK n∧OwnB 5 x.2.1 (1+x.1) ([128]++List.replicate x.1 0) x.2.2) (fun x=>padK n - x.1) (0,v,oa) ⟨Nat.zero_le _,ho⟩ (Fits.of ⟨rfl,rfl,trivial⟩ (SubL.refl _) rfl) ?_
 clear ho v oa
 rintro ⟨k,v,oa⟩ ⟨hk,ho⟩
 dsimp only at hk ho
 have hp:=padK_lt n
 have hc:IntKind.u64.wrap ((1+k:Nat):Int)=((1+k:Nat):Int):=by rw [wrapU];omega
 have ha:IntKind.u64.wrap ((n:Int)+((1+k:Nat):Int))=(((n+(1+k)) % 18446744073709551616:Nat):Int):=by rw [←wrapU];congr 1
 have hr:((((n+(1+k)) % 18446744073709551616:Nat):Int)).tmod 64=(((n+(1+k)) % 64:Nat):Int):=by rw [rem_nn _ _ (by omega)];omega
 by_cases hlt:k<padK n
 ·have t1:((((n+(1+k)) % 64:Nat):Int) != (56:Int))=true:=by
   unfold padK at hlt hp
   rw [bne_iff_ne];omega
  repeat' (first|(refine wlS ?_)|(refine wlB ?_)|(refine wlE ?_)|(refine efSvao ?_;intro v oa ho)|(refine wl_skip rfl rfl ?_)|((with_reducible refine wc_seq ?_);intro K hK)|(refine auC ?_)|(refine wc_cond rfl (fun hc=>?_) (fun hc=>?_))|(refine wc_draw (by kernel_rfl) (by kernel_rfl) (by decide +kernel) ?_;intro w0 hw0 hm0;(try simp only [List.append_eq,List.cons_append,List.nil_append]))|(refine auP ?_)|((refine auR ?_);clear hK K)|(refine auR ?_)|((with_reducible refine hK _ _ ?_);clear hK K)|fail)
  exact ⟨(k+1,v,oa),⟨hlt,by rw [List.append_assoc,rep_snoc] at ho;exact ho⟩,by dsimp only;omega,Fits.of ⟨rfl,rfl,trivial⟩ (SubL.headA _ _) rfl⟩
 ·obtain rfl:k=padK n:=by omega
  have t1:((((n+(1+padK n)) % 64:Nat):Int) != (56:Int))=false:=by
   have:(n+(1+padK n)) % 64=56:=by unfold padK;omega
   rw [this];rfl
  repeat' (first|(refine wlS ?_)|(refine wlB ?_)|(refine wlE ?_)|(refine efSvao ?_;intro v oa ho)|(refine wl_skip rfl rfl ?_)|((with_reducible refine wc_seq ?_);intro K hK)|(refine auC ?_)|(refine wc_cond rfl (fun hc=>?_) (fun hc=>?_))|(refine wc_draw (by kernel_rfl) (by kernel_rfl) (by decide +kernel) ?_;intro w0 hw0 hm0;(try simp only [List.append_eq,List.cons_append,List.nil_append]))|(refine auP ?_)|((refine auR ?_);clear hK K)|(refine auR ?_)|((with_reducible refine hK _ _ ?_);clear hK K)|fail)
  refine wc_loop (σ:=Nat×Value×Blks) (fun x=>[(0,.int .u64 (n:Int)),(3,x.2.1),(16,.int .i64 (x.1:Int))]) (fun x=>x.2.2)
   (fun x=>x.1≤8∧OwnB 5 x.2.1 (1+padK n+x.1) ([128]++List.replicate (padK n) 0++(List.range x.1).map fun i=>8 * n % 18446744073709551616 / 2 ^ (56 - 8 * i) % 256) x.2.2) (fun x=>8 - x.1) (0,v,oa)
   ⟨Nat.zero_le _,by simpa using ho⟩ (Fits.of ⟨rfl,rfl,rfl,trivial⟩ (SubL.refl _) rfl) ?_
  clear ho v oa hc ha hr t1 hlt
  rintro ⟨k,v,oa⟩ ⟨hk8,ho⟩
  dsimp only at hk8 ho
  by_cases hlt:k<8
  ·have t1:decide ((k:Int)<8)=true:=decide_eq_true (by omega)
   have h8:IntKind.u64.wrap (8 * (n:Int))=((8 * n % 18446744073709551616:Nat):Int):=by rw [←wrapU];rfl
   have hs:IntKind.u64.wrap (56 - 8 * (k:Int))=((56 - 8 * k:Nat):Int):=by rw [show (56 - 8 * (k:Int))=((56 - 8 * k:Nat):Int) by omega,wrapU];omega
   have hsh:(((8 * n % 18446744073709551616:Nat):Int)) / 2 ^ (min (((56 - 8 * k:Nat):Int).toNat) IntKind.u64.bits)=((8 * n % 18446744073709551616 / 2 ^ (56 - 8 * k):Nat):Int):=by
    rw [Int.toNat_natCast,Nat.min_eq_left (by simp [IntKind.bits];omega)];norm_cast
   have hb:IntKind.u8.wrap ((8 * n % 18446744073709551616 / 2 ^ (56 - 8 * k):Nat):Int)=((8 * n % 18446744073709551616 / 2 ^ (56 - 8 * k) % 256:Nat):Int):=wrapB _
   have hk1:IntKind.i64.wrap ((k:Int)+1)=((k+1:Nat):Int):=wrap_i64 _ (by omega) (by omega)
   repeat' (first|(refine wlS ?_)|(refine wlB ?_)|(refine wlE ?_)|(refine efSvao ?_;intro v oa ho)|(refine wl_skip rfl rfl ?_)|((with_reducible refine wc_seq ?_);intro K hK)|(refine auC ?_)|(refine wc_cond rfl (fun hc=>?_) (fun hc=>?_))|(refine wc_draw (by kernel_rfl) (by kernel_rfl) (by decide +kernel) ?_;intro w0 hw0 hm0;(try simp only [List.append_eq,List.cons_append,List.nil_append]))|(refine auP ?_)|((refine auR ?_);clear hK K)|(refine auR ?_)|((with_reducible refine hK _ _ ?_);clear hK K)|fail)
   exact ⟨(k+1,v,oa),⟨hlt,by rw [List.append_assoc,range_snoc (f:=fun i=>8 * n % 18446744073709551616 / 2 ^ (56 - 8 * i) % 256)] at ho;exact ho⟩,by dsimp only;omega,Fits.of ⟨rfl,rfl,rfl,trivial⟩ (SubL.headA _ _) rfl⟩
  ·obtain rfl:k=8:=by omega
   have t1:decide (((8:Nat):Int)<8)=false:=by decide
   have hpl:padK n+9=1+padK n+8:=by omega
   have hpp:padL n=[128]++List.replicate (padK n) 0++(List.range 8).map fun i=>8 * n % 18446744073709551616 / 2 ^ (56 - 8 * i) % 256:=by rw [List.append_assoc];rfl
   repeat' (first|(refine wlS ?_)|(refine wlB ?_)|(refine wlE ?_)|(refine efSvao ?_;intro v oa ho)|(refine wl_skip rfl rfl ?_)|((with_reducible refine wc_seq ?_);intro K hK)|(refine auC ?_)|(refine wc_cond rfl (fun hc=>?_) (fun hc=>?_))|(refine wc_draw (by kernel_rfl) (by kernel_rfl) (by decide +kernel) ?_;intro w0 hw0 hm0;(try simp only [List.append_eq,List.cons_append,List.nil_append]))|(refine auP ?_)|((refine auR ?_);clear hK K)|(refine auR ?_)|((with_reducible refine hK _ _ ?_);clear hK K)|fail)
   first|refine end_ret (ResP.tmp rfl ResP.nil) ?_|refine end_normal (ResP.tmp rfl ResP.nil) ?_
   (try dsimp only [tupV])
   exact ⟨_,_,rfl,by rw [hpl,hpp];exact ho,SubL.refl _⟩
end Go.Proofs.YtkendlnjaopbeaaGreatDoor
namespace Go.Proofs.YtkendlnjaopbeaaGreatDoor
open Go.RowKit
set_option linter.unusedVariables false
set_option maxRecDepth 100000
set_option linter.unusedSimpArgs false
theorem set4 {α:Type}(A R:List α)(a b c d z0 z1 z2 z3:α)(k:Nat)(hk:A.length=k) :
  ((((A++z0::z1::z2::z3::R).set k a).set (k+1) b).set (k+2) c).set (k+3) d=(A++[a,b,c,d])++R:=by
 subst hk
 simp [List.set_append_right]
def outB (h:List Int)(i:Nat):List Nat:=sumB (h.take i)++List.replicate (32 - 4 * i) 0
theorem outB_len (h:List Int)(hh:h.length=8){i:Nat}(hi:i≤8):(outB h i).length=32:=by
 rw [outB,List.length_append,sumB_len,List.length_take,List.length_replicate];omega
theorem outB_step (h:List Int)(hh:h.length=8){i:Nat}(hi:i<8){a b c d:Nat}(he:by4 (h.getD i 0)=[a,b,c,d]) :
  ((((outB h i).set (4 * i) a).set (4 * i+1) b).set (4 * i+2) c).set (4 * i+3) d=outB h (i+1):=by
 have e1:List.replicate (32 - 4 * i) 0=0::0::0::0::List.replicate (32 - 4 * (i+1)) 0:=by
  rw [show 32 - 4 * i=32 - 4 * (i+1)+1+1+1+1 by omega];rfl
 have e2:h.take (i+1)=h.take i++[h.getD i 0]:=by
  rw [List.take_add_one,List.getElem?_eq_getElem (by omega)];simp [List.getD,(by omega:i<h.length)]
 rw [outB,e1,set4 _ _ a b c d _ _ _ _ (4 * i) (by rw [sumB_len,List.length_take];omega),outB,e2]
 congr 1
 rw [sumB_eq,sumB_eq,List.map_append,List.flatten_append,List.map_cons,List.map_nil,List.flatten_cons,List.flatten_nil,List.append_nil,he]
class NBy (l:List Nat)(n:outParam Nat):Prop where
 out:l.length=n
instance {l:List Nat}{n i k:Nat}[h:NBy l n]:NBy (l.set i k) n:=⟨by rw [List.length_set,h.out]⟩
instance {n x:Nat}:NBy (List.replicate n x) n:=⟨by simp⟩
instance {l:List Nat}{n:Nat}[h:NBy l n]:Cells (bys l) n:=⟨(seg_bys h.out).size,(seg_bys h.out).one⟩
instance {l:List Nat}{n:Nat}[h:NBy l n]:SegL (bys l) n:=seg_bys h.out
instance:ZC Tryz.prog 43 (bys (List.replicate 32 0)):=⟨by kernel_rfl⟩
theorem padL_byte (n:Nat):∀ x∈padL n,x<256:=fun x hx=>by
 rcases List.mem_cons.1 hx with rfl|hx
 ·decide
 ·rcases List.mem_append.1 hx with h|h
  ·rw [(List.mem_replicate.1 h).2];decide
  ·obtain ⟨i,_,rfl⟩:=List.mem_map.1 h
   exact Nat.mod_lt _ (by decide)
set_option maxRecDepth 100000 in
set_option maxHeartbeats 8000000 in
theorem sum_c (w:World)(hT:Tab w){s:HS}(hs:s.ok):Calls Tryz.prog 23 [hv s].toArray w (Ret (.agg (bys s.sum)) w):=by
 haveI:HSo s:=⟨hs⟩
 obtain ⟨o1,o2,o3,o4⟩:=id hs
 have P1:=fun w'=>pad_c s.n o2 w'
 have W1:∀ w' v,Below w.heap.size w w'→Cb w' v (padK s.n+9) (padL s.n)→Calls Tryz.prog 22 [hv s,v].toArray w' (Ret (hv (s.write (padL s.n))) w'):=fun w' v hb hv=>write_c w' (hT.below hb) hs hv
 have hpb:∀ x∈padL s.n,x<256:=padL_byte s.n
 have hs2:(s.write (padL s.n)).ok:=HS.write_ok hpb hs
 have hsum:s.sum=sumB (s.write (padL s.n)).h:=rfl
 rw [hsum]
 generalize s.write (padL s.n)=t at *
 haveI:HSo t:=⟨hs2⟩
 obtain ⟨q1,q2,q3,q4⟩:=hs2
 have hlast:sumB t.h=outB t.h 8:=by rw [outB,List.take_of_length_le (by omega)];simp
 rw [hlast]
 clear hT hpb hsum hlast hs
 refine fn_ret (N:=_) Tryz.func23 rfl Tryz.ntmps23 Tryz.results23 (by simp) ?_
 simp only [initS,Nat.reduceAdd,Nat.zero_add]
 repeat' (first|(refine wlS ?_)|(refine wlG ?_)|(refine wlB ?_)|((with_reducible refine sel_call ?_);refine wl_rd rfl rfl (rd_call rfl rfl rfl (fun w hm=>by with_reducible exact W1 w _ (hm.below rfl) (VwB.out w hm))) ?_)|(refine wlE ?_)|(refine efSvao ?_;intro v oa ho)|(refine efG ?_)|(refine efGnn ?_;intro n hn)|(refine efZCnn ?_;intro n hn)|((with_reducible refine sel_call ?_);first|(refine wl_newO rfl rfl rfl rfl rfl (fun w hm=>by with_reducible exact P1 w) ?_;intro x oa hx))|(refine efBnn ?_;intro n hn)|(refine efB ?_)|(refine efBS ?_)|(refine wl_skip rfl rfl ?_)|((with_reducible refine wc_seq ?_);intro K hK)|(refine auC ?_)|(refine wc_cond rfl (fun hc=>?_) (fun hc=>?_))|((with_reducible refine wc_drawT (by kernel_rfl) ?_);(try simp only [List.append_eq,List.cons_append,List.nil_append,List.length_cons,List.length_nil,Nat.reduceAdd]))|((with_reducible refine sel_wh ?_);(refine wh_if (by decide +kernel) ?_);first|(refine wh_take (lq:=[]) rfl rfl rfl rfl (by first|exact rvS|exact rvG|exact rvB|exact rvE) (Or.inl rfl) ?_)|(refine wh_takeL rfl rfl rfl rfl (by first|exact rvS|exact rvG|exact rvB|exact rvE) (by decide +kernel) ?_))|(refine whS ?_;intro v hv hp)|((with_reducible refine sel_wh ?_);first|(refine wh_pass rfl rfl rfl rfl ?_)|(refine wh_done rfl ?_)|(refine wh_all rfl ?_))|((with_reducible refine sel_rest ?_);first|exact rest_nil rfl|refine rest_cons rfl rfl ?_ ?_)|((with_reducible refine sel_nx ?_);first|refine next_of ?_|refine next_late (by decide +kernel) ?_)|(refine auP ?_)|((refine auR ?_);clear hK K)|(refine auR ?_)|((with_reducible refine hK _ _ ?_);clear hK K)|fail)
 rename_i n1 hn1 n2 hn2
 have e0:outB t.h 0=List.replicate 32 0:=rfl
 refine wc_loop (σ:=Nat) (fun i=>[(2,ptr n2),(3,ptr n),(12,.agg (iw t.h)),(13,.int .i64 (i:Int))])
  (fun i=>[(n,(bys (outB t.h i),43)),(n2,(bys (List.replicate 32 0),43))])
  (fun i=>i≤8) (fun i=>8 - i) 0 (Nat.zero_le _) (Fits.of ⟨rfl,rfl,rfl,rfl,trivial⟩ (by rw [e0];exact .keep (.keep .nil)) rfl) ?_
 intro i hi
 haveI:NBy (outB t.h i) 32:=⟨outB_len t.h q1 hi⟩
 by_cases hlt:i<8
 ·have t1:decide ((i:Int)<8)=true:=decide_eq_true (by omega)
  have k1:IntKind.i64.wrap ((i:Int)+1)=((i+1:Nat):Int):=by rw [wrap_i64 _ (by omega) (by omega)];omega
  have k4:IntKind.i64.wrap (4 * (i:Int))=((4 * i:Nat):Int):=by rw [wrap_i64 _ (by omega) (by omega)];omega
  have k5:IntKind.i64.wrap (((4 * i:Nat):Int)+1)=((4 * i+1:Nat):Int):=by rw [wrap_i64 _ (by omega) (by omega)];omega
  have k6:IntKind.i64.wrap (((4 * i:Nat):Int)+2)=((4 * i+2:Nat):Int):=by rw [wrap_i64 _ (by omega) (by omega)];omega
  have k7:IntKind.i64.wrap (((4 * i:Nat):Int)+3)=((4 * i+3:Nat):Int):=by rw [wrap_i64 _ (by omega) (by omega)];omega
  have j0:(i:Int)<((8:Nat):Int):=by omega
  have j1:((4 * i:Nat):Int)<((32:Nat):Int):=by omega
  have j2:((4 * i+1:Nat):Int)<((32:Nat):Int):=by omega
  have j3:((4 * i+2:Nat):Int)<((32:Nat):Int):=by omega
  have j4:((4 * i+3:Nat):Int)<((32:Nat):Int):=by omega
  have g:(iw t.h)[((i:Nat):Int).toNat]? = some (.int .u32 (t.h.getD i 0)):=iw_get (l:=t.h) (i:=i) (by omega)
  have hst:=fun a b c d=>outB_step t.h q1 hlt (a:=a) (b:=b) (c:=c) (d:=d)
  generalize t.h.getD i 0=x at *
  have s24:x / 2 ^ (min ((24:Int).toNat) IntKind.u32.bits)=x / 16777216:=rfl
  have s16:x / 2 ^ (min ((16:Int).toNat) IntKind.u32.bits)=x / 65536:=rfl
  have s8:x / 2 ^ (min ((8:Int).toNat) IntKind.u32.bits)=x / 256:=rfl
  obtain ⟨a,ha⟩:∃ a:Nat,IntKind.u8.wrap (x / 16777216)=(a:Int):=⟨_,(Int.toNat_of_nonneg (by rw [wrap8];omega)).symm⟩
  obtain ⟨b,hb⟩:∃ a:Nat,IntKind.u8.wrap (x / 65536)=(a:Int):=⟨_,(Int.toNat_of_nonneg (by rw [wrap8];omega)).symm⟩
  obtain ⟨c,hc⟩:∃ a:Nat,IntKind.u8.wrap (x / 256)=(a:Int):=⟨_,(Int.toNat_of_nonneg (by rw [wrap8];omega)).symm⟩
  obtain ⟨d,hd⟩:∃ a:Nat,IntKind.u8.wrap x=(a:Int):=⟨_,(Int.toNat_of_nonneg (by rw [wrap8];omega)).symm⟩
  replace hst:=hst a b c d (by rw [by4,ha,hb,hc,hd];rfl)
  clear hi
  repeat' (first|(refine wlS ?_)|(refine wlB ?_)|(refine efBnn ?_;intro n hn)|(refine efB ?_)|(refine efBS ?_)|(refine wl_skip rfl rfl ?_)|(refine wdS ?_)|(refine wdV ?_)|(refine wdB ?_)|(refine wdE ?_)|(refine wdT ?_)|(refine wdTO ?_)|(refine wd_skip rfl rfl ?_)|((with_reducible refine seld_nil ?_);refine wd_nil hm0 ?_;clear hm0 hw0)|((with_reducible refine wc_seq ?_);intro K hK)|(refine auC ?_)|(refine wc_cond rfl (fun hc=>?_) (fun hc=>?_))|(refine wc_draw (by kernel_rfl) (by kernel_rfl) (by decide +kernel) ?_;intro w0 hw0 hm0;(try simp only [List.append_eq,List.cons_append,List.nil_append]))|(refine auP ?_)|((refine auR ?_);clear hK K)|(refine auR ?_)|((with_reducible refine hK _ _ ?_);clear hK K)|fail)
  exact ⟨i+1,hlt,by omega,Fits.of ⟨rfl,rfl,rfl,rfl,trivial⟩ (by rw [←hst];exact SubL.refl _) rfl⟩
 ·obtain rfl:i=8:=by omega
  have t1:decide (((8:Nat):Int)<8)=false:=by decide
  repeat' (first|(refine wlS ?_)|(refine wlB ?_)|(refine efBnn ?_;intro n hn)|(refine efB ?_)|(refine efBS ?_)|(refine wl_skip rfl rfl ?_)|(refine wdS ?_)|(refine wdV ?_)|(refine wdB ?_)|(refine wdE ?_)|(refine wdT ?_)|(refine wdTO ?_)|(refine wd_skip rfl rfl ?_)|((with_reducible refine seld_nil ?_);refine wd_nil hm0 ?_;clear hm0 hw0)|((with_reducible refine wc_seq ?_);intro K hK)|(refine auC ?_)|(refine wc_cond rfl (fun hc=>?_) (fun hc=>?_))|(refine wc_draw (by kernel_rfl) (by kernel_rfl) (by decide +kernel) ?_;intro w0 hw0 hm0;(try simp only [List.append_eq,List.cons_append,List.nil_append]))|(refine auP ?_)|((refine auR ?_);clear hK K)|(refine auR ?_)|((with_reducible refine hK _ _ ?_);clear hK K)|fail)
  first|refine end_ret (ResP.cell rfl ld_whole ResP.nil) ?_|refine end_normal (ResP.cell rfl ld_whole ResP.nil) ?_
  first|rfl|(show _=_;rfl)|(simp only [tupV, *];done)
end Go.Proofs.YtkendlnjaopbeaaGreatDoor
namespace Go.Proofs.YtkendlnjaopbeaaGreatDoor
open Go.RowKit
set_option linter.unusedVariables false
set_option linter.unusedSimpArgs false
section
variable {X:Cx}{s:Slots}{l:Blks}{o:Oper}{v:Value}{Q:Post}{ops:Array Oper}{r:List Oper}
end
section
variable {X:Cx}{G:Hg}{s:Slots}{b:Blks}{v:Value}{Q:Post}{l:List Nat}{fuel:Nat}
end
end Go.Proofs.YtkendlnjaopbeaaGreatDoor
namespace Go.Proofs.YtkendlnjaopbeaaGreatDoor
open Go.RowKit
set_option linter.unusedVariables false
set_option linter.unusedSimpArgs false
def RetU {T:Type}(mk:T→Value)(oa:Blks)(Φ:T→Blks→Prop)(w:World)(e:Ending)(w':World):Prop:=∃ x oa',e=.returned (mk x)∧Φ x oa'∧Upd w oa w' oa'
theorem Mem.initO {P:Program}{W:World}{N:Nat}{oa:Blks}(nd:(keys oa).Nodup)(hd:Hd oa W):Mem ⟨P,W,N,keys oa⟩ oa W:=
 ⟨nd,⟨rfl,rfl,rfl,Nat.le_refl _,fun _ _ _=>rfl,fun k c t h=>hd (k,(c,t)) (mu_in h)⟩,fun _ h _=>h⟩
theorem Mem.toUpd {P:Program}{W w:World}{N:Nat}{oa oa':Blks}(hm:Mem ⟨P,W,N,keys oa⟩ oa' w):Upd W oa w oa':=
 ⟨hm.cls.os,hm.cls.tape,hm.cls.output,hm.cls.size,fun k hk hn=>hm.cls.old k hk hn,hm.nd,fun p hp=>hm.cls.now p.1 p.2.1 p.2.2 (mu_mem_of hp hm.nd),fun n hn=>by
  rcases Nat.lt_or_ge n W.heap.size with h|h
  ·exact .inl (hm.fresh n hn h)
  ·exact .inr h⟩
theorem fn_upd {T:Type}{mk:T→Value}{oa:Blks}{Φ:T→Blks→Prop}{P:Program}{f:Nat}{fn:Func}{c:Code}{vs:List Value}{W:World}{N:Nat}(hf:P.funcs[f]? = some fn)(hb:fn.body=some c)(hN:fn.ntmps=N){rs:List ResultVar}(hrs:fn.results=rs.toArray)(hl:vs.length≤N)
  (nd:(keys oa).Nodup) (hd:Hd oa W) (h:Wc ⟨P,W,N,keys oa⟩ c (endP ⟨P,W,N,keys oa⟩ rs fun u l=>∃ x oa',u=mk x∧Φ x oa'∧SubL oa' l) (initS vs 0) oa):Calls P f vs.toArray W (RetU mk oa Φ W):=
 (fn_calls hf hb hN hrs hl (Mem.initO nd hd) h).mono fun e w' ⟨u,l,he,⟨x,oa',hu,hφ,hs⟩,hm⟩=>⟨x,oa',by rw [he,hu],hφ,(hm.sub hs).toUpd⟩
theorem Cs.oldX {W:World}{v:Value}{n:Nat}{xs:List Value}{own:List Nat}(h:Cs W v n xs)(ha:elB v∉own):CsF (Old W own) v n xs:=⟨h.ln,fun w ho=>h.stay fun b off cap hv hlt=>ho b hlt (by subst hv;exact ha)⟩
section
variable {X:Cx}{s:Slots}{l:Blks}{o:Oper}{v:Value}{Q:Post}{ops:Array Oper}{r:List Oper}
theorem Mem.hd {w:World}{oa:Blks}{f:Blks→Blks}(hm:Mem X l w)[hs:Seg l oa f]:Hd oa w:=fun p hp=>by
 obtain ⟨pre,post,rfl,_⟩:=hs.out
 exact hm.cls.now p.1 p.2.1 p.2.2 (mu_mem_of (by simp [hp]) hm.nd)
theorem wl_updO {T:Type}{mk:T→Value}{oa:Blks}{Φ:T→Blks→Prop}{c:Call}{fi:Nat}{vs:List Value}{f:Blks→Blks}{s':T→Slots}(hg:gd s ops o=some true)(hd:dOk X.N o.dst=true)(ho:o.op=.call c)(hc:c.callee=.value (.func fi))(ha:vals s c.args.toList=some vs)
  (hC:∀ w,Mem X l w→Hd oa w→Calls X.P fi vs.toArray w (RetU mk oa Φ w)) [hf:Seg l oa f] (h:∀ x oa',Φ x oa'→Wl X ops Q r (s' x) (f oa')) (hk:callOk X.P fi=true:=by kernel_rfl)
  (hs':∀ x,sputO s o.dst (mk x)=s' x:=by intro _;(try dsimp only [sputO,sput,Nat.reduceBEq,cond_true,cond_false,beq_self_eq_true]);first|done|exact rfl):Wl X ops Q (o::r) s l:=fun a w hst=>by
 obtain rfl:(fun x=>sputO s o.dst (mk x))=s':=funext hs'
 have hw:=gd_wanted hst.env hg
 unfold wpList
 rw [if_pos hw]
 refine .inl ?_
 unfold Oper.wp
 rw [run_op_call ho hc hst.env ha,run_enter hk]
 refine (hC w hst.mem hst.mem.hd).mono fun e w' ⟨x,oa',he,hφ,hup⟩=>?_
 subst he
 exact h x oa' hφ _ _ ⟨hst.env.put hd _,hup.mem hst.mem⟩
end
end Go.Proofs.YtkendlnjaopbeaaGreatDoor
namespace Go.Proofs.YtkendlnjaopbeaaGreatDoor
open Go.RowKit
set_option linter.unusedVariables false
set_option linter.unusedSimpArgs false
section
variable {X:Cx}{s:Slots}{l:Blks}{o:Oper}{v:Value}{Q:Post}{ops:Array Oper}{r:List Oper}
end
end Go.Proofs.YtkendlnjaopbeaaGreatDoor
namespace Go.Proofs.YtkendlnjaopbeaaGreatDoor
open Go.RowKit
set_option linter.unusedVariables false
set_option maxRecDepth 100000
set_option linter.unusedSimpArgs false
section
variable {X:Cx}{s:Slots}{l:Blks}{o:Oper}{v:Value}{Q:Post}{ops:Array Oper}{r:List Oper}
end
section
variable {X:Cx}{G:Hg}{s:Slots}{b:Blks}{v:Value}{Q:Post}{l:List Nat}{fuel:Nat}
end
end Go.Proofs.YtkendlnjaopbeaaGreatDoor
namespace Go.Proofs.YtkendlnjaopbeaaGreatDoor
open Go.RowKit
set_option linter.unusedVariables false
set_option linter.unusedSimpArgs false
theorem At.skipA {n:Nat}{x y:Array Value×TypeId}{r r':Blks}(h:At r n x y r'):∀ ob:Blks,At (ob++r) n x y (ob++r')
 | []=>h
 | _::o=>.there (At.skipA h o)
theorem Inn.skipA {n:Nat}{x:Array Value×TypeId}{r:Blks}(h:Inn r n x):∀ ob:Blks,Inn (ob++r) n x
 | []=>h
 | _::o=>.there (Inn.skipA h o)
theorem Has.sees {X:Cx}{l:Blks}{n:Nat}{c:Array Value}{e:Nat}{w:World}(hm:Mem X l w)(h:Inn l n (c,e):=by repeat (first|exact Inn.here (by first|with_unfolding_all rfl|assumption)|apply Inn.there|apply Inn.skipA)):w.heap[n]? = some (.cells c e):=Has.inn h w hm
end Go.Proofs.YtkendlnjaopbeaaGreatDoor
namespace Go.Proofs.YtkendlnjaopbeaaGreatDoor
open Go.RowKit
set_option linter.unusedVariables false
set_option maxRecDepth 100000
set_option linter.unusedSimpArgs false
theorem Msk.belowO {w0 W w:World}{own:List Nat}{m:Mu}(h:Msk W own m w)(hb:Below w0.heap.size w0 W)(hf:∀ k∈own,w0.heap.size≤k):Below w0.heap.size w0 w:=
 ⟨h.os.trans hb.os,h.tape.trans hb.tape,h.output.trans hb.output,Nat.le_trans hb.size h.size,fun k hk=>by
  rw [h.old k (Nat.lt_of_lt_of_le hk hb.size) (fun hin=>absurd (hf k hin) (by omega))]
  exact hb.block k hk⟩
theorem Mem.belowO {P:Program}{w0 W w:World}{N:Nat}{own:List Nat}{l:Blks}(h:Mem ⟨P,W,N,own⟩ l w)(hb:Below w0.heap.size w0 W)(hf:∀ k∈own,w0.heap.size≤k):Below w0.heap.size w0 w:=h.cls.belowO hb hf
theorem Mem.freshS {P:Program}{W w:World}{N:Nat}{l oa:Blks}{f:Blks→Blks}(h:Mem ⟨P,W,N,[]⟩ l w)[hs:Seg l oa f]:∀ k∈keys oa,W.heap.size≤k:=fun k hk=>by
 obtain ⟨pre,post,rfl,_⟩:=hs.out
 rcases Nat.lt_or_ge k W.heap.size with h1|h1
 ·have:=h.fresh k (by simp only [keys_app,List.mem_append];exact .inr (.inl hk)) h1
  cases this
 ·exact h1
theorem Mem.freshO {P:Program}{w0 W w:World}{N:Nat}{own:List Nat}{l oa:Blks}{f:Blks→Blks}(h:Mem ⟨P,W,N,own⟩ l w)(hb:Below w0.heap.size w0 W)(hf:∀ k∈own,w0.heap.size≤k)[hs:Seg l oa f]:∀ k∈keys oa,w0.heap.size≤k:=fun k hk=>by
 obtain ⟨pre,post,rfl,_⟩:=hs.out
 rcases Nat.lt_or_ge k W.heap.size with h1|h1
 ·exact hf k (h.fresh k (by simp only [keys_app,List.mem_append];exact .inr (.inl hk)) h1)
 ·exact Nat.le_trans hb.size h1
theorem Mem.ndS {X:Cx}{w:World}{l oa:Blks}{f:Blks→Blks}(h:Mem X l w)[hs:Seg l oa f]:(keys oa).Nodup:=by
 obtain ⟨pre,post,rfl,_⟩:=hs.out
 have:=h.nd
 simp only [keys_app,List.nodup_append] at this
 exact this.2.1.1
theorem Cs.nl {W:World}{v:Value}{n:Nat}{xs:List Value}(h:Cs W v n xs)(hx:xs≠[]):elB v<W.heap.size:=by
 cases xs with
 | nil=>exact absurd rfl hx
 | cons y r=>
  obtain ⟨b,off,cap,rfl,hc⟩:=h.cell 0 y rfl
  exact World.block_lt_of_cell? _ _ hc
theorem Cs.oldY {W:World}{v:Value}{n:Nat}{xs:List Value}{own:List Nat}(h:Cs W v n xs)(ha:xs≠[]→elB v∉own):CsF (Old W own) v n xs:=by
 by_cases hx:xs=[]
 ·subst hx
  exact ⟨h.ln,fun w _=>⟨h.ln,fun j u hj=>by simp at hj⟩⟩
 ·exact h.oldX (ha hx)
theorem Cs.oldB {w0 W:World}{v:Value}{n:Nat}{xs:List Value}{own:List Nat}(h:Cs w0 v n xs)(hb:Below w0.heap.size w0 W)(hf:∀ k∈own,w0.heap.size≤k):CsF (Old W own) v n xs:=
 (h.below hb).oldY fun hx hin=>by
  have:=h.nl hx
  have:=hf _ hin
  omega
theorem Cb.oldB {w0 W:World}{v:Value}{n:Nat}{p:List Nat}{own:List Nat}(h:Cb w0 v n p)(hb:Below w0.heap.size w0 W)(hf:∀ k∈own,w0.heap.size≤k):CsB (Old W own) v n p:=⟨h.cs.oldB hb hf,h.ok⟩
theorem cell_of {w:World}{n j:Nat}{c:Array Value}{t:TypeId}{v:Value}(h:w.heap[n]? = some (.cells c t))(hv:c[j]? = some v):w.cell? ⟨n,j,none⟩=some v:=by
 simp [World.cell?,h,hv]
end Go.Proofs.YtkendlnjaopbeaaGreatDoor
namespace Go.Proofs.YtkendlnjaopbeaaGreatDoor
open Go.RowKit Go.ChangeShapes Go.WideShapes
set_option linter.unusedVariables false
set_option linter.unusedSimpArgs false
theorem bulk_one {H:Type}(d:DataW H):1≤Rows.uptoBulk d:=by
 cases d with
 | lit l=>cases l <;> simp [Rows.uptoBulk]
 | _=>simp [Rows.uptoBulk]
theorem bulk_len {H:Type}:∀ l:List (DataW H),l.length≤Rows.uptoBulkAll l
 | []=>Nat.zero_le _
 | d::r=>by have:=bulk_one d;have:=bulk_len r;simp only [Rows.uptoBulkAll,List.length_cons];omega
theorem bulk_sum {H:Type}:∀ l:List (DataW H),Rows.uptoBulkAll l=(l.map Rows.uptoBulk).sum
 | []=>rfl
 | d::r=>by simp only [Rows.uptoBulkAll,List.map_cons,List.sum_cons,bulk_sum r]
theorem bulk_slice {H:Type}(a b:List (DataW H)):Rows.uptoBulkAll a+1≤Rows.uptoBulk (.slice a b):=by simp only [Rows.uptoBulk];omega
def Rdg (P:Program)(W:World)(t:TypeId)(F:List Value→Nat→Prop):Prop:=
 ∀ (H:Type) (enc:TypeId×Value→H) fuel cs x,DataW.trod enc P W 0 (fun _=>true) true fuel t cs=some x→F cs (Rows.uptoBulk x.1)
section
variable {P:Program}{W:World}{t e:TypeId}
theorem rdg_int {k:IntKind}(ht:P.underlying t=some (.int k)):Rdg P W t fun cs b=>∃ z,cs=[.int k z]∧(Lit.int k z).wf=true:=fun H enc fuel cs x hx=>by
 obtain ⟨m,h1,h2,h3⟩:=DataW.trod_int ht hx
 exact ⟨m,h1,h3⟩
theorem spot_none {w:World}{a:Addr}{u:Value}(h:w.cell? a=some u):a.spot=none:=by
 simp only [World.cell?] at h
 split at h
 ·cases hs:a.spot with
  | none=>rfl
  | some x=>simp [hs] at h
 ·cases h
theorem rdg_slice {F:List Value→Nat→Prop}{k:Nat}(ht:P.underlying t=some (.slice e))(hk:P.cellsOf e=k)(hpos:0<k)(hF:Rdg P W e F) :
  Rdg P W t fun cs b=>∃ v n,∃ cc:List (List Value×Nat),cs=[v]∧cc.length=n∧(∀ c∈cc,F c.1 c.2∧c.1.length=k)∧Cs W v n (cc.map (·.1)).flatten∧(cc.map (·.2)).sum+1≤b:=fun H enc fuel cs x hx=>by
 rcases DataW.trod_slice ht hx with ⟨rfl,rfl⟩ | ⟨a,len,cap,elems,rest,n,rfl,rfl,rfl,_,hl,hm,hlen,hel,_,_⟩
 ·exact ⟨.slice none 0 0,0,[],rfl,rfl,by simp,⟨⟨none,0,rfl,Nat.le_refl _,Nat.zero_le _,fun h=>absurd h (by omega)⟩,fun j u h=>by simp at h⟩,by simp [Rows.uptoBulk]⟩
 ·have each:∀ i,i<len→∃ ci:List Value,W.cells? 0 (a.add (i * k)) k=some ci∧∃ y,elems[i]? = some y∧DataW.trod enc P W 0 (fun _=>true) true n e ci=some y:=fun i hi=>by
   have h1:=hel i hi
   rw [hk,List.getElem?_eq_getElem (by omega),Option.bind_eq_some_iff] at h1
   obtain ⟨ci,h2,h3⟩:=h1
   exact ⟨ci,h2,elems[i]'(by omega),List.getElem?_eq_getElem (by omega),h3⟩
  let f:Nat→List Value:=fun i=>(W.cells? 0 (a.add (i * k)) k).getD []
  have hf:∀ i,i<len→W.cells? 0 (a.add (i * k)) k=some (f i):=fun i hi=>by
   obtain ⟨ci,h2,_⟩:=each i hi
   simp only [f,h2,Option.getD_some]
  have hfl:∀ i,i<len→(f i).length=k:=fun i hi=>(World.cells?_some (hf i hi)).2.1
  refine ⟨.slice (some a) len cap,len,(List.range len).map fun i=>(f i,Rows.uptoBulk ((elems.map (·.1)).getD i .nil)),rfl,by simp,?_,?_,?_⟩
  ·intro c hc
   obtain ⟨i,hi,rfl⟩:=List.mem_map.1 hc
   have hi:=List.mem_range.1 hi
   refine ⟨?_,hfl i hi⟩
   obtain ⟨ci,h2,y,h3,h4⟩:=each i hi
   rw [hf i hi] at h2
   cases h2
   have:(elems.map (·.1)).getD i .nil=y.1:=by simp [List.getD,h3]
   dsimp only
   rw [this]
   exact hF H enc n _ y h4
  ·have sp:0<len→a.spot=none:=fun h0=>by
    have h1:=hf 0 h0
    rw [Nat.zero_mul] at h1
    have h2:=(World.cells?_some h1).2.2 0 hpos
    have hlt:0<(f 0).length:=by rw [hfl 0 h0];exact hpos
    rw [List.getElem?_eq_getElem hlt] at h2
    simpa [Addr.add] using spot_none h2
   have hfl':(List.map (fun x=>x.1) (List.map (fun i=>(f i,Rows.uptoBulk ((elems.map (·.1)).getD i .nil))) (List.range len))).flatten=((List.range len).map f).flatten:=by rw [List.map_map];rfl
   rw [hfl']
   refine ⟨⟨_,_,rfl,hl,hm,fun h0=>?_⟩,fun j u hj=>?_⟩
   ·obtain ⟨b,off,spot⟩:=a
    obtain rfl:spot=none:=sp h0
    exact ⟨b,off,rfl⟩
   ·have hfind:∀ m,(∀ i,i<m→i<len)→∀ j u,(((List.range m).map f).flatten)[j]? = some u→∃ i,i<m∧i * k≤j∧j<i * k+k∧(f i)[j - i * k]? = some u:=by
     intro m
     induction m with
     | zero=>intro _ j u h;simp at h
     | succ m ih=>
      intro hm' j u h
      have hlm:(((List.range m).map f).flatten).length=m * k:=by
       have:∀ q,q≤m→(((List.range q).map f).flatten).length=q * k:=fun q=>by
        induction q with
        | zero=>intro _;simp
        | succ q ihq=>intro hq;rw [List.range_succ,List.map_append,List.flatten_append,List.length_append,ihq (by omega)];simp [hfl q (hm' q (by omega)),Nat.succ_mul]
       exact this m (Nat.le_refl _)
      rw [List.range_succ,List.map_append,List.flatten_append] at h
      rcases Nat.lt_or_ge j (m * k) with hj|hj
      ·rw [List.getElem?_append_left (by omega)] at h
       obtain ⟨i,h1,h2,h3,h4⟩:=ih (fun i hi=>hm' i (by omega)) j u h
       exact ⟨i,by omega,h2,h3,h4⟩
      ·rw [List.getElem?_append_right (by omega),hlm] at h
       simp only [List.map_cons,List.map_nil,List.flatten_cons,List.flatten_nil,List.append_nil] at h
       have hlt:=(List.getElem?_eq_some_iff.1 h).1
       rw [hfl m (hm' m (by omega))] at hlt
       exact ⟨m,by omega,hj,by omega,h⟩
    obtain ⟨i,h1,h2,h3,h4⟩:=hfind len (fun i hi=>hi) j u hj
    obtain ⟨b,off,spot⟩:=a
    obtain rfl:spot=none:=sp (by omega)
    refine ⟨b,off,cap,rfl,?_⟩
    have h5:=(World.cells?_some (hf i h1)).2.2 (j - i * k) (by omega)
    rw [Addr.add_mid,Addr.add_mid,h4] at h5
    rw [←h5]
    congr 2
    omega
  ·have hb:=bulk_slice (elems.map (·.1)) (rest.map (·.1))
   rw [bulk_sum] at hb
   have:(List.map (fun x=>x.2) (List.map (fun i=>(f i,Rows.uptoBulk ((elems.map (·.1)).getD i .nil))) (List.range len)))=(elems.map (·.1)).map Rows.uptoBulk:=by
    rw [List.map_map]
    apply List.ext_getElem?
    intro i
    by_cases hi:i<len
    ·simp [hi,hlen,List.getD]
    ·simp [hi,hlen]
   rw [this]
   exact hb
theorem rdg_bytes (ht:P.underlying t=some (.slice e))(he:P.underlying e=some (.int .u8))(hk:P.cellsOf e=1):Rdg P W t fun cs b=>∃ v n p,cs=[v]∧Cb W v n p∧n+1≤b:=fun H enc fuel cs x hx=>by
 obtain ⟨v,n,cc,h1,h2,h3,h4,h5⟩:=rdg_slice ht hk (by decide) (rdg_int he) H enc fuel cs x hx
 have hb:∀ c∈cc,c.1=[.int .u8 ((byteOf (c.1.headD undef):Nat):Int)]∧byteOf (c.1.headD undef)<256:=fun c hc=>by
  obtain ⟨⟨z,hz,hw⟩,_⟩:=h3 c hc
  simp [Lit.wf,IntKind.min,IntKind.max,IntKind.signed,IntKind.bits] at hw
  rw [hz]
  simp only [List.headD_cons,byteOf]
  refine ⟨by rw [Int.toNat_of_nonneg hw.1],by omega⟩
 have hfl:∀ l:List (List Value×Nat),(∀ c∈l,c∈cc)→(l.map (·.1)).flatten=bl (l.map fun c=>byteOf (c.1.headD undef)):=fun l=>by
  induction l with
  | nil=>intro _;rfl
  | cons c r ih=>intro h;rw [List.map_cons,List.flatten_cons,ih fun d hd=>h d (by simp [hd]),(hb c (h c (by simp))).1];simp [bl,byteOf]
 have hsum:∀ l:List (List Value×Nat),(∀ c∈l,c∈cc)→True:=fun _ _=>trivial
 refine ⟨v,n,cc.map fun c=>byteOf (c.1.headD undef),h1,⟨by rw [←hfl cc fun _ h=>h];exact h4,⟨by rw [List.length_map,h2],fun y hy=>?_⟩⟩,?_⟩
 ·obtain ⟨c,hc,rfl⟩:=List.mem_map.1 hy
  exact (hb c hc).2
 ·rcases DataW.trod_slice ht hx with ⟨rfl,rfl⟩ | ⟨a,len,cap,elems,rest,m,rfl,rfl,rfl,_,hl,hm,hlen,hel,_,_⟩
  ·obtain rfl:v=.slice none 0 0:=by simpa using h1.symm
   obtain ⟨_,_,hv,_⟩:=h4.ln.out
   injection hv with _ hn _
   subst hn
   simp [Rows.uptoBulk]
  ·obtain ⟨_,_,hv,_⟩:=h4.ln.out
   have hv':v=.slice (some a) len cap:=by simpa using h1.symm
   rw [hv'] at hv
   injection hv with _ hn _
   subst hn
   have hb:=bulk_slice (elems.map (·.1)) (rest.map (·.1))
   have:=bulk_len (elems.map (·.1))
   simp only [List.length_map] at this
   dsimp only
   omega
end
section
variable {H:Type}{enc:TypeId×Value→H}{P:Program}{W:World}
theorem open_cell {t:TypeId}{r:Reach}{b0:Nat}{v:Value}{d:DataW H}{q:List MemPlace}{F:List Value→Nat→Prop}(hF:Rdg P W t F)(hv:v.cells=#[v])(h:DataW.Trod enc P W 0 (fun _=>true) true t v d q):F [v] (Rows.uptoBulk d):=by
 obtain ⟨fuel,hf⟩:=h
 have:=hF H enc fuel _ _ hf
 rwa [hv] at this
theorem open_bl {t e:TypeId}{r:Reach}{b0:Nat}{v:Value}{d:DataW H}{q:List MemPlace}(ht:P.underlying t=some (.slice e))(he:P.underlying e=some (.int .u8))(hk:P.cellsOf e=1)(hv:Value.okWide P W r b0 t v)(h:DataW.Trod enc P W 0 (fun _=>true) true t v d q) :
  ∃ n p,Cb W v n p∧n+1≤Rows.uptoBulk d:=by
 obtain ⟨a,len,cap,rfl⟩:=okWide_slice ht hv
 obtain ⟨v',n,p,h1,h2,h3⟩:=open_cell (r:=r) (b0:=b0) (rdg_bytes ht he hk) rfl h
 cases h1
 exact ⟨n,p,h2,h3⟩
end
end Go.Proofs.YtkendlnjaopbeaaGreatDoor
namespace Go.Proofs.YtkendlnjaopbeaaGreatDoor
open Go.RowKit Go.ChangeShapes Go.WideShapes
set_option linter.unusedVariables false
set_option linter.unusedSimpArgs false
def Els (w:World):List Value→List (List Nat)→Prop
 | [],[]=>True
 | x::xs,q::qs=>Cb w x q.length q∧Els w xs qs
 | _,_=>False
theorem Els.len {w:World}:∀ {xs:List Value} {qs:List (List Nat)},Els w xs qs→qs.length=xs.length
 | [],[],_=>rfl
 | _::_,_::_,h=>by rw [List.length_cons,List.length_cons,Els.len h.2]
theorem Els.at {w:World}:∀ {xs:List Value} {qs:List (List Nat)} {i:Nat},Els w xs qs→i<xs.length→∃ x q,xs[i]? = some x∧qs[i]? = some q∧Cb w x q.length q
 | x::_,q::_,0,h,_=>⟨x,q,rfl,rfl,h.1⟩
 | _::_,_::_,i+1,h,hi=>by
  obtain ⟨x,q,h1,h2,h3⟩:=Els.at (i:=i) h.2 (by simpa using hi)
  exact ⟨x,q,by simpa using h1,by simpa using h2,h3⟩
theorem Els.app {w:World}:∀ {xs ys:List Value} {qs rs:List (List Nat)},Els w xs qs→Els w ys rs→Els w (xs++ys) (qs++rs)
 | [],_,[],_,_,h=>h
 | _::_,_,_::_,_,h,h'=>⟨h.1,Els.app h.2 h'⟩
section
variable {P:Program}{W:World}{t e e':TypeId}
theorem rdg_ints (ht:P.underlying t=some (.slice e))(he:P.underlying e=some (.int .i64))(hk:P.cellsOf e=1) :
  Rdg P W t fun cs b=>∃ v n,∃ zs:List Int,cs=[v]∧Cs W v n (zs.map (Value.int .i64))∧zs.length=n∧(∀ z∈zs,-9223372036854775808≤z∧z<9223372036854775808)∧n+1≤b:=fun H enc fuel cs x hx=>by
 have hb:Rdg P W e fun cs b=>(∃ z,cs=[.int .i64 z]∧(Lit.int .i64 z).wf=true)∧1≤b:=fun H enc fuel cs x hx=>⟨rdg_int he H enc fuel cs x hx,bulk_one _⟩
 obtain ⟨v,n,cc,h1,h2,h3,h4,h5⟩:=rdg_slice ht hk (by decide) hb H enc fuel cs x hx
 have hgo:∀ l:List (List Value×Nat),(∀ c∈l,c∈cc)→∃ zs:List Int,(l.map (·.1)).flatten=zs.map (Value.int .i64)∧zs.length=l.length∧(∀ z∈zs,-9223372036854775808≤z∧z<9223372036854775808)∧l.length≤(l.map (·.2)).sum:=fun l=>by
  induction l with
  | nil=>intro _;exact ⟨[],rfl,rfl,by simp,by simp⟩
  | cons c r ih=>
   intro h
   obtain ⟨zs,e1,e2,e3,e4⟩:=ih fun d hd=>h d (by simp [hd])
   obtain ⟨⟨⟨z,f1,f2⟩,f3⟩,_⟩:=h3 c (h c (by simp))
   simp [Lit.wf,IntKind.min,IntKind.max,IntKind.signed,IntKind.bits] at f2
   refine ⟨z::zs,by rw [List.map_cons,List.flatten_cons,e1,f1];rfl,by simp [e2],fun y hy=>?_,by simp only [List.map_cons,List.sum_cons,List.length_cons];omega⟩
   rcases List.mem_cons.1 hy with rfl|hy
   ·omega
   ·exact e3 y hy
 obtain ⟨zs,e1,e2,e3,e4⟩:=hgo cc fun _ h=>h
 rw [e1] at h4
 exact ⟨v,n,zs,h1,h4,by rw [e2,h2],e3,by omega⟩
end
section
variable {H:Type}{enc:TypeId×Value→H}{P:Program}{W:World}
theorem open_ints' {t e:TypeId}{r:Reach}{b0:Nat}{v:Value}{d:DataW H}{q:List MemPlace}(ht:P.underlying t=some (.slice e))(he:P.underlying e=some (.int .i64))(hk:P.cellsOf e=1)(hv:Value.okWide P W r b0 t v)(h:DataW.Trod enc P W 0 (fun _=>true) true t v d q) :
  ∃ zs:List Int,(Cs W v zs.length (zs.map (Value.int .i64))∧∀ z∈zs,-9223372036854775808≤z∧z<9223372036854775808)∧zs.length+1≤Rows.uptoBulk d:=by
 obtain ⟨a,len,cap,rfl⟩:=okWide_slice ht hv
 obtain ⟨v',n,zs,h1,h2,h3,h4,h5⟩:=open_cell (r:=r) (b0:=b0) (rdg_ints ht he hk) rfl h
 cases h1
 subst h3
 exact ⟨zs,⟨h2,h4⟩,h5⟩
end
theorem hold_old {P:Program}{W w:World}{N:Nat}(hb:Below W.heap.size W w)(l:Blks):Hold ⟨P,w,N,[]⟩ l (Old W []):=
 ⟨fun w' hm k hk _=>(hm.cls.old k (Nat.lt_of_lt_of_le hk hb.size) (by simp)).trans (hb.block k hk)⟩
end Go.Proofs.YtkendlnjaopbeaaGreatDoor
namespace Go.Proofs.YtkendlnjaopbeaaGreatDoor
open Go.RowKit
set_option linter.unusedVariables false
set_option maxRecDepth 100000
set_option linter.unusedSimpArgs false
def RetPO {T:Type}(mk:T→Value)(n:Nat)(c:Array Value)(t:TypeId)(Φ:T→Array Value→Blks→Prop)(w:World)(e:Ending)(w':World):Prop:=
 ∃ x c' oa',e=.returned (mk x)∧Φ x c' oa'∧Upd w [(n,(c,t))] w' ((n,(c',t))::oa')
theorem fn_updPO {T:Type}{mk:T→Value}{n:Nat}{cs:Array Value}{t:TypeId}{Φ:T→Array Value→Blks→Prop}{P:Program}{f:Nat}{fn:Func}{c:Code}{vs:List Value}{W:World}{N:Nat}(hf:P.funcs[f]? = some fn)(hb:fn.body=some c)(hN:fn.ntmps=N){rs:List ResultVar}(hrs:fn.results=rs.toArray)(hl:vs.length≤N)
  (hd:W.heap[n]? = some (.cells cs t)) (h:Wc ⟨P,W,N,[n]⟩ c (endP ⟨P,W,N,[n]⟩ rs fun u l=>∃ x c' oa',u=mk x∧Φ x c' oa'∧SubL ((n,(c',t))::oa') l) (initS vs 0) [(n,(cs,t))]) (htb:Nat.blt t BIG=true:=by first|rfl|assumption):Calls P f vs.toArray W (RetPO mk n cs t Φ W):=
 (fn_calls hf hb hN hrs hl (Mem.initO (oa:=[(n,(cs,t))]) (by simp [keys]) (hd_one (hd.trans (congrArg some (toObj_cells htb).symm)))) h).mono fun e w' ⟨u,l,he,⟨x,c',oa',hu,hφ,hs⟩,hm⟩=>⟨x,c',oa',by rw [he,hu],hφ,(hm.sub hs).toUpd⟩
section
variable {X:Cx}{s:Slots}{l:Blks}{o:Oper}{v:Value}{Q:Post}{ops:Array Oper}{r:List Oper}
end
end Go.Proofs.YtkendlnjaopbeaaGreatDoor
namespace Go.Proofs.YtkendlnjaopbeaaGreatDoor
open Go.RowKit
set_option linter.unusedVariables false
set_option linter.unusedSimpArgs false
section
variable {X:Cx}{s:Slots}{l:Blks}{o:Oper}{v:Value}{Q:Post}{ops:Array Oper}{r:List Oper}
theorem ld_sgR {t b off k e p m j:Nat}{g:Sg}{A:Array Value}{cs:List Value}[hu:KD X.P t true][hs:SZ X.P t k][hok:SgOk g](hh:Has X l b (rwA g,e):=by first|(with_reducible assumption)|(refine Has.inn ?_;repeat (first|exact Inn.here|apply Inn.there|apply Inn.skipA)))(ha:atL g p m=some A:=by rfl)(ho:p+j=off:=by first|(with_reducible assumption)|rfl|omega)
  (hv:(A.toList.drop j).take k=cs:=by first|(with_reducible assumption)) (hj:j+k≤m:=by first|(with_reducible assumption)|omega):Ld X l t b off (.agg cs.toArray):=by
 obtain ⟨h1,h2,h3⟩:=atL_spec hok ha
 subst ho
 refine ld_row (c:=rwA g) hh ?_ ?_
 ·rw [←hv,←h1,rwA]
  simp only [List.drop_take,List.drop_drop,List.take_take]
  rw [Nat.min_eq_left (by omega)]
 ·rw [←hv,List.length_take,List.length_drop,Array.length_toList,h2]
  omega
theorem wl_copyG {x y:Operand}{t t' e te n cap b off m pp mm j:Nat}{u:Value}{p q q':List Nat}{g g':Sg}{l':Blks}{s':Slots}(hg:gd s ops o=some true)(hd:dOk X.N o.dst=true)(hop:o.op=.call {callee:=.builtin .copy,args:=#[x,y],argTypes:=#[t,t']})
  (hx:val s x=some (.slice (some ⟨b,off,none⟩) n cap)) (hy:val s y=some u) [ht:UT X.P t (.slice e)] [hs:SZ X.P e 1] [hok:SgOk g] [hu:VwB X l u m p] {k:Nat}
  (h:Wl X ops Q r s' l') (hat:At l b (rwA g,te) (rwA g',te) l':=by repeat (first|exact At.here|apply At.there|apply At.skipA)) (ha:atL g pp mm=some (bys q):=by rfl) (hp:putG g pp mm (bys q')=some g':=by rfl) (ho:pp+j=off:=by first|(with_reducible assumption)|rfl|omega)
  (hk:Nat.min m n=k:=by first|(with_reducible assumption)|rfl) (hfit:j+k≤q.length:=by first|(with_reducible assumption)|omega) (hq:q.take j++(p.take k++q.drop (j+k))=q':=by first|(with_reducible assumption)|rfl)
  (hs':sputO s o.dst (.int .i64 (k:Int))=s':=by (try dsimp only [sputO,sput,Nat.reduceBEq,cond_true,cond_false,beq_self_eq_true]);first|done|exact rfl) (htb:Nat.blt te BIG=true:=by first|rfl|assumption):Wl X ops Q (o::r) s l:=fun a w hst=>by
 subst hs';subst ho
 have hw:=gd_wanted hst.env hg
 obtain ⟨hcs,hokb⟩:=hu.out w hst.mem
 obtain ⟨pu,cu,rfl,h1,h2,h3⟩:=hcs.ln.out
 have hgb:=(hst.mem.cls.now b (rwA g) te (hat.now hst.mem.nd)).trans (congrArg some (toObj_cells htb))
 have hkm:k≤m:=by rw [←hk];exact Nat.min_le_left _ _
 have hpk:(p.take k).length=k:=by rw [List.length_take,hokb.len];omega
 have htl:(bl (p.take k)).length=k:=by rw [bl_len,hpk]
 obtain ⟨f1,f2,f3⟩:=atL_spec hok ha
 have hql:q.length=mm:=by rw [←f2];simp [bys,bl]
 have hjk:j+k≤mm:=by rw [←hql];exact hfit
 have hq'n:q'.length=mm:=by
  rw [←hq,List.length_append,List.length_append,List.length_take,List.length_drop,hpk,hql];omega
 have hq'l:(bys q').size=mm:=by
  simp only [bys,List.size_toArray,bl_len,hq'n]
 obtain ⟨g1,g2,g3,g4⟩:=putG_spec hok hq'l (by simp [bys,bl,Value.oneCell']) hp
 have hrow:((rwA g).toList.take (pp+j)++bl (p.take k)++(rwA g).toList.drop (pp+j+(bl (p.take k)).length)).toArray=rwA g':=by
  rw [htl]
  unfold rwA
  rw [←g1]
  unfold putR
  have hbq:(bys q').toList=bl q':=by simp [bys]
  have hbq0:(bys q).toList=bl q:=by simp [bys]
  have hq2:(bys q').toList.length=mm:=by rw [Array.length_toList,hq'l]
  rw [hq2,hbq,←hq,bl_app,bl_app]
  rw [hbq0] at f1
  have hpl:pp≤(rwL g).length:=by omega
  have e0:(rwL g).take (pp+j)=(rwL g).take pp++bl (q.take j):=by
   rw [List.take_add,←bl_take,←f1,List.take_take,Nat.min_eq_left (by omega)]
  have e1:(rwL g).drop (pp+j+k)=bl (q.drop (j+k))++(rwL g).drop (pp+mm):=by
   rw [←bl_drop,←f1,List.drop_take,List.drop_drop]
   have:=List.take_append_drop (mm - (j+k)) ((rwL g).drop (pp+(j+k)))
   rw [List.drop_drop,show pp+(j+k)+(mm - (j+k))=pp+mm by omega] at this
   rw [show pp+j+k=pp+(j+k) by omega]
   exact this.symm
  rw [List.toList_toArray,e0,e1]
  simp only [List.append_assoc]
 have hrun:∃ w',(Builtin.copy_ #[t,t'] o.type #[.slice (some ⟨b,pp+j,none⟩) n cap,.slice pu m cu]).run X.P w=.ok (.int .i64 (k:Int)) w'∧Mem X l' w':=by
  by_cases h0:k=0
  ·subst h0
   refine ⟨w,run_copy_none (P:=X.P) w t t' o.type e _ pu n cap m cu ht.out hs.out hk,?_⟩
   have e1:rwA g'=rwA g:=by
    rw [←hrow,htl]
    have:bl (p.take 0)=[]:=rfl
    rw [this]
    simp
   rw [e1] at hat
   have e2:l'=l:=hat.same
   rw [e2];exact hst.mem
  ·obtain ⟨b',off',rfl⟩:=h3 (by omega)
   refine ⟨_,run_copy_row (P:=X.P) w t t' o.type e b (pp+j) n cap ⟨b',off',none⟩ m cu (rwA g) te (bl (p.take k)) ht.out hs.out hgb (by rw [htl,hk]) (fun i y hj=>?_) (by rw [htl,rw_size hok];rw [rwL_len hok] at f3;omega) (bl_one _) |>.trans (by rw [htl];rfl),?_⟩
   ·have hjl:i<k:=by rw [←htl];exact (List.getElem?_eq_some_iff.1 hj).1
    have hj':(bl p)[i]? = some y:=by
     rw [←bl_take,List.getElem?_take_of_lt hjl] at hj
     exact hj
    obtain ⟨b2,off2,cap2,hv,hc⟩:=hcs.cell i y hj'
    injection hv with hv
    injection hv with hv
    injection hv with hb' ho'
    subst hb';subst ho'
    rw [Addr.add_mid];exact hc
   ·have e0:pp+j+k=pp+j+(bl (p.take k)).length:=by rw [htl]
    rw [e0,hrow]
    exact hst.mem.upd hat
 obtain ⟨w',hrun,hmem⟩:=hrun
 unfold wpList
 rw [if_pos hw]
 refine .inl ?_
 unfold Oper.wp
 have:(execOp a.eval o).run X.P w=.ok (.value (.int .i64 (k:Int))) w':=by
  simp only [execOp,hop,resolve,invoke,builtin,Sem.run_bind,Sem.run_pure,Result.andThen_ok,List.map_toArray,List.map_cons,List.map_nil,hst.env.eval hx,hst.env.eval hy,hrun]
 rw [this]
 exact h _ _ ⟨hst.env.put hd _,hmem⟩
end
def lateC:List Oper→Nat→List Nat
 | [],_=>[]
 | o::r,k=>match o.op with
  | .store _ _ _=>k::lateC r (k+1)
  | .call c=>(match c.callee with
   | .builtin .copy=>k::lateC r (k+1)
   | _=>lateC r (k+1))
  | _=>lateC r (k+1)
theorem wc_drawC {X:Cx}{Q:Post}{s:Slots}{b:Blks}{id:Nat}{r:List Oper}(hm:X.P.follows .mixedOrders=true)(h:Wh X ⟨r.toArray,b,lateC r 0⟩ Q r.length [] s b):Wc X (.region id r.toArray true) Q s b:=wc_drawH b _ hm (SubL.refl b) h
end Go.Proofs.YtkendlnjaopbeaaGreatDoor
namespace Go.Proofs.YtkendlnjaopbeaaGreatDoor
open Go.RowKit
set_option linter.unusedVariables false
def xt (a:Nat):Nat:=(a * 2 % 256) ^^^ (a / 128 * 27)
def gm:Nat→Nat→Nat→Nat→Nat
 | 0,_,_,o=>o
 | k+1,a,b,o=>gm k (xt a) (b / 2) (if b % 2=1 then o ^^^ a else o)
def gmul (a b:Nat):Nat:=gm 8 a b 0
theorem xor_lt {a b:Nat}(ha:a<256)(hb:b<256):a ^^^ b<256:=Nat.xor_lt_two_pow (n:=8) ha hb
theorem xt_lt {a:Nat}(ha:a<256):xt a<256:=by
 unfold xt
 refine xor_lt (Nat.mod_lt _ (by omega)) ?_
 have:a / 128≤1:=by omega
 omega
theorem gm_lt:∀ (k a b o:Nat),a<256→o<256→gm k a b o<256
 | 0,_,_,_,_,ho=>ho
 | k+1,a,b,o,ha,ho=>by
  unfold gm
  refine gm_lt k _ _ _ (xt_lt ha) ?_
  split
  ·exact xor_lt ho ha
  ·exact ho
theorem gmul_lt {a:Nat}(b:Nat)(ha:a<256):gmul a b<256:=gm_lt 8 a b 0 ha (by omega)
theorem gm_zero:∀ (k a o:Nat),gm k a 0 o=o
 | 0,_,_=>rfl
 | k+1,a,o=>by unfold gm;rw [if_neg (by omega)];exact gm_zero k _ o
theorem gm_out:∀ (k a b o:Nat),gm k a b o=o ^^^ gm k a b 0
 | 0,_,_,o=>by simp [gm]
 | k+1,a,b,o=>by
  unfold gm
  rw [gm_out k _ _ (if b % 2=1 then o ^^^ a else o),gm_out k _ _ (if b % 2=1 then 0 ^^^ a else 0)]
  split
  ·rw [Nat.zero_xor,Nat.xor_assoc]
  ·rw [Nat.zero_xor]
theorem xor_mod2 (b c:Nat):(b ^^^ c) % 2=(b % 2+c % 2) % 2:=by
 have h:=Nat.testBit_xor b c 0
 simp only [Nat.testBit_zero] at h
 have h1:b % 2=0∨b % 2=1:=by omega
 have h2:c % 2=0∨c % 2=1:=by omega
 have h3:(b ^^^ c) % 2=0∨(b ^^^ c) % 2=1:=by omega
 rcases h1 with h1|h1 <;> rcases h2 with h2|h2 <;> rcases h3 with h3|h3 <;> simp [h1,h2,h3] at h ⊢
theorem xor_div2 (b c:Nat):(b ^^^ c) / 2=(b / 2) ^^^ (c / 2):=by
 have:=Nat.xor_div_two_pow (a:=b) (b:=c) (n:=1)
 simpa using this
theorem gm_xor_right:∀ (k a b c:Nat),gm k a (b ^^^ c) 0=gm k a b 0 ^^^ gm k a c 0
 | 0,_,_,_=>by simp [gm]
 | k+1,a,b,c=>by
  unfold gm
  rw [gm_out k _ ((b ^^^ c) / 2) _,gm_out k _ (b / 2) _,gm_out k _ (c / 2) _,xor_div2,gm_xor_right k (xt a) (b / 2) (c / 2),xor_mod2,Nat.zero_xor]
  have h1:b % 2=0∨b % 2=1:=by omega
  have h2:c % 2=0∨c % 2=1:=by omega
  generalize gm k (xt a) (b / 2) 0=p
  generalize gm k (xt a) (c / 2) 0=q
  rcases h1 with h1|h1 <;> rcases h2 with h2|h2 <;> simp only [h1,h2,Nat.add_zero,Nat.zero_add,Nat.reduceAdd,Nat.reduceMod,Nat.zero_xor,if_true,Nat.zero_ne_one,if_false,Nat.xor_assoc]
  ·rw [←Nat.xor_assoc p a q,Nat.xor_comm p a,Nat.xor_assoc]
  ·rw [←Nat.xor_assoc p a q,Nat.xor_comm p a,Nat.xor_assoc,←Nat.xor_assoc a a,Nat.xor_self,Nat.zero_xor]
theorem gmul_xor_right (a b c:Nat):gmul a (b ^^^ c)=gmul a b ^^^ gmul a c:=gm_xor_right 8 a b c
theorem two_pow_xor (n r:Nat)(h:r<2 ^ n):2 ^ n+r=2 ^ n ^^^ r:=by
 have h1:=Nat.two_pow_add_eq_or_of_lt (i:=n) (b:=r) h 1
 rw [Nat.mul_one] at h1
 rw [h1]
 apply Nat.eq_of_testBit_eq
 intro i
 rw [Nat.testBit_or,Nat.testBit_xor,Nat.testBit_two_pow]
 by_cases hi:n=i
 ·subst hi
  have:r.testBit n=false:=Nat.testBit_lt_two_pow h
  simp [this]
 ·simp [hi]
theorem lin_ext {f g:Nat→Nat}(hf:∀ a b,a<256→b<256→f (a ^^^ b)=f a ^^^ f b)(hg:∀ a b,a<256→b<256→g (a ^^^ b)=g a ^^^ g b)(h:∀ i,i<8→f (2 ^ i)=g (2 ^ i)):∀ a,a<256→f a=g a:=by
 have key:∀ n,n≤8→∀ a,a<2 ^ n→f a=g a:=by
  intro n
  induction n with
  | zero=>
   intro _ a ha
   have:a=0:=by omega
   subst this
   have h1:=hf 0 0 (by omega) (by omega)
   have h2:=hg 0 0 (by omega) (by omega)
   rw [Nat.xor_self] at h1 h2
   rw [h1,h2,Nat.xor_self,Nat.xor_self]
  | succ n ih=>
   intro hn a ha
   by_cases hlt:a<2 ^ n
   ·exact ih (by omega) a hlt
   ·have h2:a - 2 ^ n<2 ^ n:=by rw [Nat.pow_succ] at ha;omega
    have e:a=2 ^ n ^^^ (a - 2 ^ n):=by rw [←two_pow_xor n _ h2];omega
    have hp:2 ^ n<256:=Nat.pow_lt_pow_right (a:=2) (by omega) (show n<8 by omega)
    rw [e,hf _ _ hp (by omega),hg _ _ hp (by omega),h n (by omega),ih (by omega) _ h2]
 intro a ha
 exact key 8 (Nat.le_refl _) a ha
theorem xt_xor {a b:Nat}(ha:a<256)(hb:b<256):xt (a ^^^ b)=xt a ^^^ xt b:=by
 unfold xt
 have h1:(a ^^^ b) * 2 % 256=(a * 2 % 256) ^^^ (b * 2 % 256):=by
  have e:(a ^^^ b) * 2=(a * 2) ^^^ (b * 2):=by
   apply Nat.eq_of_testBit_eq
   intro i
   rw [Nat.testBit_xor,Nat.mul_comm,Nat.mul_comm a,Nat.mul_comm b]
   have k:=fun x=>Nat.testBit_two_pow_mul (i:=1) (a:=x) (j:=i)
   simp only [Nat.pow_one] at k
   rw [k,k,k,Nat.testBit_xor]
   by_cases h:1≤i <;> simp [h]
  rw [e]
  exact Nat.xor_mod_two_pow (n:=8)
 have h2:(a ^^^ b) / 128=(a / 128) ^^^ (b / 128):=Nat.xor_div_two_pow (n:=7)
 have h3:((a / 128) ^^^ (b / 128)) * 27=(a / 128 * 27) ^^^ (b / 128 * 27):=by
  have k1:a / 128=0∨a / 128=1:=by omega
  have k2:b / 128=0∨b / 128=1:=by omega
  rcases k1 with k1|k1 <;> rcases k2 with k2|k2 <;> rw [k1,k2] <;> decide
 rw [h1,h2,h3]
 generalize a * 2 % 256=p
 generalize b * 2 % 256=q
 generalize a / 128 * 27=r
 generalize b / 128 * 27=s
 rw [Nat.xor_assoc,Nat.xor_assoc,←Nat.xor_assoc q r s,Nat.xor_comm q r,Nat.xor_assoc r q s]
theorem gm_xor_left:∀ (k a c b:Nat),a<256→c<256→gm k (a ^^^ c) b 0=gm k a b 0 ^^^ gm k c b 0
 | 0,_,_,_,_,_=>by simp [gm]
 | k+1,a,c,b,ha,hc=>by
  unfold gm
  rw [gm_out k (xt (a ^^^ c)) (b / 2),gm_out k (xt a) (b / 2),gm_out k (xt c) (b / 2),xt_xor ha hc,gm_xor_left k (xt a) (xt c) (b / 2) (xt_lt ha) (xt_lt hc)]
  generalize gm k (xt a) (b / 2) 0=p
  generalize gm k (xt c) (b / 2) 0=q
  split
  ·rw [Nat.zero_xor,Nat.zero_xor,Nat.zero_xor,Nat.xor_assoc,Nat.xor_assoc,←Nat.xor_assoc c p q,Nat.xor_comm c p,Nat.xor_assoc p c q]
  ·rw [Nat.zero_xor,Nat.zero_xor,Nat.zero_xor]
theorem gmul_xor_left {a c:Nat}(b:Nat)(ha:a<256)(hc:c<256):gmul (a ^^^ c) b=gmul a b ^^^ gmul c b:=gm_xor_left 8 a c b ha hc
theorem pow8 {i:Nat}(h:i<8):2 ^ i<256:=Nat.pow_lt_pow_right (a:=2) (by omega) (show i<8 from h)
theorem basis2:∀ i,i<8→∀ j,j<8→gmul (2 ^ i) (2 ^ j)=gmul (2 ^ j) (2 ^ i):=by decide +kernel
theorem basis3:∀ i,i<8→∀ j,j<8→∀ k,k<8→gmul (gmul (2 ^ i) (2 ^ j)) (2 ^ k)=gmul (2 ^ i) (gmul (2 ^ j) (2 ^ k)):=by decide +kernel
theorem gmul_comm {a b:Nat}(ha:a<256)(hb:b<256):gmul a b=gmul b a:=by
 refine lin_ext (f:=fun x=>gmul x b) (g:=fun x=>gmul b x) (fun x y hx hy=>gmul_xor_left b hx hy) (fun x y _ _=>gmul_xor_right b x y) (fun i hi=>?_) a ha
 refine lin_ext (f:=fun y=>gmul (2 ^ i) y) (g:=fun y=>gmul y (2 ^ i)) (fun x y _ _=>gmul_xor_right _ x y) (fun x y hx hy=>gmul_xor_left _ hx hy) (fun j hj=>basis2 i hi j hj) b hb
theorem gmul_assoc {a b c:Nat}(ha:a<256)(hb:b<256)(hc:c<256):gmul (gmul a b) c=gmul a (gmul b c):=by
 refine lin_ext (f:=fun x=>gmul (gmul x b) c) (g:=fun x=>gmul x (gmul b c)) (fun x y hx hy=>?_) (fun x y hx hy=>gmul_xor_left _ hx hy) (fun i hi=>?_) a ha
 ·show gmul (gmul (x ^^^ y) b) c=_
  rw [gmul_xor_left b hx hy,gmul_xor_left c (gmul_lt b hx) (gmul_lt b hy)]
 refine lin_ext (f:=fun y=>gmul (gmul (2 ^ i) y) c) (g:=fun y=>gmul (2 ^ i) (gmul y c)) (fun x y hx hy=>?_) (fun x y hx hy=>?_) (fun j hj=>?_) b hb
 ·show gmul (gmul (2 ^ i) (x ^^^ y)) c=_
  rw [gmul_xor_right,gmul_xor_left c (gmul_lt x (pow8 hi)) (gmul_lt y (pow8 hi))]
 ·show gmul (2 ^ i) (gmul (x ^^^ y) c)=_
  rw [gmul_xor_left c hx hy,gmul_xor_right]
 refine lin_ext (f:=fun z=>gmul (gmul (2 ^ i) (2 ^ j)) z) (g:=fun z=>gmul (2 ^ i) (gmul (2 ^ j) z)) (fun x y _ _=>gmul_xor_right _ x y) (fun x y hx hy=>?_) (fun k hk=>basis3 i hi j hj k hk) c hc
 show gmul (2 ^ i) (gmul (2 ^ j) (x ^^^ y))=_
 rw [gmul_xor_right,gmul_xor_right]
theorem gmul_one (a:Nat):gmul a 1=a:=by
 unfold gmul gm
 rw [if_pos (by omega),Nat.zero_xor]
 exact gm_zero 7 _ a
theorem gmul_zero (a:Nat):gmul a 0=0:=gm_zero 8 a 0
def npow (a:Nat):Nat→Nat
 | 0=>1
 | n+1=>gmul (npow a n) a
theorem npow_lt {a:Nat}(n:Nat)(ha:a<256):npow a n<256:=by
 induction n with
 | zero=>exact show 1<256 by omega
 | succ n ih=>exact gmul_lt a ih
theorem one_gmul {a:Nat}(ha:a<256):gmul 1 a=a:=by rw [gmul_comm (by omega) ha,gmul_one]
theorem npow_add {a:Nat}(ha:a<256)(m n:Nat):npow a (m+n)=gmul (npow a m) (npow a n):=by
 induction n with
 | zero=>rw [Nat.add_zero,npow,gmul_one]
 | succ n ih=>rw [←Nat.add_assoc,npow,ih,npow,gmul_assoc (npow_lt m ha) (npow_lt n ha) ha]
theorem npow_mul {a:Nat}(ha:a<256)(m n:Nat):npow (npow a m) n=npow a (m * n):=by
 induction n with
 | zero=>rfl
 | succ n ih=>rw [npow,ih,Nat.mul_succ,npow_add ha]
theorem npow_one {a:Nat}(ha:a<256):npow a 1=a:=one_gmul ha
theorem npow_two {a:Nat}(ha:a<256):npow a 2=gmul a a:=by rw [show (2:Nat)=1+1 from rfl,npow,npow_one ha]
theorem npow_sq {a:Nat}(ha:a<256)(n:Nat):npow (gmul a a) n=npow a (2 * n):=by rw [←npow_two ha,npow_mul ha]
theorem pow_step {a n o:Nat}(ha:a<256)(ho:o<256):gmul o (npow a n)=gmul (if n % 2=1 then gmul o a else o) (npow (gmul a a) (n / 2)):=by
 rw [npow_sq ha]
 by_cases h:n % 2=1
 ·rw [if_pos h,gmul_assoc ho ha (npow_lt _ ha)]
  have e:n=1+2 * (n / 2):=by omega
  conv=>lhs;rw [e]
  rw [npow_add ha,npow_one ha]
 ·rw [if_neg h]
  have e:n=2 * (n / 2):=by omega
  conv=>lhs;rw [e]
def qpow (a:Nat):Nat→Nat→Nat→Nat
 | 0,_,o=>o
 | k+1,n,o=>qpow (gmul a a) k (n / 2) (if n % 2=1 then gmul o a else o)
theorem qpow_npow:∀ (k a n o:Nat),a<256→o<256→n<2 ^ k→qpow a k n o=gmul o (npow a n)
 | 0,a,n,o,ha,ho,hn=>by
  have:n=0:=by omega
  subst this
  rw [qpow,npow,gmul_one]
 | k+1,a,n,o,ha,ho,hn=>by
  rw [qpow,qpow_npow k (gmul a a) (n / 2) _ (gmul_lt a ha) (by split <;> first|exact gmul_lt a ho|exact ho) (by rw [Nat.pow_succ] at hn;omega),pow_step ha ho]
theorem npow_reckon {a n:Nat}(k:Nat)(ha:a<256)(hn:n<2 ^ k):npow a n=qpow a k n 1:=by
 rw [qpow_npow k a n 1 ha (by omega) hn,one_gmul (npow_lt n ha)]
theorem fermat_all:∀ a,a<256→a≠0→qpow a 8 255 1=1:=by decide +kernel
theorem npow_255 {a:Nat}(ha:a<256)(h0:a≠0):npow a 255=1:=by rw [npow_reckon 8 ha (by decide),fermat_all a ha h0]
theorem zero_gmul (a:Nat):gmul 0 a=0:=by
 have h:=gmul_xor_left (a:=0) (c:=0) a (by omega) (by omega)
 rw [Nat.xor_self,Nat.xor_self] at h
 exact h
def ginv (a:Nat):Nat:=npow a 254
theorem ginv_lt {a:Nat}(ha:a<256):ginv a<256:=npow_lt 254 ha
theorem gmul_ginv {a:Nat}(ha:a<256)(h0:a≠0):gmul a (ginv a)=1:=by
 rw [gmul_comm ha (ginv_lt ha)]
 exact npow_255 ha h0
theorem gmul_eq_zero {a b:Nat}(ha:a<256)(hb:b<256)(h:gmul a b=0):a=0∨b=0:=by
 by_cases h0:a=0
 ·exact .inl h0
 ·right
  have h1:=gmul_assoc (ginv_lt ha) ha hb
  rw [h,gmul_zero,gmul_comm (ginv_lt ha) ha,gmul_ginv ha h0,one_gmul hb] at h1
  exact h1
theorem bits_u8 (a b:Nat)(ha:a<256)(hb:b<256):bits .xor .u8 (a:Int) (b:Int)=((a ^^^ b:Nat):Int):=by
 have hx:a ^^^ b<256:=xor_lt ha hb
 have h1:(BitVec.ofInt 8 (a:Int)).toNat=a:=by
  rw [BitVec.ofInt_natCast,BitVec.toNat_ofNat];exact Nat.mod_eq_of_lt (by omega)
 have h2:(BitVec.ofInt 8 (b:Int)).toNat=b:=by
  rw [BitVec.ofInt_natCast,BitVec.toNat_ofNat];exact Nat.mod_eq_of_lt (by omega)
 show IntKind.u8.wrap ((BitVec.ofInt 8 (a:Int) ^^^ BitVec.ofInt 8 (b:Int)).toNat:Int)=_
 rw [BitVec.toNat_xor,h1,h2]
 exact wrap_u8 _ (by omega) (by omega)
theorem and1_u8 (b:Nat)(hb:b<256):bits .and .u8 (b:Int) 1=((b % 2:Nat):Int):=by
 have h2:(BitVec.ofInt 8 (b:Int)).toNat=b:=by
  rw [BitVec.ofInt_natCast,BitVec.toNat_ofNat];exact Nat.mod_eq_of_lt (by omega)
 show IntKind.u8.wrap ((BitVec.ofInt 8 (b:Int) &&& BitVec.ofInt 8 1).toNat:Int)=_
 rw [BitVec.toNat_and,h2,show (BitVec.ofInt 8 1).toNat=1 from rfl,Nat.and_one_is_mod]
 exact wrap_u8 _ (by omega) (by omega)
theorem and1_u64 (b:Nat)(hb:b<18446744073709551616):bits .and .u64 (b:Int) 1=((b % 2:Nat):Int):=by
 have h:=bits_and_u64_nat b 1 hb (by omega)
 rw [Nat.and_one_is_mod] at h
 exact h
end Go.Proofs.YtkendlnjaopbeaaGreatDoor
namespace Go.Proofs.YtkendlnjaopbeaaGreatDoor
open Go.RowKit
set_option linter.unusedVariables false
set_option linter.unusedSimpArgs false
def gi (a:Nat):Nat:=qpow a 8 254 1
theorem ginv_gi {a:Nat}(ha:a<256):ginv a=gi a:=npow_reckon 8 ha (by decide)
def rol (x k:Nat):Nat:=(x * 2 ^ k % 256) ||| (x / 2 ^ (8 - k))
def sp (b:Nat):Nat→Nat
 | 0=>99 ^^^ b
 | m+1=>sp b m ^^^ rol b (m+1)
def gsub (a:Nat):Nat:=sp (gi a) 4
def mid (t:Nat):Nat:=rol t 1 ^^^ rol t 3 ^^^ rol t 6
def gunsub (a:Nat):Nat:=gi (mid (a ^^^ 99))
theorem gi_lt:∀ a,a<256→gi a<256:=by decide +kernel
theorem law1:∀ a,a<256→gunsub (gsub a)=a:=by decide +kernel
theorem law2:∀ a,a<256→gsub (gunsub a)=a:=by decide +kernel
theorem gsub_lt:∀ a,a<256→gsub a<256:=by decide +kernel
theorem gunsub_lt:∀ a,a<256→gunsub a<256:=by decide +kernel
end Go.Proofs.YtkendlnjaopbeaaGreatDoor
namespace Go.Proofs.YtkendlnjaopbeaaGreatDoor
open Go.RowKit
set_option linter.unusedVariables false
set_option linter.unusedSimpArgs false
set_option maxHeartbeats 2000000 in
theorem mul_gf (a b:Nat)(ha:a<256)(hb:b<256)(w:World):Calls Tryz.prog 57 [.int .u8 a,.int .u8 b].toArray w (Ret (.int .u8 ((gmul a b:Nat):Int)) w):=by
 obtain ⟨R,hR⟩:∃ R,R=gmul a b:=⟨_,rfl⟩
 rw [←hR]
 refine fn_ret (N:=_) Tryz.func57 rfl Tryz.ntmps57 Tryz.results57 (by simp) ?_
 simp only [initS,Nat.reduceAdd,Nat.zero_add]
 repeat' (first|(refine wlB ?_)|(refine wl_skip rfl rfl ?_)|((with_reducible refine wc_seq ?_);intro K hK)|(refine auC ?_)|(refine wc_cond rfl (fun hc=>?_) (fun hc=>?_))|(refine wc_draw (by kernel_rfl) (by kernel_rfl) (by decide +kernel) ?_;intro w0 hw0 hm0;(try simp only [List.append_eq,List.cons_append,List.nil_append]))|(refine auP ?_)|((refine auR ?_);clear hK K)|(refine auR ?_)|((with_reducible refine hK _ _ ?_);clear hK K)|fail)
 refine wc_loop (σ:=Nat×Nat×Nat×Nat) (fun x=>[(0,.int .u8 (x.2.1:Int)),(1,.int .u8 (x.2.2.1:Int)),(5,.int .u8 (x.2.2.2:Int))]) (fun _=>[])
  (fun x=>x.2.2.1<2 ^ x.1∧x.2.1<256∧x.2.2.1<256∧x.2.2.2<256∧gm x.1 x.2.1 x.2.2.1 x.2.2.2=R) (fun x=>x.1) (8,a,b,0) ⟨hb,ha,hb,by dsimp only;omega,hR.symm⟩ (Fits.of ⟨rfl,rfl,rfl,trivial⟩ .nil rfl) ?_
 clear hR ha hb a b
 rintro ⟨k,a,b,o⟩ ⟨hk,ha,hb,ho,hR⟩
 dsimp only at hk ha hb ho hR ⊢
 by_cases hb0:b=0
 ·subst hb0
  rw [gm_zero] at hR
  subst hR
  have ht:decide (((0:Nat):Int)>0)=false:=rfl
  repeat' (first|(refine wlB ?_)|(refine wl_skip rfl rfl ?_)|((with_reducible refine wc_seq ?_);intro K hK)|(refine auC ?_)|(refine wc_cond rfl (fun hc=>?_) (fun hc=>?_))|(refine wc_draw (by kernel_rfl) (by kernel_rfl) (by decide +kernel) ?_;intro w0 hw0 hm0;(try simp only [List.append_eq,List.cons_append,List.nil_append]))|(refine auP ?_)|((refine auR ?_);clear hK K)|(refine auR ?_)|((with_reducible refine hK _ _ ?_);clear hK K)|fail)
  first|refine end_ret (ResP.tmp rfl ResP.nil) ?_|refine end_normal (ResP.tmp rfl ResP.nil) ?_
  first|rfl|(show _=_;rfl)|(simp only [tupV, *];done)
 ·obtain ⟨j,rfl⟩:∃ j,k=j+1:=by
   cases k with
   | zero=>exfalso;simp at hk;omega
   | succ j=>exact ⟨j,rfl⟩
  have ht:decide ((b:Int)>0)=true:=decide_eq_true (by omega)
  have hand:=and1_u8 b hb
  have hxo:=bits_u8 o a ho ha
  have hshr:(a:Int) / 2 ^ min ((7:Int).toNat) (IntKind.bits .u8)=((a / 128:Nat):Int):=by show (a:Int) / 128=_;omega
  have hshl:IntKind.u8.wrap ((a:Int) * 2 ^ min ((1:Int).toNat) (IntKind.bits .u8))=((a * 2 % 256:Nat):Int):=by
   show IntKind.u8.wrap ((a:Int) * 2)=_
   simp only [IntKind.wrap,IntKind.bits,IntKind.signed]
   simp
  have hmul:IntKind.u8.wrap (((a / 128:Nat):Int) * 27)=((a / 128 * 27:Nat):Int):=by
   rw [wrap_u8 _ (by omega) (by omega)];omega
  have hx:bits .xor .u8 ((a * 2 % 256:Nat):Int) ((a / 128 * 27:Nat):Int)=((xt a:Nat):Int):=bits_u8 _ _ (Nat.mod_lt _ (by omega)) (by omega)
  have hb2:(b:Int) / 2 ^ min ((1:Int).toNat) (IntKind.bits .u8)=((b / 2:Nat):Int):=by show (b:Int) / 2=_;omega
  have hk':b / 2<2 ^ j:=by rw [Nat.pow_succ] at hk;omega
  have hxa:=xt_lt ha
  have hoa:=xor_lt ho ha
  have h2:b / 2<256:=by omega
  unfold gm at hR
  by_cases hp:b % 2=1
  ·rw [if_pos hp] at hR
   rw [hp] at hand
   clear hp hb0 hk ha hb ho
   repeat' (first|(refine wlB ?_)|(refine wl_skip rfl rfl ?_)|((with_reducible refine wc_seq ?_);intro K hK)|(refine auC ?_)|(refine wc_cond rfl (fun hc=>?_) (fun hc=>?_))|(refine wc_draw (by kernel_rfl) (by kernel_rfl) (by decide +kernel) ?_;intro w0 hw0 hm0;(try simp only [List.append_eq,List.cons_append,List.nil_append]))|(refine auP ?_)|((refine auR ?_);clear hK K)|(refine auR ?_)|((with_reducible refine hK _ _ ?_);clear hK K)|fail)
   exact ⟨(j,xt a,b / 2,o ^^^ a),⟨hk',hxa,h2,hoa,hR⟩,Nat.lt_succ_self j,Fits.of ⟨rfl,rfl,rfl,trivial⟩ .nil rfl⟩
  ·rw [if_neg hp] at hR
   rw [show b % 2=0 by omega] at hand
   clear hp hb0 hk ha hb
   repeat' (first|(refine wlB ?_)|(refine wl_skip rfl rfl ?_)|((with_reducible refine wc_seq ?_);intro K hK)|(refine auC ?_)|(refine wc_cond rfl (fun hc=>?_) (fun hc=>?_))|(refine wc_draw (by kernel_rfl) (by kernel_rfl) (by decide +kernel) ?_;intro w0 hw0 hm0;(try simp only [List.append_eq,List.cons_append,List.nil_append]))|(refine auP ?_)|((refine auR ?_);clear hK K)|(refine auR ?_)|((with_reducible refine hK _ _ ?_);clear hK K)|fail)
   exact ⟨(j,xt a,b / 2,o),⟨hk',hxa,h2,ho,hR⟩,Nat.lt_succ_self j,Fits.of ⟨rfl,rfl,rfl,trivial⟩ .nil rfl⟩
end Go.Proofs.YtkendlnjaopbeaaGreatDoor
namespace Go.Proofs.YtkendlnjaopbeaaGreatDoor
open Go.RowKit
set_option linter.unusedVariables false
set_option linter.unusedSimpArgs false
def b4 (f:Nat→Nat):Array Value:=#[.int .u8 ((f 0:Nat):Int),.int .u8 ((f 1:Nat):Int),.int .u8 ((f 2:Nat):Int),.int .u8 ((f 3:Nat):Int)]
instance b4_cells (f:Nat→Nat):Cells (b4 f) 4:=⟨rfl,by simp [b4,Value.oneCell']⟩
theorem b4_get (f:Nat→Nat)(k:Nat)(h:k<4):(b4 f)[k]? = some (.int .u8 ((f k:Nat):Int)):=by
 rcases (by omega:k=0∨k=1∨k=2∨k=3) with rfl|rfl|rfl|rfl <;> rfl
theorem b4_congr {f g:Nat→Nat}(h:∀ j,j<4→f j=g j):b4 f=b4 g:=by
 unfold b4;rw [h 0 (by omega),h 1 (by omega),h 2 (by omega),h 3 (by omega)]
theorem b4_put (f g:Nat→Nat)(k x:Nat)(h:k<4)(hx:g k=x)(ho:∀ j,j<4→j≠k→g j=f j):putC (b4 f) k (.int .u8 ((x:Nat):Int))=b4 g:=by
 subst hx
 rcases (by omega:k=0∨k=1∨k=2∨k=3) with rfl|rfl|rfl|rfl
 ·unfold b4;rw [ho 1 (by omega) (by omega),ho 2 (by omega) (by omega),ho 3 (by omega) (by omega)];rfl
 ·unfold b4;rw [ho 0 (by omega) (by omega),ho 2 (by omega) (by omega),ho 3 (by omega) (by omega)];rfl
 ·unfold b4;rw [ho 0 (by omega) (by omega),ho 1 (by omega) (by omega),ho 3 (by omega) (by omega)];rfl
 ·unfold b4;rw [ho 0 (by omega) (by omega),ho 1 (by omega) (by omega),ho 2 (by omega) (by omega)];rfl
instance zc_b4:ZC Tryz.prog 74 (b4 fun _=>0):=⟨by kernel_rfl⟩
theorem b4_build (f:Nat→Nat)(a b c d:Int)(h0:a=f 0)(h1:b=f 1)(h2:c=f 2)(h3:d=f 3):Value.agg [.int .u8 a,.int .u8 b,.int .u8 c,.int .u8 d].toArray=.agg (b4 f):=by
 subst h0 h1 h2 h3;rfl
attribute [irreducible] b4
end Go.Proofs.YtkendlnjaopbeaaGreatDoor
namespace Go.Proofs.YtkendlnjaopbeaaGreatDoor
open Go.RowKit
set_option linter.unusedVariables false
set_option linter.unusedSimpArgs false
set_option maxRecDepth 100000
def partC (b c:Nat→Nat)(i:Nat):Nat→Nat
 | 0=>0
 | k+1=>partC b c i k ^^^ gmul (b k) (c ((i+k) % 4))
def colf (b c:Nat→Nat)(i:Nat):Nat:=partC b c i 4
theorem part_lt {b c:Nat→Nat}(hb:∀ j,b j<256)(i:Nat):∀ k,partC b c i k<256
 | 0=>by unfold partC;decide
 | k+1=>xor_lt (part_lt hb i k) (gmul_lt _ (hb k))
def cst (b c:Nat→Nat)(i k j:Nat):Nat:=if j<i then colf b c j else if j=i then partC b c i k else 0
set_option maxHeartbeats 4000000 in
theorem column_gf (b c:Nat→Nat)(hb:∀ j,b j<256)(hc:∀ j,c j<256)(w:World):Calls Tryz.prog 121 [.agg (b4 c),.agg (b4 b)].toArray w (Ret (.agg (b4 (colf b c))) w):=by
 have z0:(fun _=>0)=cst b c 0 0:=by funext j;unfold cst;simp [partC]
 have zend:b4 (colf b c)=b4 (cst b c 4 0):=b4_congr fun j hj=>by unfold cst;rw [if_pos hj]
 rw [zend]
 clear zend
 refine fn_ret (N:=_) Tryz.func121 rfl Tryz.ntmps121 Tryz.results121 (by simp) ?_
 simp only [initS,Nat.reduceAdd,Nat.zero_add]
 repeat' (first|(refine wlB ?_)|(refine efZCnn ?_;intro n hn)|(refine efBnn ?_;intro n hn)|(refine efB ?_)|(refine wl_skip rfl rfl ?_)|(refine wdV ?_)|(refine wdB ?_)|(refine wdE ?_)|(refine wdT ?_)|(refine wd_skip rfl rfl ?_)|((with_reducible refine seld_nil ?_);refine wd_nil hm0 ?_;clear hm0 hw0)|((with_reducible refine wc_seq ?_);intro K hK)|(refine auC ?_)|(refine wc_cond rfl (fun hc=>?_) (fun hc=>?_))|(refine wc_draw (by kernel_rfl) (by kernel_rfl) (by decide +kernel) ?_;intro w0 hw0 hm0;(try simp only [List.append_eq,List.cons_append,List.nil_append]))|(refine auP ?_)|((refine auR ?_);clear hK K)|(refine auR ?_)|((with_reducible refine hK _ _ ?_);clear hK K)|fail)
 rename_i n1 g1 n2 g2 n3 g3
 obtain ⟨n4,rfl⟩:∃ n4,n4=n:=⟨n,rfl⟩
 refine wc_loop (σ:=Nat) (fun i=>[(2,ptr n1),(3,ptr n2),(4,ptr n3),(5,ptr n4),(9,.int .i64 (i:Int))]) (fun i=>[(n4,(b4 (cst b c i 0),74)),(n3,(b4 fun _=>0,74)),(n2,(b4 b,74)),(n1,(b4 c,74))])
  (fun i=>i≤4) (fun i=>4 - i) 0 (Nat.zero_le _) (Fits.of ⟨rfl,rfl,rfl,rfl,rfl,trivial⟩ (by
   rw [←z0]
   repeat (first|exact SubL.nil|exact SubL.refl _|refine SubL.keep ?_|exact SubL.headA _ _|refine SubL.keepA ?_ _|refine SubL.skip ?_|refine SubL.skipA ?_ _)) rfl) ?_
 clear z0
 intro i hi
 by_cases hlt:i<4
 ·have t1:decide ((i:Int)<4)=true:=decide_eq_true (by omega)
  have hi1:IntKind.i64.wrap ((i:Int)+1)=((i+1:Nat):Int):=wrap_i64 _ (by omega) (by omega)
  clear hi
  repeat' (first|(refine wlB ?_)|(refine efBnn ?_;intro n hn)|(refine efB ?_)|(refine wl_skip rfl rfl ?_)|(refine wdV ?_)|(refine wdB ?_)|(refine wdE ?_)|(refine wdT ?_)|(refine wd_skip rfl rfl ?_)|((with_reducible refine seld_nil ?_);refine wd_nil hm0 ?_;clear hm0 hw0)|((with_reducible refine wc_seq ?_);intro K hK)|(refine auC ?_)|(refine wc_cond rfl (fun hc=>?_) (fun hc=>?_))|(refine wc_draw (by kernel_rfl) (by kernel_rfl) (by decide +kernel) ?_;intro w0 hw0 hm0;(try simp only [List.append_eq,List.cons_append,List.nil_append]))|(refine auP ?_)|((refine auR ?_);clear hK K)|(refine auR ?_)|((with_reducible refine hK _ _ ?_);clear hK K)|fail)
  refine wc_loop (σ:=Nat) (fun k=>[(2,ptr n1),(3,ptr n2),(4,ptr n3),(5,ptr n4),(6,.int .i64 (i:Int)),(9,.int .i64 (i:Int)),(12,.agg (b4 b)),(13,.int .i64 (k:Int))]) (fun k=>[(n4,(b4 (cst b c i k),74)),(n3,(b4 fun _=>0,74)),(n2,(b4 b,74)),(n1,(b4 c,74))])
   (fun k=>k≤4) (fun k=>4 - k) 0 (Nat.zero_le _) (Fits.of ⟨rfl,rfl,rfl,rfl,rfl,rfl,rfl,rfl,trivial⟩ (by
    repeat (first|exact SubL.nil|exact SubL.refl _|refine SubL.keep ?_|exact SubL.headA _ _|refine SubL.keepA ?_ _|refine SubL.skip ?_|refine SubL.skipA ?_ _)) rfl) ?_
  intro k hk
  by_cases hk4:k<4
  ·have t2:decide ((k:Int)<4)=true:=decide_eq_true (by omega)
   have hk1:IntKind.i64.wrap ((k:Int)+1)=((k+1:Nat):Int):=wrap_i64 _ (by omega) (by omega)
   have hik:IntKind.i64.wrap ((i:Int)+(k:Int))=((i+k:Nat):Int):=wrap_i64 _ (by omega) (by omega)
   have hr:((i+k:Nat):Int).tmod 4=(((i+k) % 4:Nat):Int):=by rw [rem_nn _ _ (by omega)];omega
   have hm4:(i+k) % 4<4:=Nat.mod_lt _ (by omega)
   have gb:(b4 b)[((k:Nat):Int).toNat]? = some (.int .u8 ((b k:Nat):Int)):=b4_get b k hk4
   have gc:(b4 c)[(i+k) % 4]? = some (.int .u8 ((c ((i+k) % 4):Nat):Int)):=b4_get c _ hm4
   have go:(b4 (cst b c i k))[i]? = some (.int .u8 ((partC b c i k:Nat):Int)):=by
    rw [b4_get _ i hlt];unfold cst;rw [if_neg (by omega),if_pos rfl]
   have C:=mul_gf (b k) (c ((i+k) % 4)) (hb k) (hc _)
   have hx:=bits_u8 (partC b c i k) (gmul (b k) (c ((i+k) % 4))) (part_lt hb i k) (gmul_lt _ (hb k))
   have hp:putC (b4 (cst b c i k)) i (.int .u8 ((partC b c i k ^^^ gmul (b k) (c ((i+k) % 4)):Nat):Int))=b4 (cst b c i (k+1)):=by
    refine b4_put _ _ i _ hlt ?_ fun j hj hne=>?_
    ·unfold cst;rw [if_neg (by omega),if_pos rfl];rfl
    ·unfold cst
     by_cases h:j<i
     ·rw [if_pos h,if_pos h]
     ·rw [if_neg h,if_neg h,if_neg hne,if_neg hne]
   clear hk t1 hi1 hb hc
   repeat' (first|(refine wlB ?_)|(refine efBnn ?_;intro n hn)|(refine efB ?_)|(refine wl_skip rfl rfl ?_)|(refine wdV ?_)|(refine wdB ?_)|((with_reducible refine seld_call ?_);refine wd_rd hm0 rfl rfl rfl rfl (rd_call rfl rfl rfl (fun w hm=>by with_reducible exact C w)) ?_)|(refine wdE ?_)|(refine wdT ?_)|(refine wd_skip rfl rfl ?_)|((with_reducible refine seld_nil ?_);refine wd_nil hm0 ?_;clear hm0 hw0)|((with_reducible refine wc_seq ?_);intro K hK)|(refine auC ?_)|(refine wc_cond rfl (fun hc=>?_) (fun hc=>?_))|(refine wc_draw (by kernel_rfl) (by kernel_rfl) (by decide +kernel) ?_;intro w0 hw0 hm0;(try simp only [List.append_eq,List.cons_append,List.nil_append]))|(refine auP ?_)|((refine auR ?_);clear hK K)|(refine auR ?_)|((with_reducible refine hK _ _ ?_);clear hK K)|fail)
   exact ⟨k+1,hk4,by omega,Fits.of ⟨rfl,rfl,rfl,rfl,rfl,rfl,rfl,rfl,trivial⟩ (by
    repeat (first|exact SubL.nil|exact SubL.refl _|refine SubL.keep ?_|exact SubL.headA _ _|refine SubL.keepA ?_ _|refine SubL.skip ?_|refine SubL.skipA ?_ _)) rfl⟩
  ·obtain rfl:k=4:=by omega
   have t2:decide (((4:Nat):Int)<4)=false:=rfl
   have e:b4 (cst b c i 4)=b4 (cst b c (i+1) 0):=b4_congr fun j hj=>by
    unfold cst colf
    by_cases h:j<i
    ·rw [if_pos h,if_pos (by omega)]
    ·by_cases h2:j=i
     ·subst h2;rw [if_neg (by omega),if_pos rfl,if_pos (by omega)]
     ·rw [if_neg h,if_neg h2,if_neg (by omega)]
      by_cases h3:j=i+1
      ·rw [if_pos h3];rfl
      ·rw [if_neg h3]
   rw [e]
   clear e hb hc hk hk4
   repeat' (first|(refine wlB ?_)|(refine efBnn ?_;intro n hn)|(refine efB ?_)|(refine wl_skip rfl rfl ?_)|(refine wdV ?_)|(refine wdB ?_)|(refine wdE ?_)|(refine wdT ?_)|(refine wd_skip rfl rfl ?_)|((with_reducible refine seld_nil ?_);refine wd_nil hm0 ?_;clear hm0 hw0)|((with_reducible refine wc_seq ?_);intro K hK)|(refine auC ?_)|(refine wc_cond rfl (fun hc=>?_) (fun hc=>?_))|(refine wc_draw (by kernel_rfl) (by kernel_rfl) (by decide +kernel) ?_;intro w0 hw0 hm0;(try simp only [List.append_eq,List.cons_append,List.nil_append]))|(refine auP ?_)|((refine auR ?_);clear hK K)|(refine auR ?_)|((with_reducible refine hK _ _ ?_);clear hK K)|fail)
   exact ⟨i+1,hlt,by omega,Fits.of ⟨rfl,rfl,rfl,rfl,rfl,trivial⟩ (by
    repeat (first|exact SubL.nil|exact SubL.refl _|refine SubL.keep ?_|exact SubL.headA _ _|refine SubL.keepA ?_ _|refine SubL.skip ?_|refine SubL.skipA ?_ _)) rfl⟩
 ·obtain rfl:i=4:=by omega
  have t1:decide (((4:Nat):Int)<4)=false:=rfl
  clear hi hb hc hlt
  repeat' (first|(refine wlB ?_)|(refine efBnn ?_;intro n hn)|(refine efB ?_)|(refine wl_skip rfl rfl ?_)|(refine wdV ?_)|(refine wdB ?_)|(refine wdE ?_)|(refine wdT ?_)|(refine wd_skip rfl rfl ?_)|((with_reducible refine seld_nil ?_);refine wd_nil hm0 ?_;clear hm0 hw0)|((with_reducible refine wc_seq ?_);intro K hK)|(refine auC ?_)|(refine wc_cond rfl (fun hc=>?_) (fun hc=>?_))|(refine wc_draw (by kernel_rfl) (by kernel_rfl) (by decide +kernel) ?_;intro w0 hw0 hm0;(try simp only [List.append_eq,List.cons_append,List.nil_append]))|(refine auP ?_)|((refine auR ?_);clear hK K)|(refine auR ?_)|((with_reducible refine hK _ _ ?_);clear hK K)|fail)
  first|refine end_ret (ResP.cell rfl ld_whole ResP.nil) ?_|refine end_normal (ResP.cell rfl ld_whole ResP.nil) ?_
  first|rfl|(show _=_;rfl)|(simp only [tupV, *];done)
def mixB (j:Nat):Nat:=match j with|0=>2|1=>3|2=>1|3=>1|_=>0
def unB (j:Nat):Nat:=match j with|0=>14|1=>11|2=>13|3=>9|_=>0
theorem mixB_lt (j:Nat):mixB j<256:=by unfold mixB;split <;> decide
theorem unB_lt (j:Nat):unB j<256:=by unfold unB;split <;> decide
theorem mixB_val:Value.agg [.int .u8 2,.int .u8 3,.int .u8 1,.int .u8 1].toArray=.agg (b4 mixB):=b4_build _ _ _ _ _ rfl rfl rfl rfl
theorem unB_val:Value.agg [.int .u8 14,.int .u8 11,.int .u8 13,.int .u8 9].toArray=.agg (b4 unB):=b4_build _ _ _ _ _ rfl rfl rfl rfl
theorem mix_gf (c:Nat→Nat)(hc:∀ j,c j<256)(w:World):Calls Tryz.prog 120 [.agg (b4 c)].toArray w (Ret (.agg (b4 (colf mixB c))) w):=by
 have C:=column_gf mixB c mixB_lt hc
 clear hc
 refine fn_ret (N:=_) Tryz.func120 rfl Tryz.ntmps120 Tryz.results120 (by simp) ?_
 simp only [initS,Nat.reduceAdd,Nat.zero_add]
 repeat' (first|(refine wlB ?_)|((with_reducible refine sel_build ?_);refine wv rfl rfl (rd_cast (rd_buildA rfl rfl) mixB_val) ?_)|((with_reducible refine sel_call ?_);refine wl_rd rfl rfl (rd_call rfl rfl rfl (fun w hm=>by with_reducible exact C w)) ?_)|(refine wlE ?_)|(refine efZCnn ?_;intro n hn)|(refine efBnn ?_;intro n hn)|(refine efB ?_)|(refine wl_skip rfl rfl ?_)|((with_reducible refine wc_seq ?_);intro K hK)|(refine auC ?_)|(refine wc_cond rfl (fun hc=>?_) (fun hc=>?_))|(refine wc_draw (by kernel_rfl) (by kernel_rfl) (by decide +kernel) ?_;intro w0 hw0 hm0;(try simp only [List.append_eq,List.cons_append,List.nil_append]))|(refine auP ?_)|((refine auR ?_);clear hK K)|(refine auR ?_)|((with_reducible refine hK _ _ ?_);clear hK K)|fail)
 first|refine end_ret (ResP.cell rfl ld_whole ResP.nil) ?_|refine end_normal (ResP.cell rfl ld_whole ResP.nil) ?_
 first|rfl|(show _=_;rfl)|(simp only [tupV, *];done)
theorem unmix_gf (c:Nat→Nat)(hc:∀ j,c j<256)(w:World):Calls Tryz.prog 129 [.agg (b4 c)].toArray w (Ret (.agg (b4 (colf unB c))) w):=by
 have C:=column_gf unB c unB_lt hc
 clear hc
 refine fn_ret (N:=_) Tryz.func129 rfl Tryz.ntmps129 Tryz.results129 (by simp) ?_
 simp only [initS,Nat.reduceAdd,Nat.zero_add]
 repeat' (first|(refine wlB ?_)|((with_reducible refine sel_build ?_);refine wv rfl rfl (rd_cast (rd_buildA rfl rfl) unB_val) ?_)|((with_reducible refine sel_call ?_);refine wl_rd rfl rfl (rd_call rfl rfl rfl (fun w hm=>by with_reducible exact C w)) ?_)|(refine wlE ?_)|(refine efZCnn ?_;intro n hn)|(refine efBnn ?_;intro n hn)|(refine efB ?_)|(refine wl_skip rfl rfl ?_)|((with_reducible refine wc_seq ?_);intro K hK)|(refine auC ?_)|(refine wc_cond rfl (fun hc=>?_) (fun hc=>?_))|(refine wc_draw (by kernel_rfl) (by kernel_rfl) (by decide +kernel) ?_;intro w0 hw0 hm0;(try simp only [List.append_eq,List.cons_append,List.nil_append]))|(refine auP ?_)|((refine auR ?_);clear hK K)|(refine auR ?_)|((with_reducible refine hK _ _ ?_);clear hK K)|fail)
 first|refine end_ret (ResP.cell rfl ld_whole ResP.nil) ?_|refine end_normal (ResP.cell rfl ld_whole ResP.nil) ?_
 first|rfl|(show _=_;rfl)|(simp only [tupV, *];done)
end Go.Proofs.YtkendlnjaopbeaaGreatDoor
