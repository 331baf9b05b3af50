/- AES in plain terms: states as lists of 16 bytes;decrypting is back from encrypting. The package aes,walked: by. The walks of gf. gf.Sub and gf.Unsub,walked. The package aes,walked: each. The package aes,walked: Encrypt. -/
import Derived.Test.YtkendlnjaopbeaaGreatDoorJnAD
namespace Go.Proofs.YtkendlnjaopbeaaGreatDoor
set_option linter.unusedVariables false
theorem gd16 {f:Nat→Nat}{i:Nat}(h:i<16):((List.range 16).map f).getD i 0=f i:=by
 simp [List.getD,h]
theorem ext16 {a b:List Nat}(ha:a.length=16)(hb:b.length=16)(h:∀ i,i<16→a.getD i 0=b.getD i 0):a=b:=by
 refine List.ext_getElem (by omega) fun i h1 h2=>?_
 have:=h i (by omega)
 simpa [List.getD,h1,h2] using this
structure B16 (b:List Nat):Prop where
 len:b.length=16
 lt:∀ i,b.getD i 0<256
theorem B16.map {f:Nat→Nat}(h:∀ i,i<16→f i<256):B16 ((List.range 16).map f):=⟨by simp,fun i=>by
 by_cases hi:i<16
 ·rw [gd16 hi];exact h i hi
 ·simp [List.getD,hi]⟩
theorem B16.of {b:List Nat}(hl:b.length=16)(h:∀ x∈b,x<256):B16 b:=⟨hl,fun i=>by
 rw [List.getD_eq_getElem?_getD]
 cases hx:b[i]? with
 | none=>simp
 | some x=>exact h x (List.mem_of_getElem? hx)⟩
theorem B16.byl {b:List Nat}(h:B16 b):∀ x∈b,x<256:=fun x hx=>by
 obtain ⟨i,hi,rfl⟩:=List.mem_iff_getElem.1 hx
 have:=h.lt i
 simpa [List.getD,hi] using this
def addK (W:List Nat)(r:Nat)(b:List Nat):List Nat:=(List.range 16).map fun i=>b.getD i 0 ^^^ W.getD (16 * r+i) 0
def subL (b:List Nat):List Nat:=(List.range 16).map fun i=>gsub (b.getD ((i+i % 4 * 4) % 16) 0)
def unsubL (b:List Nat):List Nat:=(List.range 16).map fun i=>gunsub (b.getD ((i+i % 4 * 12) % 16) 0)
def mixL (B:Nat→Nat)(b:List Nat):List Nat:=(List.range 16).map fun i=>colf B (fun j=>b.getD (i / 4 * 4+j) 0) (i % 4)
structure KOk (W:List Nat):Prop where
 lt:∀ i,W.getD i 0<256
theorem addK_ok {W:List Nat}(hW:KOk W){r:Nat}{b:List Nat}(hb:B16 b):B16 (addK W r b):=B16.map fun i hi=>xor_lt (hb.lt i) (hW.lt _)
theorem subL_ok {b:List Nat}(hb:B16 b):B16 (subL b):=B16.map fun i hi=>gsub_lt _ (hb.lt _)
theorem unsubL_ok {b:List Nat}(hb:B16 b):B16 (unsubL b):=B16.map fun i hi=>gunsub_lt _ (hb.lt _)
theorem mixL_ok {B:Nat→Nat}(hB:∀ j,B j<256){b:List Nat}:B16 (mixL B b):=B16.map fun i hi=>colf_lt hB _ _
theorem addK_addK {W:List Nat}(r:Nat){b:List Nat}(hb:b.length=16):addK W r (addK W r b)=b:=by
 refine ext16 (by simp [addK]) hb fun i hi=>?_
 rw [addK,gd16 hi,addK,gd16 hi,Nat.xor_assoc,Nat.xor_self,Nat.xor_zero]
theorem unsub_sub {b:List Nat}(hb:B16 b):unsubL (subL b)=b:=by
 refine ext16 (by simp [unsubL]) hb.len fun i hi=>?_
 rw [unsubL,gd16 hi,subL,gd16 (Nat.mod_lt _ (by decide)),law1 _ (hb.lt _)]
 congr 1
 omega
theorem sub_unsub {b:List Nat}(hb:B16 b):subL (unsubL b)=b:=by
 refine ext16 (by simp [subL]) hb.len fun i hi=>?_
 rw [subL,gd16 hi,unsubL,gd16 (Nat.mod_lt _ (by decide)),law2 _ (hb.lt _)]
 congr 1
 omega
theorem mix_get {B:Nat→Nat}{b:List Nat}{i j:Nat}(hi:i<16)(hj:j<4):(mixL B b).getD (i / 4 * 4+j) 0=colf B (fun k=>b.getD (i / 4 * 4+k) 0) j:=by
 rw [mixL,gd16 (by omega),show (i / 4 * 4+j) / 4=i / 4 by omega,show (i / 4 * 4+j) % 4=j by omega]
theorem unmix_mix {b:List Nat}(hb:B16 b):mixL unB (mixL mixB b)=b:=by
 refine ext16 (by simp [mixL]) hb.len fun i hi=>?_
 rw [mixL,gd16 hi,colf_congr (fun j hj=>mix_get hi hj),un_mix (fun j=>hb.lt _) _ (Nat.mod_lt _ (by decide))]
 congr 1
 omega
theorem mix_unmix {b:List Nat}(hb:B16 b):mixL mixB (mixL unB b)=b:=by
 refine ext16 (by simp [mixL]) hb.len fun i hi=>?_
 rw [mixL,gd16 hi,colf_congr (fun j hj=>mix_get hi hj),mix_un (fun j=>hb.lt _) _ (Nat.mod_lt _ (by decide))]
 congr 1
 omega
def encN (W:List Nat)(R:Nat)(b:List Nat):Nat→List Nat
 | 0=>addK W 0 b
 | n+1=>addK W (n+1) (if n+1<R then mixL mixB (subL (encN W R b n)) else subL (encN W R b n))
def encL (W:List Nat)(R:Nat)(b:List Nat):List Nat:=encN W R b R
def decN (W:List Nat)(R:Nat)(b:List Nat):Nat→List Nat
 | 0=>b
 | k+1=>unsubL (if R - k<R then mixL unB (addK W (R - k) (decN W R b k)) else addK W (R - k) (decN W R b k))
def decL (W:List Nat)(R:Nat)(b:List Nat):List Nat:=addK W 0 (decN W R b R)
theorem encN_ok {W:List Nat}(hW:KOk W){R:Nat}{b:List Nat}(hb:B16 b):∀ n,B16 (encN W R b n)
 | 0=>addK_ok hW hb
 | n+1=>by
  rw [encN]
  refine addK_ok hW ?_
  split
  ·exact mixL_ok mixB_lt
  ·exact subL_ok (encN_ok hW hb n)
theorem decN_ok {W:List Nat}(hW:KOk W){R:Nat}{b:List Nat}(hb:B16 b):∀ n,B16 (decN W R b n)
 | 0=>hb
 | n+1=>by
  rw [decN]
  refine unsubL_ok ?_
  split
  ·exact mixL_ok unB_lt
  ·exact addK_ok hW (decN_ok hW hb n)
theorem encL_ok {W:List Nat}(hW:KOk W){R:Nat}{b:List Nat}(hb:B16 b):B16 (encL W R b):=encN_ok hW hb R
theorem decL_ok {W:List Nat}(hW:KOk W){R:Nat}{b:List Nat}(hb:B16 b):B16 (decL W R b):=addK_ok hW (decN_ok hW hb R)
theorem dec_enc {W:List Nat}(hW:KOk W){R:Nat}{b:List Nat}(hb:B16 b):decL W R (encL W R b)=b:=by
 have key:∀ k,k≤R→decN W R (encL W R b) k=encN W R b (R - k):=fun k=>by
  induction k with
  | zero=>intro _;rfl
  | succ k ih=>
   intro hk
   obtain ⟨n,hn⟩:∃ n,R - k=n+1:=⟨R - k - 1,by omega⟩
   have hs:=subL_ok (encN_ok hW hb n (R:=R))
   rw [decN,ih (by omega),hn,show R - (k+1)=n by omega,encN]
   by_cases hr:n+1<R
   ·rw [if_pos hr,if_pos hr,addK_addK _ (mixL_ok mixB_lt).len,unmix_mix hs,unsub_sub (encN_ok hW hb n)]
   ·rw [if_neg hr,if_neg hr,addK_addK _ hs.len,unsub_sub (encN_ok hW hb n)]
 rw [decL,key R (Nat.le_refl _),Nat.sub_self,encN,addK_addK _ hb.len]
theorem enc_dec {W:List Nat}(hW:KOk W){R:Nat}{b:List Nat}(hb:B16 b):encL W R (decL W R b)=b:=by
 have key:∀ n,n≤R→encN W R (decL W R b) n=decN W R b (R - n):=fun n=>by
  induction n with
  | zero=>intro _;rw [encN,decL,addK_addK _ (decN_ok hW hb R).len];rfl
  | succ n ih=>
   intro hn
   obtain ⟨k,hk⟩:∃ k,R - n=k+1:=⟨R - n - 1,by omega⟩
   have ho:=decN_ok hW hb k (R:=R)
   rw [encN,ih (by omega),hk,decN,show R - k=n+1 by omega,show R - (n+1)=k by omega]
   by_cases hr:n+1<R
   ·rw [if_pos hr,if_pos hr,sub_unsub (mixL_ok unB_lt),mix_unmix (addK_ok hW ho),addK_addK _ ho.len]
   ·rw [if_neg hr,if_neg hr,sub_unsub (addK_ok hW ho),addK_addK _ ho.len]
 rw [encL,key R (Nat.le_refl _),Nat.sub_self];rfl
end Go.Proofs.YtkendlnjaopbeaaGreatDoor
namespace Go.Proofs.YtkendlnjaopbeaaGreatDoor
open Go.RowKit
set_option linter.unusedVariables false
set_option linter.unusedSimpArgs false
set_option maxRecDepth 100000
abbrev sgA (W:List Nat)(R:Nat):Sg:=[(240,bys W),(1,#[.int .i64 (R:Int)])]
abbrev kv (W:List Nat)(R:Nat):Value:=.agg (rwA (sgA W R))
class AKey (W:List Nat):Prop where
 len:W.length=240
 byl:∀ x∈W,x<256
theorem AKey.ok {W:List Nat}(h:AKey W):KOk W:=⟨fun i=>by
 rw [List.getD_eq_getElem?_getD]
 cases hx:W[i]? with
 | none=>simp
 | some x=>exact h.byl x (List.mem_of_getElem? hx)⟩
instance {W:List Nat}[h:AKey W]:SegL (bys W) 240:=seg_bys h.len
instance:ZC Tryz.prog 23 (bys (List.replicate 16 0)):=⟨by kernel_rfl⟩
def addP (W:List Nat)(r:Nat)(b:List Nat)(i:Nat):List Nat:=(addK W r b).take i++b.drop i
theorem addK_len (W:List Nat)(r:Nat)(b:List Nat):(addK W r b).length=16:=by simp [addK]
theorem addP_len {W:List Nat}{r:Nat}{b:List Nat}(hb:b.length=16){i:Nat}(hi:i≤16):(addP W r b i).length=16:=by
 rw [addP,List.length_append,List.length_take,addK_len,List.length_drop,hb];omega
theorem addP_get {W:List Nat}{r:Nat}{b:List Nat}(hb:b.length=16){i:Nat}(hi:i<16):(addP W r b i).getD i 0=b.getD i 0:=by
 rw [addP,List.getD_eq_getElem?_getD,List.getElem?_append_right (by rw [List.length_take,addK_len];omega),List.length_take,addK_len,Nat.min_eq_left (by omega),Nat.sub_self,List.getElem?_drop,Nat.add_zero,List.getD_eq_getElem?_getD]
theorem addP_step {W:List Nat}{r:Nat}{b:List Nat}(hb:b.length=16){i:Nat}(hi:i<16):(addP W r b i).set i (b.getD i 0 ^^^ W.getD (16 * r+i) 0)=addP W r b (i+1):=by
 have e1:b.drop i=b.getD i 0::b.drop (i+1):=by rw [List.drop_eq_getElem_cons (by omega)];simp [List.getD,(by omega:i<b.length)]
 have e2:(addK W r b).take (i+1)=(addK W r b).take i++[b.getD i 0 ^^^ W.getD (16 * r+i) 0]:=by
  have hg:(addK W r b)[i]? = some (b.getD i 0 ^^^ W.getD (16 * r+i) 0):=by simp [addK,hi]
  rw [List.take_add_one,hg];rfl
 rw [addP,List.set_append_right _ _ (by rw [List.length_take,addK_len];omega),List.length_take,addK_len,Nat.min_eq_left (by omega),Nat.sub_self,e1,List.set_cons_zero,addP,e2,List.append_assoc]
 rfl
theorem addP_all {W:List Nat}{r:Nat}{b:List Nat}(hb:b.length=16):addP W r b 16=addK W r b:=by
 rw [addP,List.take_of_length_le (by rw [addK_len];exact Nat.le_refl _),List.drop_of_length_le (by omega),List.append_nil]
set_option maxHeartbeats 2000000 in
theorem by_c (w':World){g r R:Nat}{W b:List Nat}(hk:AKey W)(hr:r≤14)(hb:B16 b)(hg:w'.heap[g]? = some (.cells (rwA (sgA W R)) 77)) :
  Calls Tryz.prog 118 [ptr g,.agg (bys b),.int .i64 (r:Int)].toArray w' (Ret (.agg (bys (addK W r b))) w'):=by
 have hcell:∀ j,j<240→w'.cell? ⟨g,j,none⟩=some (.int .u8 (W.getD j 0:Int)):=fun j hj=>by
  refine cell_of hg ?_
  have hl:(bl W).length=240:=by rw [bl_len,hk.len]
  rw [rwA,List.getElem?_toArray]
  simp only [rwL,List.map_cons,List.flatten_cons,bys]
  rw [List.getElem?_append_left (by rw [hl];exact hj),bl_get (by rw [hk.len];exact hj)]
 have hbl:=hb.len
 have hW:=hk.ok
 haveI:NBy b 16:=⟨hbl⟩
 have k4:IntKind.i64.wrap (4 * (r:Int))=((4 * r:Nat):Int):=by rw [wrap_i64 _ (by omega) (by omega)];omega
 have hp0:addP W r b 0=b:=by simp [addP]
 clear hg
 refine fn_ret (N:=_) Tryz.func118 rfl Tryz.ntmps118 Tryz.results118 (by simp) ?_
 simp only [initS,Nat.reduceAdd,Nat.zero_add]
 repeat' (first|(refine wlS ?_)|(refine wlB ?_)|(refine efZCnn ?_;intro n hn)|(refine efBnn ?_;intro n hn)|(refine efB ?_)|(refine efBS ?_)|(refine wl_skip rfl rfl ?_)|(refine wdS ?_)|(refine wdV ?_)|(refine wdB ?_)|(refine wdT ?_)|(refine wdTO ?_)|(refine wd_skip rfl rfl ?_)|((with_reducible refine seld_nil ?_);refine wd_nil hm0 ?_;clear hm0 hw0)|((with_reducible refine wc_seq ?_);intro K hK)|(refine auC ?_)|(refine wc_cond rfl (fun hc=>?_) (fun hc=>?_))|(refine wc_draw (by kernel_rfl) (by kernel_rfl) (by decide +kernel) ?_;intro w0 hw0 hm0;(try simp only [List.append_eq,List.cons_append,List.nil_append]))|(refine auP ?_)|((refine auR ?_);clear hK K)|(refine auR ?_)|((with_reducible refine hK _ _ ?_);clear hK K)|fail)
 rename_i n4 hn4
 refine wc_loop (σ:=Nat) (fun i=>[(0,ptr g),(2,.int .i64 (r:Int)),(4,ptr n4),(6,ptr n),(8,.int .i64 (i:Int))])
  (fun i=>[(n,(bys (List.replicate 16 0),23)),(n4,(bys (addP W r b i),23))])
  (fun i=>i≤16) (fun i=>16 - i) 0 (Nat.zero_le _) (Fits.of ⟨rfl,rfl,rfl,rfl,rfl,trivial⟩ (by rw [hp0];exact SubL.refl _) rfl) ?_
 intro i hi
 haveI:NBy (addP W r b i) 16:=⟨addP_len hbl hi⟩
 by_cases hlt:i<16
 ·have t1:decide ((i:Int)<16)=true:=decide_eq_true (by omega)
  have k1:IntKind.i64.wrap ((i:Int)+1)=((i+1:Nat):Int):=by rw [wrap_i64 _ (by omega) (by omega)];omega
  have k2:IntKind.i64.wrap ((i:Int).tdiv 4)=((i / 4:Nat):Int):=by rw [Int.tdiv_eq_ediv_of_nonneg (by omega),wrap_i64 _ (by omega) (by omega)];omega
  have k3:(i:Int).tmod 4=((i % 4:Nat):Int):=by rw [Int.tmod_eq_emod_of_nonneg (by omega)];omega
  have k5:IntKind.i64.wrap (((4 * r:Nat):Int)+((i / 4:Nat):Int))=((4 * r+i / 4:Nat):Int):=by rw [wrap_i64 _ (by omega) (by omega)];omega
  have j1:(i:Int)<((16:Nat):Int):=by omega
  have j2:((4 * r+i / 4:Nat):Int)<((60:Nat):Int):=by omega
  have j3:((i % 4:Nat):Int)<((4:Nat):Int):=by omega
  have gv:(bys (addP W r b i))[i]? = some (.int .u8 ((b.getD i 0:Nat):Int)):=by
   have:=bys_get (l:=addP W r b i) (i:=i) (by rw [addP_len hbl hi];omega)
   rwa [addP_get hbl hlt] at this
  have hc:w'.cell? ⟨g,(4 * r+i / 4) * 4+i % 4,none⟩=some (.int .u8 (W.getD (16 * r+i) 0:Int)):=by
   have:=hcell ((4 * r+i / 4) * 4+i % 4) (by omega)
   rwa [show W.getD ((4 * r+i / 4) * 4+i % 4) 0=W.getD (16 * r+i) 0 by congr 1;omega] at this
  have st:=addP_step (W:=W) (r:=r) hbl hlt
  have xo:=bits_u8 (b.getD i 0) (W.getD (16 * r+i) 0) (hb.lt i) (hW.lt _)
  repeat' (first|(refine wlS ?_)|(refine wlB ?_)|(refine wlO ?_)|(refine efBnn ?_;intro n hn)|(refine efB ?_)|(refine efBS ?_)|(refine wl_skip rfl rfl ?_)|((with_reducible refine wc_seq ?_);intro K hK)|(refine auC ?_)|(refine wc_cond rfl (fun hc=>?_) (fun hc=>?_))|((with_reducible refine wc_drawT (by kernel_rfl) ?_);(try simp only [List.append_eq,List.cons_append,List.nil_append,List.length_cons,List.length_nil,Nat.reduceAdd]))|((with_reducible refine sel_wh ?_);(refine wh_if (by decide +kernel) ?_);first|(refine wh_take (lq:=[]) rfl rfl rfl rfl (by first|exact rvS|exact rvB|exact rvO) (Or.inl rfl) ?_)|(refine wh_takeL rfl rfl rfl rfl (by first|exact rvS|exact rvB|exact rvO) (by decide +kernel) ?_))|(refine whS ?_;intro v hv hp)|((with_reducible refine sel_wh ?_);first|(refine wh_pass rfl rfl rfl rfl ?_)|(refine wh_done rfl ?_)|(refine wh_all rfl ?_))|((with_reducible refine sel_rest ?_);first|exact rest_nil rfl|refine rest_cons rfl rfl ?_ ?_)|((with_reducible refine sel_nx ?_);first|refine next_of ?_|refine next_late (by decide +kernel) ?_)|(refine auP ?_)|((refine auR ?_);clear hK K)|(refine auR ?_)|((with_reducible refine hK _ _ ?_);clear hK K)|fail)
  exact ⟨i+1,hlt,by omega,Fits.of ⟨rfl,rfl,rfl,rfl,rfl,trivial⟩ (by rw [←st];exact SubL.refl _) rfl⟩
 ·obtain rfl:i=16:=by omega
  have t1:decide (((16:Nat):Int)<16)=false:=by decide
  rw [addP_all hbl] at *
  repeat' (first|(refine wlS ?_)|(refine wlB ?_)|(refine efZCnn ?_;intro n hn)|(refine efBnn ?_;intro n hn)|(refine efB ?_)|(refine efBS ?_)|(refine wl_skip rfl rfl ?_)|(refine wdS ?_)|(refine wdV ?_)|(refine wdB ?_)|(refine wdT ?_)|(refine wdTO ?_)|(refine wd_skip rfl rfl ?_)|((with_reducible refine seld_nil ?_);refine wd_nil hm0 ?_;clear hm0 hw0)|((with_reducible refine wc_seq ?_);intro K hK)|(refine auC ?_)|(refine wc_cond rfl (fun hc=>?_) (fun hc=>?_))|(refine wc_draw (by kernel_rfl) (by kernel_rfl) (by decide +kernel) ?_;intro w0 hw0 hm0;(try simp only [List.append_eq,List.cons_append,List.nil_append]))|(refine auP ?_)|((refine auR ?_);clear hK K)|(refine auR ?_)|((with_reducible refine hK _ _ ?_);clear hK K)|fail)
  first|refine end_ret (ResP.cell rfl ld_whole ResP.nil) ?_|refine end_normal (ResP.cell rfl ld_whole ResP.nil) ?_
  first|rfl|(show _=_;rfl)|(simp only [tupV, *];done)
end Go.Proofs.YtkendlnjaopbeaaGreatDoor
namespace Go.Proofs.YtkendlnjaopbeaaGreatDoor
open Go.RowKit
set_option linter.unusedVariables false
set_option linter.unusedSimpArgs false
set_option maxRecDepth 100000
set_option maxHeartbeats 2000000 in
theorem pow_gf (a n:Nat)(ha:a<256)(hn:n<18446744073709551616)(w:World):Calls Tryz.prog 35 [.int .u8 a,.int .u64 n].toArray w (Ret (.int .u8 ((npow a n:Nat):Int)) w):=by
 obtain ⟨R,hR⟩:∃ R,R=npow a n:=⟨_,rfl⟩
 rw [←hR]
 refine fn_ret (N:=_) Tryz.func35 rfl Tryz.ntmps35 Tryz.results35 (by simp) ?_
 simp only [initS,Nat.reduceAdd,Nat.zero_add]
 repeat' (first|(refine wlB ?_)|(refine wlE ?_)|(refine wl_skip rfl rfl ?_)|((with_reducible refine wc_seq ?_);intro K hK)|(refine auC ?_)|(refine wc_cond rfl (fun hc=>?_) (fun hc=>?_))|(refine wc_draw (by kernel_rfl) (by kernel_rfl) (by decide +kernel) ?_;intro w0 hw0 hm0;(try simp only [List.append_eq,List.cons_append,List.nil_append]))|(refine auP ?_)|((refine auR ?_);clear hK K)|(refine auR ?_)|((with_reducible refine hK _ _ ?_);clear hK K)|fail)
 refine wc_loop (σ:=Nat×Nat×Nat) (fun x=>[(0,.int .u8 (x.1:Int)),(1,.int .u64 (x.2.1:Int)),(5,.int .u8 (x.2.2:Int))]) (fun _=>[])
  (fun x=>x.1<256∧x.2.1<18446744073709551616∧x.2.2<256∧gmul x.2.2 (npow x.1 x.2.1)=R) (fun x=>x.2.1) (a,n,1) ⟨ha,hn,by dsimp only;omega,by rw [one_gmul (npow_lt n ha)];exact hR.symm⟩ (Fits.of ⟨rfl,rfl,rfl,trivial⟩ .nil rfl) ?_
 clear hR ha hn a n
 rintro ⟨a,n,o⟩ ⟨ha,hn,ho,hR⟩
 dsimp only at ha hn ho hR ⊢
 by_cases hn0:n=0
 ·subst hn0
  rw [npow,gmul_one] at hR
  subst hR
  have ht:decide (((0:Nat):Int)>0)=false:=rfl
  repeat' (first|(refine wlB ?_)|(refine wlE ?_)|(refine wl_skip rfl rfl ?_)|((with_reducible refine wc_seq ?_);intro K hK)|(refine auC ?_)|(refine wc_cond rfl (fun hc=>?_) (fun hc=>?_))|(refine wc_draw (by kernel_rfl) (by kernel_rfl) (by decide +kernel) ?_;intro w0 hw0 hm0;(try simp only [List.append_eq,List.cons_append,List.nil_append]))|(refine auP ?_)|((refine auR ?_);clear hK K)|(refine auR ?_)|((with_reducible refine hK _ _ ?_);clear hK K)|fail)
  first|refine end_ret (ResP.tmp rfl ResP.nil) ?_|refine end_normal (ResP.tmp rfl ResP.nil) ?_
  first|rfl|(show _=_;rfl)|(simp only [tupV, *];done)
 ·have ht:decide ((n:Int)>0)=true:=decide_eq_true (by omega)
  have hand:=and1_u64 n hn
  have hn2:(n:Int) / 2 ^ min ((1:Int).toNat) (IntKind.bits .u64)=((n / 2:Nat):Int):=by show (n:Int) / 2=_;omega
  have hs:=gmul_lt a ha
  have hoa:=gmul_lt a ho
  rw [pow_step ha ho] at hR
  have hlt:n / 2<n:=by omega
  have hlt2:n / 2<18446744073709551616:=by omega
  have C2:=mul_gf a a ha ha
  by_cases hp:n % 2=1
  ·rw [if_pos hp] at hR
   rw [hp] at hand
   have C1:=mul_gf o a ho ha
   clear hp hn0 ha hn ho
   repeat' (first|(refine wlB ?_)|((with_reducible refine sel_call ?_);refine wl_rd rfl rfl (rd_call rfl rfl rfl (fun w hm=>by with_reducible first|exact C1 w|exact C2 w)) ?_)|(refine wlE ?_)|(refine wl_skip rfl rfl ?_)|((with_reducible refine wc_seq ?_);intro K hK)|(refine auC ?_)|(refine wc_cond rfl (fun hc=>?_) (fun hc=>?_))|(refine wc_draw (by kernel_rfl) (by kernel_rfl) (by decide +kernel) ?_;intro w0 hw0 hm0;(try simp only [List.append_eq,List.cons_append,List.nil_append]))|(refine auP ?_)|((refine auR ?_);clear hK K)|(refine auR ?_)|((with_reducible refine hK _ _ ?_);clear hK K)|fail)
   exact ⟨(gmul a a,n / 2,gmul o a),⟨hs,hlt2,hoa,hR⟩,hlt,Fits.of ⟨rfl,rfl,rfl,trivial⟩ .nil rfl⟩
  ·rw [if_neg hp] at hR
   rw [show n % 2=0 by omega] at hand
   clear hp hn0 ha hn
   repeat' (first|(refine wlB ?_)|((with_reducible refine sel_call ?_);refine wl_rd rfl rfl (rd_call rfl rfl rfl (fun w hm=>by with_reducible exact C2 w)) ?_)|(refine wlE ?_)|(refine wl_skip rfl rfl ?_)|((with_reducible refine wc_seq ?_);intro K hK)|(refine auC ?_)|(refine wc_cond rfl (fun hc=>?_) (fun hc=>?_))|(refine wc_draw (by kernel_rfl) (by kernel_rfl) (by decide +kernel) ?_;intro w0 hw0 hm0;(try simp only [List.append_eq,List.cons_append,List.nil_append]))|(refine auP ?_)|((refine auR ?_);clear hK K)|(refine auR ?_)|((with_reducible refine hK _ _ ?_);clear hK K)|fail)
   exact ⟨(gmul a a,n / 2,o),⟨hs,hlt2,ho,hR⟩,hlt,Fits.of ⟨rfl,rfl,rfl,trivial⟩ .nil rfl⟩
theorem inv_gf (a:Nat)(ha:a<256)(w:World):Calls Tryz.prog 70 [.int .u8 a].toArray w (Ret (.int .u8 ((ginv a:Nat):Int)) w):=by
 have C:=pow_gf a 254 ha (by decide)
 rw [show ((254:Nat):Int)=254 from rfl] at C
 clear ha
 refine fn_ret (N:=_) Tryz.func70 rfl Tryz.ntmps70 Tryz.results70 (by simp) ?_
 simp only [initS,Nat.reduceAdd,Nat.zero_add]
 repeat' (first|(refine wlB ?_)|((with_reducible refine sel_call ?_);refine wl_rd rfl rfl (rd_call rfl rfl rfl (fun w hm=>by with_reducible exact C w)) ?_)|(refine wlE ?_)|(refine wl_skip rfl rfl ?_)|((with_reducible refine wc_seq ?_);intro K hK)|(refine auC ?_)|(refine wc_cond rfl (fun hc=>?_) (fun hc=>?_))|(refine wc_draw (by kernel_rfl) (by kernel_rfl) (by decide +kernel) ?_;intro w0 hw0 hm0;(try simp only [List.append_eq,List.cons_append,List.nil_append]))|(refine auP ?_)|((refine auR ?_);clear hK K)|(refine auR ?_)|((with_reducible refine hK _ _ ?_);clear hK K)|fail)
 first|refine end_ret (ResP.tmp rfl ResP.nil) ?_|refine end_normal (ResP.tmp rfl ResP.nil) ?_
 first|rfl|(show _=_;rfl)|(simp only [tupV, *];done)
end Go.Proofs.YtkendlnjaopbeaaGreatDoor
namespace Go.Proofs.YtkendlnjaopbeaaGreatDoor
open Go.RowKit
set_option linter.unusedVariables false
set_option linter.unusedSimpArgs false
set_option maxRecDepth 100000
theorem rol_lt (x k:Nat)(hx:x<256):rol x k<256:=
 Nat.or_lt_two_pow (n:=8) (Nat.mod_lt _ (by omega)) (Nat.lt_of_le_of_lt (Nat.div_le_self _ _) hx)
theorem sp_lt {b:Nat}(hb:b<256):∀ m,sp b m<256
 | 0=>xor_lt (by decide) hb
 | m+1=>xor_lt (sp_lt hb m) (rol_lt b _ hb)
theorem or_u8 {a b:Nat}(ha:a<256)(hb:b<256):bits .or .u8 (a:Int) (b:Int)=((a ||| b:Nat):Int):=by
 have hx:a ||| b<256:=Nat.or_lt_two_pow (n:=8) ha hb
 have h1:(BitVec.ofInt 8 (a:Int)).toNat=a:=by
  rw [BitVec.ofInt_natCast,BitVec.toNat_ofNat];exact Nat.mod_eq_of_lt (by omega)
 have h2:(BitVec.ofInt 8 (b:Int)).toNat=b:=by
  rw [BitVec.ofInt_natCast,BitVec.toNat_ofNat];exact Nat.mod_eq_of_lt (by omega)
 show IntKind.u8.wrap ((BitVec.ofInt 8 (a:Int) ||| BitVec.ofInt 8 (b:Int)).toNat:Int)=_
 rw [BitVec.toNat_or,h1,h2]
 exact wrap_u8 _ (by omega) (by omega)
theorem and7 (k:Nat)(h1:1≤k)(h2:k≤7):bits .and .u64 (k:Int) 7=(k:Int):=by
 rcases (by omega:k=1∨k=2∨k=3∨k=4∨k=5∨k=6∨k=7) with rfl|rfl|rfl|rfl|rfl|rfl|rfl <;> decide +kernel
set_option maxHeartbeats 2000000 in
theorem rot_gf (x k:Nat)(hx:x<256)(h1:1≤k)(h2:k≤7)(w:World):Calls Tryz.prog 71 [.int .u8 x,.int .i64 k].toArray w (Ret (.int .u8 ((rol x k:Nat):Int)) w):=by
 have e1:IntKind.u64.wrap ((k:Nat):Int)=((k:Nat):Int):=wrap_u64 _ (by omega) (by omega)
 have e2:=and7 k h1 h2
 have e3:IntKind.u8.wrap ((x:Int) * 2 ^ min ((k:Int).toNat) (IntKind.bits .u8))=((x * 2 ^ k % 256:Nat):Int):=by
  rw [Int.toNat_natCast,show min k (IntKind.bits .u8)=k from Nat.min_eq_left (by show k≤8;omega)]
  simp only [IntKind.wrap,IntKind.bits,IntKind.signed]
  simp
 have e4:IntKind.u64.wrap (8 - (k:Int))=((8 - k:Nat):Int):=by rw [wrap_u64 _ (by omega) (by omega)];omega
 have e5:(x:Int) / 2 ^ min (((8 - k:Nat):Int).toNat) (IntKind.bits .u8)=((x / 2 ^ (8 - k):Nat):Int):=by
  rw [Int.toNat_natCast,show min (8 - k) (IntKind.bits .u8)=8 - k from Nat.min_eq_left (by show 8 - k≤8;omega)]
  simp
 have e6:bits .or .u8 ((x * 2 ^ k % 256:Nat):Int) ((x / 2 ^ (8 - k):Nat):Int)=((rol x k:Nat):Int):=or_u8 (Nat.mod_lt _ (by omega)) (Nat.lt_of_le_of_lt (Nat.div_le_self _ _) hx)
 have p1:(0:Int)≤(k:Int):=by omega
 have p2:(0:Int)≤((8 - k:Nat):Int):=by omega
 clear hx h1 h2
 refine fn_ret (N:=_) Tryz.func71 rfl Tryz.ntmps71 Tryz.results71 (by simp) ?_
 simp only [initS,Nat.reduceAdd,Nat.zero_add]
 repeat' (first|(refine wlB ?_)|(refine wl_skip rfl rfl ?_)|((with_reducible refine wc_seq ?_);intro K hK)|(refine auC ?_)|(refine wc_cond rfl (fun hc=>?_) (fun hc=>?_))|(refine wc_draw (by kernel_rfl) (by kernel_rfl) (by decide +kernel) ?_;intro w0 hw0 hm0;(try simp only [List.append_eq,List.cons_append,List.nil_append]))|(refine auP ?_)|((refine auR ?_);clear hK K)|(refine auR ?_)|((with_reducible refine hK _ _ ?_);clear hK K)|fail)
 first|refine end_ret (ResP.tmp rfl ResP.nil) ?_|refine end_normal (ResP.tmp rfl ResP.nil) ?_
 first|rfl|(show _=_;rfl)|(simp only [tupV, *];done)
set_option maxHeartbeats 2000000 in
theorem sub_gf (a:Nat)(ha:a<256)(w:World):Calls Tryz.prog 56 [.int .u8 a].toArray w (Ret (.int .u8 ((gsub a:Nat):Int)) w):=by
 have C:=inv_gf a ha
 rw [ginv_gi ha] at C
 have hb:=gi_lt a ha
 unfold gsub
 generalize gi a=b at C hb
 have h0:=bits_u8 99 b (by decide) hb
 rw [show ((99:Nat):Int)=99 from rfl,show 99 ^^^ b=sp b 0 from rfl] at h0
 refine fn_ret (N:=_) Tryz.func56 rfl Tryz.ntmps56 Tryz.results56 (by simp) ?_
 simp only [initS,Nat.reduceAdd,Nat.zero_add]
 repeat' (first|(refine wlB ?_)|((with_reducible refine sel_call ?_);refine wl_rd rfl rfl (rd_call rfl rfl rfl (fun w hm=>by with_reducible exact C w)) ?_)|(refine wlE ?_)|(refine wl_skip rfl rfl ?_)|((with_reducible refine wc_seq ?_);intro K hK)|(refine auC ?_)|(refine wc_cond rfl (fun hc=>?_) (fun hc=>?_))|(refine wc_draw (by kernel_rfl) (by kernel_rfl) (by decide +kernel) ?_;intro w0 hw0 hm0;(try simp only [List.append_eq,List.cons_append,List.nil_append]))|(refine auP ?_)|((refine auR ?_);clear hK K)|(refine auR ?_)|((with_reducible refine hK _ _ ?_);clear hK K)|fail)
 refine wc_loop (σ:=Nat) (fun m=>[(3,.int .u8 (b:Int)),(4,.int .u8 (sp b m:Nat)),(5,.int .i64 ((m+1:Nat):Int))]) (fun _=>[])
  (fun m=>m≤4) (fun m=>4 - m) 0 (Nat.zero_le _) (Fits.of ⟨rfl,rfl,rfl,trivial⟩ .nil rfl) ?_
 clear C h0 ha
 intro m hm
 by_cases hlt:m<4
 ·have t1:decide (((m+1:Nat):Int)≤4)=true:=decide_eq_true (by omega)
  have ROT:=rot_gf b (m+1) hb (by omega) (by omega)
  have hx:bits .xor .u8 ((sp b m:Nat):Int) ((rol b (m+1):Nat):Int)=((sp b (m+1):Nat):Int):=bits_u8 _ _ (sp_lt hb m) (rol_lt b _ hb)
  have hi:IntKind.i64.wrap (((m+1:Nat):Int)+1)=((m+1+1:Nat):Int):=wrap_i64 _ (by omega) (by omega)
  clear hm hb
  repeat' (first|(refine wlB ?_)|((with_reducible refine sel_call ?_);refine wl_rd rfl rfl (rd_call rfl rfl rfl (fun w hm=>by with_reducible exact ROT w)) ?_)|(refine wlE ?_)|(refine wl_skip rfl rfl ?_)|((with_reducible refine wc_seq ?_);intro K hK)|(refine auC ?_)|(refine wc_cond rfl (fun hc=>?_) (fun hc=>?_))|(refine wc_draw (by kernel_rfl) (by kernel_rfl) (by decide +kernel) ?_;intro w0 hw0 hm0;(try simp only [List.append_eq,List.cons_append,List.nil_append]))|(refine auP ?_)|((refine auR ?_);clear hK K)|(refine auR ?_)|((with_reducible refine hK _ _ ?_);clear hK K)|fail)
  exact ⟨m+1,hlt,by omega,Fits.of ⟨rfl,rfl,rfl,trivial⟩ .nil rfl⟩
 ·obtain rfl:m=4:=by omega
  have t1:decide (((4+1:Nat):Int)≤4)=false:=rfl
  clear hm hlt hb
  repeat' (first|(refine wlB ?_)|(refine wlE ?_)|(refine wl_skip rfl rfl ?_)|((with_reducible refine wc_seq ?_);intro K hK)|(refine auC ?_)|(refine wc_cond rfl (fun hc=>?_) (fun hc=>?_))|(refine wc_draw (by kernel_rfl) (by kernel_rfl) (by decide +kernel) ?_;intro w0 hw0 hm0;(try simp only [List.append_eq,List.cons_append,List.nil_append]))|(refine auP ?_)|((refine auR ?_);clear hK K)|(refine auR ?_)|((with_reducible refine hK _ _ ?_);clear hK K)|fail)
  first|refine end_ret (ResP.tmp rfl ResP.nil) ?_|refine end_normal (ResP.tmp rfl ResP.nil) ?_
  first|rfl|(show _=_;rfl)|(simp only [tupV, *];done)
set_option maxHeartbeats 2000000 in
theorem unsub_gf (a:Nat)(ha:a<256)(w:World):Calls Tryz.prog 130 [.int .u8 a].toArray w (Ret (.int .u8 ((gunsub a:Nat):Int)) w):=by
 have h0:=bits_u8 a 99 ha (by decide)
 rw [show ((99:Nat):Int)=99 from rfl] at h0
 have ht:a ^^^ 99<256:=xor_lt ha (by decide)
 unfold gunsub
 generalize a ^^^ 99=t at h0 ht
 have R1:=rot_gf t 1 ht (by decide) (by decide)
 have R3:=rot_gf t 3 ht (by decide) (by decide)
 have R6:=rot_gf t 6 ht (by decide) (by decide)
 rw [show ((1:Nat):Int)=1 from rfl] at R1
 rw [show ((3:Nat):Int)=3 from rfl] at R3
 rw [show ((6:Nat):Int)=6 from rfl] at R6
 have x1:=bits_u8 (rol t 1) (rol t 3) (rol_lt t 1 ht) (rol_lt t 3 ht)
 have x2:bits .xor .u8 ((rol t 1 ^^^ rol t 3:Nat):Int) ((rol t 6:Nat):Int)=((mid t:Nat):Int):=bits_u8 _ _ (xor_lt (rol_lt t 1 ht) (rol_lt t 3 ht)) (rol_lt t 6 ht)
 have hm:mid t<256:=xor_lt (xor_lt (rol_lt t 1 ht) (rol_lt t 3 ht)) (rol_lt t 6 ht)
 have C:=inv_gf (mid t) hm
 rw [ginv_gi hm] at C
 clear ht hm ha
 refine fn_ret (N:=_) Tryz.func130 rfl Tryz.ntmps130 Tryz.results130 (by simp) ?_
 simp only [initS,Nat.reduceAdd,Nat.zero_add]
 repeat' (first|(refine wlB ?_)|((with_reducible refine sel_call ?_);refine wl_rd rfl rfl (rd_call rfl rfl rfl (fun w hm=>by with_reducible first|exact R1 w|exact R3 w|exact R6 w|exact C w)) ?_)|(refine wlE ?_)|(refine wl_skip rfl rfl ?_)|((with_reducible refine wc_seq ?_);intro K hK)|(refine auC ?_)|(refine wc_cond rfl (fun hc=>?_) (fun hc=>?_))|(refine wc_draw (by kernel_rfl) (by kernel_rfl) (by decide +kernel) ?_;intro w0 hw0 hm0;(try simp only [List.append_eq,List.cons_append,List.nil_append]))|(refine auP ?_)|((refine auR ?_);clear hK K)|(refine auR ?_)|((with_reducible refine hK _ _ ?_);clear hK K)|fail)
 first|refine end_ret (ResP.tmp rfl ResP.nil) ?_|refine end_normal (ResP.tmp rfl ResP.nil) ?_
 first|rfl|(show _=_;rfl)|(simp only [tupV, *];done)
end Go.Proofs.YtkendlnjaopbeaaGreatDoor
namespace Go.Proofs.YtkendlnjaopbeaaGreatDoor
open Go.RowKit
set_option linter.unusedVariables false
set_option linter.unusedSimpArgs false
set_option maxRecDepth 100000
theorem b4_bys (f:Nat→Nat):b4 f=bys [f 0,f 1,f 2,f 3]:=by simp [b4,bys,bl]
def colL (B:Nat→Nat)(l:List Nat):List Nat:=(List.range 4).map fun j=>colf B (fun k=>l.getD k 0) j
theorem colL_len (B:Nat→Nat)(l:List Nat):(colL B l).length=4:=by simp [colL]
theorem four_getD (x0 x1 x2 x3:Nat)(h0:x0<256)(h1:x1<256)(h2:x2<256)(h3:x3<256)(j:Nat):[x0,x1,x2,x3].getD j 0<256:=by
 match j with
 | 0=>exact h0
 | 1=>exact h1
 | 2=>exact h2
 | 3=>exact h3
 | n+4=>simp
theorem mix_l (x0 x1 x2 x3:Nat)(h0:x0<256)(h1:x1<256)(h2:x2<256)(h3:x3<256)(w:World):Calls Tryz.prog 120 [.agg (bys [x0,x1,x2,x3])].toArray w (Ret (.agg (bys (colL mixB [x0,x1,x2,x3]))) w):=by
 have:=mix_gf (fun k=>[x0,x1,x2,x3].getD k 0) (four_getD x0 x1 x2 x3 h0 h1 h2 h3) w
 rw [b4_bys,b4_bys] at this
 exact this
theorem unmix_l (x0 x1 x2 x3:Nat)(h0:x0<256)(h1:x1<256)(h2:x2<256)(h3:x3<256)(w:World):Calls Tryz.prog 129 [.agg (bys [x0,x1,x2,x3])].toArray w (Ret (.agg (bys (colL unB [x0,x1,x2,x3]))) w):=by
 have:=unmix_gf (fun k=>[x0,x1,x2,x3].getD k 0) (four_getD x0 x1 x2 x3 h0 h1 h2 h3) w
 rw [b4_bys,b4_bys] at this
 exact this
def mixP (B:Nat→Nat)(b:List Nat)(c:Nat):List Nat:=(mixL B b).take c++b.drop c
theorem mixL_len (B:Nat→Nat)(b:List Nat):(mixL B b).length=16:=by simp [mixL]
theorem mixP_len {B:Nat→Nat}{b:List Nat}(hb:b.length=16){c:Nat}(hc:c≤16):(mixP B b c).length=16:=by
 rw [mixP,List.length_append,List.length_take,mixL_len,List.length_drop,hb];omega
theorem mixP_get {B:Nat→Nat}{b:List Nat}{c i:Nat}(hc:c≤16)(hi:c≤i):(mixP B b c).getD i 0=b.getD i 0:=by
 rw [mixP,List.getD_eq_getElem?_getD,List.getElem?_append_right (by rw [List.length_take,mixL_len];omega),List.length_take,mixL_len,Nat.min_eq_left hc,List.getElem?_drop,List.getD_eq_getElem?_getD]
 congr 2;omega
theorem mixP_step {B:Nat→Nat}{b:List Nat}(hb:b.length=16){q:Nat}(hq:q<4) :
  (mixP B b (4 * q)).take (4 * q)++((colL B [b.getD (4 * q) 0,b.getD (4 * q+1) 0,b.getD (4 * q+2) 0,b.getD (4 * q+3) 0]).take 4++(mixP B b (4 * q)).drop (4 * q+4))=mixP B b (4 * (q+1)):=by
 have e0:(mixP B b (4 * q)).take (4 * q)=(mixL B b).take (4 * q):=by
  rw [mixP,List.take_append_of_le_length (by rw [List.length_take,mixL_len];omega),List.take_take,Nat.min_self]
 have e1:(mixP B b (4 * q)).drop (4 * q+4)=b.drop (4 * (q+1)):=by
  rw [mixP,List.drop_append,List.drop_of_length_le (by rw [List.length_take,mixL_len];omega),List.nil_append,List.length_take,mixL_len,Nat.min_eq_left (by omega),List.drop_drop]
  congr 1;omega
 have e2:(mixL B b).take (4 * (q+1))=(mixL B b).take (4 * q)++colL B [b.getD (4 * q) 0,b.getD (4 * q+1) 0,b.getD (4 * q+2) 0,b.getD (4 * q+3) 0]:=by
  refine List.ext_getElem (by rw [List.length_append,List.length_take,List.length_take,mixL_len,colL_len];omega) fun i h1 h2=>?_
  rw [List.length_take,mixL_len] at h1
  rw [List.getElem_take]
  by_cases hi:i<4 * q
  ·rw [List.getElem_append_left (by rw [List.length_take,mixL_len];omega),List.getElem_take]
  ·rw [List.getElem_append_right (by rw [List.length_take,mixL_len];omega)]
   simp only [mixL,colL,List.getElem_map,List.getElem_range,List.length_take,List.length_map,List.length_range]
   rw [Nat.min_eq_left (by omega),show i % 4=i - 4 * q by omega]
   refine colf_congr (fun j hj=>?_) _
   rw [show i / 4 * 4=4 * q by omega]
   match j,hj with
   | 0,_=>rfl
   | 1,_=>rfl
   | 2,_=>rfl
   | 3,_=>rfl
 rw [e0,e1]
 have hC:=colL_len B [b.getD (4 * q) 0,b.getD (4 * q+1) 0,b.getD (4 * q+2) 0,b.getD (4 * q+3) 0]
 generalize colL B [b.getD (4 * q) 0,b.getD (4 * q+1) 0,b.getD (4 * q+2) 0,b.getD (4 * q+3) 0]=C at *
 rw [List.take_of_length_le (l:=C) (by omega),←List.append_assoc,←e2]
 rfl
instance zc4:ZC Tryz.prog 74 (bys (List.replicate 4 0)):=⟨by kernel_rfl⟩
set_option maxHeartbeats 2000000 in
theorem each_c (w':World){B:Nat→Nat}{F:Nat}{b:List Nat}(hb:B16 b)(hB:∀ j,B j<256)
  (hF:∀ x0 x1 x2 x3,x0<256→x1<256→x2<256→x3<256→∀ w,Calls Tryz.prog F [.agg (bys [x0,x1,x2,x3])].toArray w (Ret (.agg (bys (colL B [x0,x1,x2,x3]))) w)) (hk:callOk Tryz.prog F=true) :
  Calls Tryz.prog 119 [.agg (bys b),.func (.func F) #[] #[]].toArray w' (Ret (.agg (bys (mixL B b))) w'):=by
 have hbl:=hb.len
 haveI:NBy b 16:=⟨hbl⟩
 have hp0:mixP B b 0=b:=by simp [mixP]
 refine fn_ret (N:=_) Tryz.func119 rfl Tryz.ntmps119 Tryz.results119 (by simp) ?_
 simp only [initS,Nat.reduceAdd,Nat.zero_add]
 repeat' (first|(refine wlS ?_)|(refine wlB ?_)|(refine efZCnn ?_;intro n hn)|(refine efBnn ?_;intro n hn)|(refine efB ?_)|(refine efBS ?_)|(refine wl_skip rfl rfl ?_)|(refine wdS ?_)|(refine wdV ?_)|(refine wdB ?_)|(refine wdE ?_)|(refine wd_allocC hm0 rfl rfl rfl ?_;intro n hn hn0)|(refine wd_alloc hm0 rfl rfl rfl ?_;intro n hn hn0)|(refine wdT ?_)|(refine wdTO ?_)|(refine wd_skip rfl rfl ?_)|((with_reducible refine seld_nil ?_);refine wd_nil hm0 ?_;clear hm0 hw0)|((with_reducible refine wc_seq ?_);intro K hK)|(refine auC ?_)|(refine wc_cond rfl (fun hc=>?_) (fun hc=>?_))|(refine wc_draw (by kernel_rfl) (by kernel_rfl) (by decide +kernel) ?_;intro w0 hw0 hm0;(try simp only [List.append_eq,List.cons_append,List.nil_append]))|(refine auP ?_)|((refine auR ?_);clear hK K)|(refine auR ?_)|((with_reducible refine hK _ _ ?_);clear hK K)|fail)
 rename_i n2 hn2
 refine wc_loop (σ:=Nat) (fun q=>[(1,.func (.func F) #[] #[]),(2,ptr n2),(4,ptr n),(5,.int .i64 ((4 * q:Nat):Int))])
  (fun q=>[(n,(bys (List.replicate 16 0),23)),(n2,(bys (mixP B b (4 * q)),23))])
  (fun q=>q≤4) (fun q=>4 - q) 0 (Nat.zero_le _) (Fits.of ⟨rfl,rfl,rfl,rfl,trivial⟩ (by rw [Nat.mul_zero,hp0];exact SubL.refl _) rfl) ?_
 intro q hq
 haveI:NBy (mixP B b (4 * q)) 16:=⟨mixP_len hbl (by omega)⟩
 by_cases hlt:q<4
 ·have t1:decide (((4 * q:Nat):Int)<16)=true:=decide_eq_true (by omega)
  have k4:IntKind.i64.wrap (((4 * q:Nat):Int)+4)=((4 * (q+1):Nat):Int):=by rw [wrap_i64 _ (by omega) (by omega)];omega
  have k1:IntKind.i64.wrap (((4 * q:Nat):Int)+1)=((4 * q+1:Nat):Int):=by rw [wrap_i64 _ (by omega) (by omega)];omega
  have k2:IntKind.i64.wrap (((4 * q:Nat):Int)+2)=((4 * q+2:Nat):Int):=by rw [wrap_i64 _ (by omega) (by omega)];omega
  have k3:IntKind.i64.wrap (((4 * q:Nat):Int)+3)=((4 * q+3:Nat):Int):=by rw [wrap_i64 _ (by omega) (by omega)];omega
  have gv:∀ j,4 * q≤j→j<16→(bys (mixP B b (4 * q)))[j]? = some (.int .u8 ((b.getD j 0:Nat):Int)):=fun j h1 h2=>by
   have:=bys_get (l:=mixP B b (4 * q)) (i:=j) (by rw [mixP_len hbl (by omega)];exact h2)
   rwa [mixP_get (by omega) h1] at this
  have g0:=gv (4 * q) (by omega) (by omega)
  have g1:=gv (4 * q+1) (by omega) (by omega)
  have g2:=gv (4 * q+2) (by omega) (by omega)
  have g3:=gv (4 * q+3) (by omega) (by omega)
  have j0:((4 * q:Nat):Int)<((16:Nat):Int):=by omega
  have j1:((4 * q+1:Nat):Int)<((16:Nat):Int):=by omega
  have j2:((4 * q+2:Nat):Int)<((16:Nat):Int):=by omega
  have j3:((4 * q+3:Nat):Int)<((16:Nat):Int):=by omega
  have C:=hF _ _ _ _ (hb.lt (4 * q)) (hb.lt (4 * q+1)) (hb.lt (4 * q+2)) (hb.lt (4 * q+3))
  have st:=mixP_step (B:=B) hbl hlt
  have hby:∀ x∈colL B [b.getD (4 * q) 0,b.getD (4 * q+1) 0,b.getD (4 * q+2) 0,b.getD (4 * q+3) 0],x<256:=fun x hx=>by
   obtain ⟨j,_,rfl⟩:=List.mem_map.1 hx
   exact colf_lt hB _ _
  have hcl:=colL_len B [b.getD (4 * q) 0,b.getD (4 * q+1) 0,b.getD (4 * q+2) 0,b.getD (4 * q+3) 0]
  have E:Value.agg [.int .u8 (b.getD (4 * q) 0:Int),.int .u8 (b.getD (4 * q+1) 0:Int),.int .u8 (b.getD (4 * q+2) 0:Int),.int .u8 (b.getD (4 * q+3) 0:Int)].toArray=.agg (bys [b.getD (4 * q) 0,b.getD (4 * q+1) 0,b.getD (4 * q+2) 0,b.getD (4 * q+3) 0]):=rfl
  generalize colL B [b.getD (4 * q) 0,b.getD (4 * q+1) 0,b.getD (4 * q+2) 0,b.getD (4 * q+3) 0]=D at *
  haveI:NBy D 4:=⟨hcl⟩
  haveI:BLc 4 D:=⟨⟨hcl,hby⟩,by decide⟩
  have hmn:Nat.min 4 (16 - 4 * q)=4:=Nat.min_eq_left (by omega)
  have hft:4 * q+4≤(mixP B b (4 * q)).length:=by rw [mixP_len hbl (by omega)];omega
  clear hF gv
  repeat' (first|(refine wlS ?_)|(refine wlB ?_)|((with_reducible refine sel_build ?_);refine wv rfl rfl (rd_cast (rd_buildA rfl rfl) E) ?_)|((with_reducible refine sel_call ?_);refine wl_rd rfl rfl (rd_callv rfl rfl rfl rfl (fun w _=>by with_reducible exact C w) (hk:=by with_reducible assumption)) ?_)|(refine wlE ?_)|(refine efSvvp ?_;intro v hv hp)|(refine efSvao ?_;intro v oa ho)|(refine efM ?_)|(refine efMvao ?_;intro v oa ho)|((with_reducible refine sel_store ?_);first|(refine wl_putB (e:=5) rfl rfl rfl rfl rfl ?_;intro oa ho))|(refine efZCnn ?_;intro n hn)|(refine efBnn ?_;intro n hn)|(refine efB ?_)|(refine efBS ?_)|(refine wl_skip rfl rfl ?_)|((with_reducible refine wc_seq ?_);intro K hK)|(refine auC ?_)|(refine wc_cond rfl (fun hc=>?_) (fun hc=>?_))|((with_reducible refine wc_drawC (by kernel_rfl) ?_);(try simp only [List.append_eq,List.cons_append,List.nil_append,List.length_cons,List.length_nil,Nat.reduceAdd]))|((with_reducible refine sel_wh ?_);(refine wh_if (by decide +kernel) ?_);first|(refine wh_take (lq:=[]) rfl rfl rfl rfl (by first|exact rvS|exact rvB|((with_reducible apply selr_build);exact rd_cast (rd_buildA rfl rfl) E)|exact rvE) (Or.inl rfl) ?_)|(refine wh_takeL rfl rfl rfl rfl (by first|exact rvS|exact rvB|((with_reducible apply selr_build);exact rd_cast (rd_buildA rfl rfl) E)|exact rvE) (by decide +kernel) ?_))|(refine whS ?_;intro v hv hp)|((with_reducible refine sel_wh ?_);first|(refine wh_pass rfl rfl rfl rfl ?_)|(refine wh_done rfl ?_)|(refine wh_all rfl ?_))|((with_reducible refine sel_rest ?_);first|exact rest_nil rfl|refine rest_cons rfl rfl ?_ ?_)|((with_reducible refine sel_nx ?_);first|refine next_of ?_|refine next_late (by decide +kernel) ?_)|(refine auP ?_)|((refine auR ?_);clear hK K)|(refine auR ?_)|((with_reducible refine hK _ _ ?_);clear hK K)|fail)
  all_goals exact ⟨q+1,hlt,by omega,Fits.of ⟨rfl,rfl,rfl,rfl,trivial⟩ (.skip (SubL.refl _)) rfl⟩
 ·obtain rfl:q=4:=by omega
  have t1:decide (((4 * 4:Nat):Int)<16)=false:=by decide
  have hp:mixP B b (4 * 4)=mixL B b:=by rw [mixP,List.take_of_length_le (by rw [mixL_len];exact Nat.le_refl _),List.drop_of_length_le (by omega),List.append_nil]
  rw [hp]
  haveI:NBy (mixL B b) 16:=⟨mixL_len B b⟩
  repeat' (first|(refine wlS ?_)|(refine wlB ?_)|(refine efZCnn ?_;intro n hn)|(refine efBnn ?_;intro n hn)|(refine efB ?_)|(refine efBS ?_)|(refine wl_skip rfl rfl ?_)|(refine wdS ?_)|(refine wdV ?_)|(refine wdB ?_)|(refine wdE ?_)|(refine wd_allocC hm0 rfl rfl rfl ?_;intro n hn hn0)|(refine wd_alloc hm0 rfl rfl rfl ?_;intro n hn hn0)|(refine wdT ?_)|(refine wdTO ?_)|(refine wd_skip rfl rfl ?_)|((with_reducible refine seld_nil ?_);refine wd_nil hm0 ?_;clear hm0 hw0)|((with_reducible refine wc_seq ?_);intro K hK)|(refine auC ?_)|(refine wc_cond rfl (fun hc=>?_) (fun hc=>?_))|(refine wc_draw (by kernel_rfl) (by kernel_rfl) (by decide +kernel) ?_;intro w0 hw0 hm0;(try simp only [List.append_eq,List.cons_append,List.nil_append]))|(refine auP ?_)|((refine auR ?_);clear hK K)|(refine auR ?_)|((with_reducible refine hK _ _ ?_);clear hK K)|fail)
  first|refine end_ret (ResP.cell rfl ld_whole ResP.nil) ?_|refine end_normal (ResP.cell rfl ld_whole ResP.nil) ?_
  first|rfl|(show _=_;rfl)|(simp only [tupV, *];done)
end Go.Proofs.YtkendlnjaopbeaaGreatDoor
namespace Go.Proofs.YtkendlnjaopbeaaGreatDoor
open Go.RowKit
attribute [local irreducible] rwA bys
set_option linter.unusedVariables false
set_option linter.unusedSimpArgs false
set_option maxRecDepth 100000
def subP (b:List Nat)(i:Nat):List Nat:=(subL b).take i++List.replicate (16 - i) 0
theorem subL_len (b:List Nat):(subL b).length=16:=by simp [subL]
theorem subP_len (b:List Nat){i:Nat}(hi:i≤16):(subP b i).length=16:=by
 rw [subP,List.length_append,List.length_take,subL_len,List.length_replicate];omega
theorem subP_step (b:List Nat){i:Nat}(hi:i<16):(subP b i).set i (gsub (b.getD ((i+i % 4 * 4) % 16) 0))=subP b (i+1):=by
 have e2:(subL b).take (i+1)=(subL b).take i++[gsub (b.getD ((i+i % 4 * 4) % 16) 0)]:=by
  have hg:(subL b)[i]? = some (gsub (b.getD ((i+i % 4 * 4) % 16) 0)):=by simp [subL,hi]
  rw [List.take_add_one,hg];rfl
 rw [subP,List.set_append_right _ _ (by rw [List.length_take,subL_len];omega),List.length_take,subL_len,Nat.min_eq_left (by omega),Nat.sub_self,show 16 - i=16 - (i+1)+1 by omega,List.replicate_succ,List.set_cons_zero,subP,e2,List.append_assoc]
 rfl
theorem subP_all (b:List Nat):subP b 16=subL b:=by
 rw [subP,List.take_of_length_le (by rw [subL_len];exact Nat.le_refl _)];simp
set_option maxHeartbeats 4000000 in
theorem enc_c (w':World){R:Nat}{W b:List Nat}[hk:AKey W](hR:R≤14)(hb:B16 b) :
  Calls Tryz.prog 116 [kv W R,.agg (bys b)].toArray w' (Ret (.agg (bys (encL W R b))) w'):=by
 have hbl:=hb.len
 have hW:=hk.ok
 haveI:NBy b 16:=⟨hbl⟩
 haveI:SgOk (sgA W R):=inferInstance
 have BY0:∀ {g:Nat} w'',w''.heap[g]? = some (.cells (rwA (sgA W R)) 77)→Calls Tryz.prog 118 [ptr g,.agg (bys b),.int .i64 0].toArray w'' (Ret (.agg (bys (addK W 0 b))) w''):=fun w'' h=>by_c (r:=0) w'' hk (by omega) hb h
 haveI:NBy (addK W 0 b) 16:=⟨addK_len _ _ _⟩
 refine fn_ret (N:=_) Tryz.func116 rfl Tryz.ntmps116 Tryz.results116 (by simp) ?_
 simp only [initS,Nat.reduceAdd,Nat.zero_add]
 repeat' (first|(refine wlS ?_)|(refine wlG ?_)|(refine wlB ?_)|((with_reducible refine sel_call ?_);refine wl_rd rfl rfl (rd_call rfl rfl rfl (fun w hm=>by with_reducible exact BY0 w (Has.sees hm))) ?_)|(refine wlE ?_)|(refine efSvao ?_;intro v oa ho)|(refine efG ?_)|(refine efGnn ?_;intro n hn)|(refine efZCnn ?_;intro n hn)|(refine efBnn ?_;intro n hn)|(refine efB ?_)|(refine efBS ?_)|(refine wl_skip rfl rfl ?_)|((with_reducible refine wc_seq ?_);intro K hK)|(refine auC ?_)|(refine wc_cond rfl (fun hc=>?_) (fun hc=>?_))|(refine wc_draw (by kernel_rfl) (by kernel_rfl) (by decide +kernel) ?_;intro w0 hw0 hm0;(try simp only [List.append_eq,List.cons_append,List.nil_append]))|(refine auP ?_)|((refine auR ?_);clear hK K)|(refine auR ?_)|((with_reducible refine hK _ _ ?_);clear hK K)|fail)
 rename_i n2 hn2 n3 hn3
 obtain ⟨n4,rfl⟩:∃ n4,n4=n:=⟨n,rfl⟩
 refine wc_loop (σ:=Nat) (fun m=>[(2,ptr n2),(3,ptr n3),(4,ptr n4),(5,.int .i64 ((m+1:Nat):Int))])
  (fun m=>[(n4,(bys (List.replicate 16 0),23)),(n3,(bys (encN W R b m),23)),(n2,(rwA (sgA W R),77))])
  (fun m=>m≤R) (fun m=>R - m) 0 (Nat.zero_le _) (Fits.of ⟨rfl,rfl,rfl,rfl,trivial⟩ (SubL.refl _) rfl) ?_
 clear BY0
 intro m hmR
 have hS:=encN_ok hW hb m (R:=R)
 haveI:NBy (encN W R b m) 16:=⟨hS.len⟩
 by_cases hlt:m<R
 ·have t1:decide (((m+1:Nat):Int)≤(R:Int))=true:=decide_eq_true (by omega)
  have k1:IntKind.i64.wrap (((m+1:Nat):Int)+1)=((m+1+1:Nat):Int):=by rw [wrap_i64 _ (by omega) (by omega)];omega
  have hnx:encN W R b (m+1)=addK W (m+1) (if m+1<R then mixL mixB (subL (encN W R b m)) else subL (encN W R b m)):=rfl
  repeat' (first|(refine wlS ?_)|(refine wlG ?_)|(refine wlB ?_)|(refine wlE ?_)|(refine efSvao ?_;intro v oa ho)|(refine efG ?_)|(refine efGnn ?_;intro n hn)|(refine efZCnn ?_;intro n hn)|(refine efBnn ?_;intro n hn)|(refine efB ?_)|(refine efBS ?_)|(refine wl_skip rfl rfl ?_)|((with_reducible refine wc_seq ?_);intro K hK)|(refine auC ?_)|(refine wc_cond rfl (fun hc=>?_) (fun hc=>?_))|(refine wc_draw (by kernel_rfl) (by kernel_rfl) (by decide +kernel) ?_;intro w0 hw0 hm0;(try simp only [List.append_eq,List.cons_append,List.nil_append]))|(refine auP ?_)|((refine auR ?_);clear hK K)|(refine auR ?_)|((with_reducible refine hK _ _ ?_);clear hK K)|fail)
  obtain ⟨n6,rfl⟩:∃ n6,n6=n:=⟨n,rfl⟩
  generalize encN W R b m=S at *
  have hs0:subP S 0=List.replicate 16 0:=by simp [subP]
  refine wc_loop (σ:=Nat) (fun i=>[(2,ptr n2),(3,ptr n3),(4,ptr n4),(5,.int .i64 ((m+1:Nat):Int)),(6,ptr n6),(16,.int .i64 (i:Int))])
   (fun i=>[(n6,(bys (subP S i),23)),(n4,(bys (List.replicate 16 0),23)),(n3,(bys S,23)),(n2,(rwA (sgA W R),77))])
   (fun i=>i≤16) (fun i=>16 - i) 0 (Nat.zero_le _) (Fits.of ⟨rfl,rfl,rfl,rfl,rfl,rfl,trivial⟩ (by rw [hs0];exact SubL.refl _) rfl) ?_
  intro i hi
  haveI:NBy (subP S i) 16:=⟨subP_len S hi⟩
  by_cases hit:i<16
  ·have t2:decide ((i:Int)<16)=true:=decide_eq_true (by omega)
   have k2:IntKind.i64.wrap ((i:Int)+1)=((i+1:Nat):Int):=by rw [wrap_i64 _ (by omega) (by omega)];omega
   have k3:(i:Int).tmod 4=((i % 4:Nat):Int):=by rw [Int.tmod_eq_emod_of_nonneg (by omega)];omega
   have k4:IntKind.i64.wrap (((i % 4:Nat):Int) * 4)=((i % 4 * 4:Nat):Int):=by rw [wrap_i64 _ (by omega) (by omega)];omega
   have k5:IntKind.i64.wrap ((i:Int)+((i % 4 * 4:Nat):Int))=((i+i % 4 * 4:Nat):Int):=by rw [wrap_i64 _ (by omega) (by omega)];omega
   have k6:((i+i % 4 * 4:Nat):Int).tmod 16=(((i+i % 4 * 4) % 16:Nat):Int):=by rw [Int.tmod_eq_emod_of_nonneg (by omega)];omega
   have j1:(((i+i % 4 * 4) % 16:Nat):Int)<((16:Nat):Int):=by omega
   have j2:(i:Int)<((16:Nat):Int):=by omega
   have gv:=bys_get (l:=S) (i:=(i+i % 4 * 4) % 16) (by rw [hS.len];omega)
   have SU:=sub_gf (S.getD ((i+i % 4 * 4) % 16) 0) (hS.lt _)
   have st:=subP_step S hit
   repeat' (first|(refine wlS ?_)|(refine wlG ?_)|(refine wlB ?_)|((with_reducible refine sel_call ?_);refine wl_rd rfl rfl (rd_call rfl rfl rfl (fun w hm=>by with_reducible exact SU w)) ?_)|(refine wlE ?_)|(refine efSvao ?_;intro v oa ho)|(refine efG ?_)|(refine efGnn ?_;intro n hn)|(refine efBnn ?_;intro n hn)|(refine efB ?_)|(refine efBS ?_)|(refine wl_skip rfl rfl ?_)|((with_reducible refine wc_seq ?_);intro K hK)|(refine auC ?_)|(refine wc_cond rfl (fun hc=>?_) (fun hc=>?_))|(refine wc_draw (by kernel_rfl) (by kernel_rfl) (by decide +kernel) ?_;intro w0 hw0 hm0;(try simp only [List.append_eq,List.cons_append,List.nil_append]))|(refine auP ?_)|((refine auR ?_);clear hK K)|(refine auR ?_)|((with_reducible refine hK _ _ ?_);clear hK K)|fail)
   exact ⟨i+1,hit,by omega,Fits.of ⟨rfl,rfl,rfl,rfl,rfl,rfl,trivial⟩ (by rw [←st];exact SubL.refl _) rfl⟩
  ·obtain rfl:i=16:=by omega
   have t2:decide (((16:Nat):Int)<16)=false:=by decide
   rw [subP_all]
   have hT:=subL_ok hS
   haveI:NBy (subL S) 16:=⟨hT.len⟩
   by_cases hr:m+1<R
   ·have t3:decide (((m+1:Nat):Int)<(R:Int))=true:=decide_eq_true (by omega)
    rw [if_pos hr] at hnx
    have EC:=fun w=>each_c w (F:=120) hT mixB_lt (fun x0 x1 x2 x3=>mix_l x0 x1 x2 x3) (by kernel_rfl)
    have BY:∀ w'',w''.heap[n2]? = some (.cells (rwA (sgA W R)) 77)→Calls Tryz.prog 118 [ptr n2,.agg (bys (mixL mixB (subL S))),.int .i64 ((m+1:Nat):Int)].toArray w'' (Ret (.agg (bys (addK W (m+1) (mixL mixB (subL S))))) w''):=fun w'' h=>by_c (r:=m+1) w'' hk (by omega) (mixL_ok mixB_lt) h
    haveI:NBy (mixL mixB (subL S)) 16:=⟨mixL_len _ _⟩
    haveI:NBy (addK W (m+1) (mixL mixB (subL S))) 16:=⟨addK_len _ _ _⟩
    repeat' (first|(refine wlS ?_)|(refine wlG ?_)|(refine wlB ?_)|((with_reducible refine sel_call ?_);refine wl_rd rfl rfl (rd_call rfl rfl rfl (fun w hm=>by with_reducible first|exact EC w|exact BY w (Has.sees hm))) ?_)|(refine wlE ?_)|(refine efSvao ?_;intro v oa ho)|(refine efG ?_)|(refine efGnn ?_;intro n hn)|(refine efZCnn ?_;intro n hn)|(refine efBnn ?_;intro n hn)|(refine efB ?_)|(refine efBS ?_)|(refine wl_skip rfl rfl ?_)|((with_reducible refine wc_seq ?_);intro K hK)|(refine auC ?_)|(refine wc_cond rfl (fun hc=>?_) (fun hc=>?_))|(refine wc_draw (by kernel_rfl) (by kernel_rfl) (by decide +kernel) ?_;intro w0 hw0 hm0;(try simp only [List.append_eq,List.cons_append,List.nil_append]))|(refine auP ?_)|((refine auR ?_);clear hK K)|(refine auR ?_)|((with_reducible refine hK _ _ ?_);clear hK K)|fail)
    exact ⟨m+1,hlt,by omega,Fits.of ⟨rfl,rfl,rfl,rfl,trivial⟩ (by rw [hnx];exact .skip (SubL.refl _)) rfl⟩
   ·have t3:decide (((m+1:Nat):Int)<(R:Int))=false:=decide_eq_false (by omega)
    rw [if_neg hr] at hnx
    have BY:∀ w'',w''.heap[n2]? = some (.cells (rwA (sgA W R)) 77)→Calls Tryz.prog 118 [ptr n2,.agg (bys (subL S)),.int .i64 ((m+1:Nat):Int)].toArray w'' (Ret (.agg (bys (addK W (m+1) (subL S)))) w''):=fun w'' h=>by_c (r:=m+1) w'' hk (by omega) hT h
    haveI:NBy (addK W (m+1) (subL S)) 16:=⟨addK_len _ _ _⟩
    repeat' (first|(refine wlS ?_)|(refine wlG ?_)|(refine wlB ?_)|((with_reducible refine sel_call ?_);refine wl_rd rfl rfl (rd_call rfl rfl rfl (fun w hm=>by with_reducible exact BY w (Has.sees hm))) ?_)|(refine wlE ?_)|(refine efSvao ?_;intro v oa ho)|(refine efG ?_)|(refine efGnn ?_;intro n hn)|(refine efZCnn ?_;intro n hn)|(refine efBnn ?_;intro n hn)|(refine efB ?_)|(refine efBS ?_)|(refine wl_skip rfl rfl ?_)|((with_reducible refine wc_seq ?_);intro K hK)|(refine auC ?_)|(refine wc_cond rfl (fun hc=>?_) (fun hc=>?_))|(refine wc_draw (by kernel_rfl) (by kernel_rfl) (by decide +kernel) ?_;intro w0 hw0 hm0;(try simp only [List.append_eq,List.cons_append,List.nil_append]))|(refine auP ?_)|((refine auR ?_);clear hK K)|(refine auR ?_)|((with_reducible refine hK _ _ ?_);clear hK K)|fail)
    exact ⟨m+1,hlt,by omega,Fits.of ⟨rfl,rfl,rfl,rfl,trivial⟩ (by rw [hnx];exact .skip (SubL.refl _)) rfl⟩
 ·obtain rfl:m=R:=by omega
  have t1:decide (((m+1:Nat):Int)≤(m:Int))=false:=decide_eq_false (by omega)
  have he:encL W m b=encN W m b m:=rfl
  rw [he]
  repeat' (first|(refine wlS ?_)|(refine wlG ?_)|(refine wlB ?_)|(refine wlE ?_)|(refine efSvao ?_;intro v oa ho)|(refine efG ?_)|(refine efGnn ?_;intro n hn)|(refine efZCnn ?_;intro n hn)|(refine efBnn ?_;intro n hn)|(refine efB ?_)|(refine efBS ?_)|(refine wl_skip rfl rfl ?_)|((with_reducible refine wc_seq ?_);intro K hK)|(refine auC ?_)|(refine wc_cond rfl (fun hc=>?_) (fun hc=>?_))|(refine wc_draw (by kernel_rfl) (by kernel_rfl) (by decide +kernel) ?_;intro w0 hw0 hm0;(try simp only [List.append_eq,List.cons_append,List.nil_append]))|(refine auP ?_)|((refine auR ?_);clear hK K)|(refine auR ?_)|((with_reducible refine hK _ _ ?_);clear hK K)|fail)
  first|refine end_ret (ResP.cell rfl ld_whole ResP.nil) ?_|refine end_normal (ResP.cell rfl ld_whole ResP.nil) ?_
  first|rfl|(show _=_;rfl)|(simp only [tupV, *];done)
end Go.Proofs.YtkendlnjaopbeaaGreatDoor
