/- Mix: it comes back,it goes with xor,four times it is nothing;at least five of eight bytes are no nought. Printed by genmds.py. AES in plain terms: states as lists of 16 bytes;decrypting is back from encrypting. The package aes,walked: by. The walks of gf. gf.Sub and gf.Unsub,walked. The package aes,walked: each. The package aes,walked: Encrypt. The package aes,walked: Decrypt. The package aes,walked: subbed. The schedule of keys,in plain Lean. Structs that are built of their fields,as rows of segments. Bytes of a segment of bytes,read as a row. -/
import Derived.Test.YtkendlnjaopbeaaGreatDoorJnAD
import Derived.Test.YtkendlnjaopbeaaGreatDoorJnAC
namespace Go.Proofs.YtkendlnjaopbeaaGreatDoor
set_option linter.unusedSimpArgs false
set_option linter.unusedVariables false
def col4 (a b c d x y z u:Nat):Nat:=gmul a x ^^^ gmul b y ^^^ gmul c z ^^^ gmul d u
theorem col4_lt {a b c d:Nat}(x y z u:Nat)(ha:a<256)(hb:b<256)(hc:c<256)(hd:d<256):col4 a b c d x y z u<256:=
 xor_lt (xor_lt (xor_lt (gmul_lt x ha) (gmul_lt y hb)) (gmul_lt z hc)) (gmul_lt u hd)
theorem gmul_col4 {m a b c d x y z u:Nat}(hm:m<256)(ha:a<256)(hb:b<256)(hc:c<256)(hd:d<256)(hx:x<256)(hy:y<256)(hz:z<256)(hu:u<256) :
  gmul m (col4 a b c d x y z u)=col4 (gmul m a) (gmul m b) (gmul m c) (gmul m d) x y z u:=by
 unfold col4
 rw [gmul_xor_right,gmul_xor_right,gmul_xor_right,gmul_assoc hm ha hx,gmul_assoc hm hb hy,gmul_assoc hm hc hz,gmul_assoc hm hd hu]
theorem col4_add {a b c d a' b' c' d':Nat}(x y z u:Nat)(ha:a<256)(hb:b<256)(hc:c<256)(hd:d<256)(ha':a'<256)(hb':b'<256)(hc':c'<256)(hd':d'<256) :
  col4 a b c d x y z u ^^^ col4 a' b' c' d' x y z u=col4 (a ^^^ a') (b ^^^ b') (c ^^^ c') (d ^^^ d') x y z u:=by
 unfold col4
 rw [gmul_xor_left x ha ha',gmul_xor_left y hb hb',gmul_xor_left z hc hc',gmul_xor_left u hd hd']
 ac_rfl
theorem col4_rot (a b c d x y z u:Nat):col4 a b c d x y z u=col4 d a b c u x y z:=by unfold col4;ac_rfl
theorem comp {p q r s a b c d x y z u:Nat}(hp:p<256)(hq:q<256)(hr:r<256)(hs:s<256)(ha:a<256)(hb:b<256)(hc:c<256)(hd:d<256)(hx:x<256)(hy:y<256)(hz:z<256)(hu:u<256) :
  col4 p q r s (col4 a b c d x y z u) (col4 a b c d y z u x) (col4 a b c d z u x y) (col4 a b c d u x y z) =
   col4 (gmul p a ^^^ gmul q d ^^^ gmul r c ^^^ gmul s b) (gmul p b ^^^ gmul q a ^^^ gmul r d ^^^ gmul s c) (gmul p c ^^^ gmul q b ^^^ gmul r a ^^^ gmul s d) (gmul p d ^^^ gmul q c ^^^ gmul r b ^^^ gmul s a) x y z u:=by
 have e:col4 p q r s (col4 a b c d x y z u) (col4 a b c d y z u x) (col4 a b c d z u x y) (col4 a b c d u x y z)=gmul p (col4 a b c d x y z u) ^^^ gmul q (col4 a b c d y z u x) ^^^ gmul r (col4 a b c d z u x y) ^^^ gmul s (col4 a b c d u x y z):=rfl
 have P:∀ {m t:Nat},m<256→gmul m t<256:=fun h=>gmul_lt _ h
 rw [e,gmul_col4 hp ha hb hc hd hx hy hz hu,gmul_col4 hq ha hb hc hd hy hz hu hx,gmul_col4 hr ha hb hc hd hz hu hx hy,gmul_col4 hs ha hb hc hd hu hx hy hz,
  col4_rot _ _ _ _ y z u x,col4_rot _ _ _ _ z u x y,col4_rot _ _ _ _ y z u x,col4_rot _ _ _ _ u x y z,col4_rot _ _ _ _ z u x y,col4_rot _ _ _ _ y z u x,
  col4_add _ _ _ _ (P hp) (P hp) (P hp) (P hp) (P hq) (P hq) (P hq) (P hq),
  col4_add _ _ _ _ (xor_lt (P hp) (P hq)) (xor_lt (P hp) (P hq)) (xor_lt (P hp) (P hq)) (xor_lt (P hp) (P hq)) (P hr) (P hr) (P hr) (P hr),
  col4_add _ _ _ _ (xor_lt (xor_lt (P hp) (P hq)) (P hr)) (xor_lt (xor_lt (P hp) (P hq)) (P hr)) (xor_lt (xor_lt (P hp) (P hq)) (P hr)) (xor_lt (xor_lt (P hp) (P hq)) (P hr)) (P hs) (P hs) (P hs) (P hs)]
theorem colf_eq (b c:Nat→Nat)(i:Nat):colf b c i=col4 (b 0) (b 1) (b 2) (b 3) (c (i % 4)) (c ((i+1) % 4)) (c ((i+2) % 4)) (c ((i+3) % 4)):=by
 unfold colf col4
 simp only [partC,Nat.zero_xor,Nat.add_zero]
theorem colf_lt {b:Nat→Nat}(hb:∀ j,b j<256)(c:Nat→Nat)(i:Nat):colf b c i<256:=by
 rw [colf_eq];exact col4_lt _ _ _ _ (hb 0) (hb 1) (hb 2) (hb 3)
theorem colf_congr {b c c':Nat→Nat}(h:∀ j,j<4→c j=c' j)(i:Nat):colf b c i=colf b c' i:=by
 rw [colf_eq,colf_eq,h _ (Nat.mod_lt _ (by omega)),h _ (Nat.mod_lt _ (by omega)),h _ (Nat.mod_lt _ (by omega)),h _ (Nat.mod_lt _ (by omega))]
theorem colf_comp {a b c:Nat→Nat}(e:Nat→Nat)(ha:∀ j,a j<256)(hb:∀ j,b j<256)(hc:∀ j,c j<256)
  (e0:gmul (a 0) (b 0) ^^^ gmul (a 1) (b 3) ^^^ gmul (a 2) (b 2) ^^^ gmul (a 3) (b 1)=e 0) (e1:gmul (a 0) (b 1) ^^^ gmul (a 1) (b 0) ^^^ gmul (a 2) (b 3) ^^^ gmul (a 3) (b 2)=e 1)
  (e2:gmul (a 0) (b 2) ^^^ gmul (a 1) (b 1) ^^^ gmul (a 2) (b 0) ^^^ gmul (a 3) (b 3)=e 2) (e3:gmul (a 0) (b 3) ^^^ gmul (a 1) (b 2) ^^^ gmul (a 2) (b 1) ^^^ gmul (a 3) (b 0)=e 3) (i:Nat) (hi:i<4) :
  colf a (colf b c) i=colf e c i:=by
 rcases (by omega:i=0∨i=1∨i=2∨i=3) with rfl|rfl|rfl|rfl
 all_goals
  simp only [colf_eq,Nat.reduceAdd,Nat.reduceMod,Nat.zero_mod,Nat.zero_add]
  rw [comp (ha 0) (ha 1) (ha 2) (ha 3) (hb 0) (hb 1) (hb 2) (hb 3) (hc _) (hc _) (hc _) (hc _),e0,e1,e2,e3]
def oneB (j:Nat):Nat:=match j with|0=>1|_=>0
theorem colf_one {c:Nat→Nat}(hc:∀ j,c j<256)(i:Nat)(hi:i<4):colf oneB c i=c i:=by
 rw [colf_eq,Nat.mod_eq_of_lt hi]
 show gmul 1 (c i) ^^^ gmul 0 _ ^^^ gmul 0 _ ^^^ gmul 0 _=_
 rw [one_gmul (hc i),zero_gmul,zero_gmul,zero_gmul,Nat.xor_zero,Nat.xor_zero,Nat.xor_zero]
theorem un_mix {c:Nat→Nat}(hc:∀ j,c j<256)(i:Nat)(hi:i<4):colf unB (colf mixB c) i=c i:=
 (colf_comp oneB unB_lt mixB_lt hc (by decide +kernel) (by decide +kernel) (by decide +kernel) (by decide +kernel) i hi).trans (colf_one hc i hi)
theorem mix_un {c:Nat→Nat}(hc:∀ j,c j<256)(i:Nat)(hi:i<4):colf mixB (colf unB c) i=c i:=
 (colf_comp oneB mixB_lt unB_lt hc (by decide +kernel) (by decide +kernel) (by decide +kernel) (by decide +kernel) i hi).trans (colf_one hc i hi)
theorem xor_nil {a b:Nat}(h:a ^^^ b=0):a=b:=by
 have:a ^^^ (b ^^^ b)=b:=by rw [←Nat.xor_assoc,h,Nat.zero_xor]
 rwa [Nat.xor_self,Nat.xor_zero] at this
theorem two {a b a' b' p q:Nat}(ha:a<256)(hb:b<256)(ha':a'<256)(hb':b'<256)(hp:p<256)(hq:q<256)(hdet:gmul a b' ^^^ gmul a' b≠0)(h0:b≠0)
  (h1:gmul a p ^^^ gmul b q=0) (h2:gmul a' p ^^^ gmul b' q=0):p=0∧q=0:=by
 have e1:=xor_nil h1
 have e2:=xor_nil h2
 have k1:gmul (gmul a b') p=gmul (gmul b b') q:=by
  rw [gmul_comm ha hb',gmul_assoc hb' ha hp,e1,←gmul_assoc hb' hb hq,gmul_comm hb' hb]
 have k2:gmul (gmul a' b) p=gmul (gmul b b') q:=by
  rw [gmul_comm ha' hb,gmul_assoc hb ha' hp,e2,←gmul_assoc hb hb' hq]
 have k:gmul (gmul a b' ^^^ gmul a' b) p=0:=by rw [gmul_xor_left p (gmul_lt _ ha) (gmul_lt _ ha'),k1,k2,Nat.xor_self]
 rcases gmul_eq_zero (xor_lt (gmul_lt _ ha) (gmul_lt _ ha')) hp k with h|h
 ·exact absurd h hdet
 ·subst h
  rw [gmul_zero] at e1
  rcases gmul_eq_zero hb hq e1.symm with h|h
  ·exact absurd h h0
  ·exact ⟨rfl,h⟩
end Go.Proofs.YtkendlnjaopbeaaGreatDoor
namespace Go.Proofs.YtkendlnjaopbeaaGreatDoor
set_option linter.unusedVariables false
theorem gd16 {f:Nat→Nat}{i:Nat}(h:i<16):((List.range 16).map f).getD i 0=f i:=by
 simp [List.getD,h]
theorem ext16 {a b:List Nat}(ha:a.length=16)(hb:b.length=16)(h:∀ i,i<16→a.getD i 0=b.getD i 0):a=b:=by
 refine List.ext_getElem (by omega) fun i h1 h2=>?_
 have:=h i (by omega)
 simpa [List.getD,h1,h2] using this
structure B16 (b:List Nat):Prop where
 len:b.length=16
 lt:∀ i,b.getD i 0<256
theorem B16.map {f:Nat→Nat}(h:∀ i,i<16→f i<256):B16 ((List.range 16).map f):=⟨by simp,fun i=>by
 by_cases hi:i<16
 ·rw [gd16 hi];exact h i hi
 ·simp [List.getD,hi]⟩
theorem B16.of {b:List Nat}(hl:b.length=16)(h:∀ x∈b,x<256):B16 b:=⟨hl,fun i=>by
 rw [List.getD_eq_getElem?_getD]
 cases hx:b[i]? with
 | none=>simp
 | some x=>exact h x (List.mem_of_getElem? hx)⟩
theorem B16.byl {b:List Nat}(h:B16 b):∀ x∈b,x<256:=fun x hx=>by
 obtain ⟨i,hi,rfl⟩:=List.mem_iff_getElem.1 hx
 have:=h.lt i
 simpa [List.getD,hi] using this
def addK (W:List Nat)(r:Nat)(b:List Nat):List Nat:=(List.range 16).map fun i=>b.getD i 0 ^^^ W.getD (16 * r+i) 0
def subL (b:List Nat):List Nat:=(List.range 16).map fun i=>gsub (b.getD ((i+i % 4 * 4) % 16) 0)
def unsubL (b:List Nat):List Nat:=(List.range 16).map fun i=>gunsub (b.getD ((i+i % 4 * 12) % 16) 0)
def mixL (B:Nat→Nat)(b:List Nat):List Nat:=(List.range 16).map fun i=>colf B (fun j=>b.getD (i / 4 * 4+j) 0) (i % 4)
structure KOk (W:List Nat):Prop where
 lt:∀ i,W.getD i 0<256
theorem addK_ok {W:List Nat}(hW:KOk W){r:Nat}{b:List Nat}(hb:B16 b):B16 (addK W r b):=B16.map fun i hi=>xor_lt (hb.lt i) (hW.lt _)
theorem subL_ok {b:List Nat}(hb:B16 b):B16 (subL b):=B16.map fun i hi=>gsub_lt _ (hb.lt _)
theorem unsubL_ok {b:List Nat}(hb:B16 b):B16 (unsubL b):=B16.map fun i hi=>gunsub_lt _ (hb.lt _)
theorem mixL_ok {B:Nat→Nat}(hB:∀ j,B j<256){b:List Nat}:B16 (mixL B b):=B16.map fun i hi=>colf_lt hB _ _
theorem addK_addK {W:List Nat}(r:Nat){b:List Nat}(hb:b.length=16):addK W r (addK W r b)=b:=by
 refine ext16 (by simp [addK]) hb fun i hi=>?_
 rw [addK,gd16 hi,addK,gd16 hi,Nat.xor_assoc,Nat.xor_self,Nat.xor_zero]
theorem unsub_sub {b:List Nat}(hb:B16 b):unsubL (subL b)=b:=by
 refine ext16 (by simp [unsubL]) hb.len fun i hi=>?_
 rw [unsubL,gd16 hi,subL,gd16 (Nat.mod_lt _ (by decide)),law1 _ (hb.lt _)]
 congr 1
 omega
theorem sub_unsub {b:List Nat}(hb:B16 b):subL (unsubL b)=b:=by
 refine ext16 (by simp [subL]) hb.len fun i hi=>?_
 rw [subL,gd16 hi,unsubL,gd16 (Nat.mod_lt _ (by decide)),law2 _ (hb.lt _)]
 congr 1
 omega
theorem mix_get {B:Nat→Nat}{b:List Nat}{i j:Nat}(hi:i<16)(hj:j<4):(mixL B b).getD (i / 4 * 4+j) 0=colf B (fun k=>b.getD (i / 4 * 4+k) 0) j:=by
 rw [mixL,gd16 (by omega),show (i / 4 * 4+j) / 4=i / 4 by omega,show (i / 4 * 4+j) % 4=j by omega]
theorem unmix_mix {b:List Nat}(hb:B16 b):mixL unB (mixL mixB b)=b:=by
 refine ext16 (by simp [mixL]) hb.len fun i hi=>?_
 rw [mixL,gd16 hi,colf_congr (fun j hj=>mix_get hi hj),un_mix (fun j=>hb.lt _) _ (Nat.mod_lt _ (by decide))]
 congr 1
 omega
theorem mix_unmix {b:List Nat}(hb:B16 b):mixL mixB (mixL unB b)=b:=by
 refine ext16 (by simp [mixL]) hb.len fun i hi=>?_
 rw [mixL,gd16 hi,colf_congr (fun j hj=>mix_get hi hj),mix_un (fun j=>hb.lt _) _ (Nat.mod_lt _ (by decide))]
 congr 1
 omega
def encN (W:List Nat)(R:Nat)(b:List Nat):Nat→List Nat
 | 0=>addK W 0 b
 | n+1=>addK W (n+1) (if n+1<R then mixL mixB (subL (encN W R b n)) else subL (encN W R b n))
def encL (W:List Nat)(R:Nat)(b:List Nat):List Nat:=encN W R b R
def decN (W:List Nat)(R:Nat)(b:List Nat):Nat→List Nat
 | 0=>b
 | k+1=>unsubL (if R - k<R then mixL unB (addK W (R - k) (decN W R b k)) else addK W (R - k) (decN W R b k))
def decL (W:List Nat)(R:Nat)(b:List Nat):List Nat:=addK W 0 (decN W R b R)
theorem encN_ok {W:List Nat}(hW:KOk W){R:Nat}{b:List Nat}(hb:B16 b):∀ n,B16 (encN W R b n)
 | 0=>addK_ok hW hb
 | n+1=>by
  rw [encN]
  refine addK_ok hW ?_
  split
  ·exact mixL_ok mixB_lt
  ·exact subL_ok (encN_ok hW hb n)
theorem decN_ok {W:List Nat}(hW:KOk W){R:Nat}{b:List Nat}(hb:B16 b):∀ n,B16 (decN W R b n)
 | 0=>hb
 | n+1=>by
  rw [decN]
  refine unsubL_ok ?_
  split
  ·exact mixL_ok unB_lt
  ·exact addK_ok hW (decN_ok hW hb n)
theorem encL_ok {W:List Nat}(hW:KOk W){R:Nat}{b:List Nat}(hb:B16 b):B16 (encL W R b):=encN_ok hW hb R
theorem decL_ok {W:List Nat}(hW:KOk W){R:Nat}{b:List Nat}(hb:B16 b):B16 (decL W R b):=addK_ok hW (decN_ok hW hb R)
theorem dec_enc {W:List Nat}(hW:KOk W){R:Nat}{b:List Nat}(hb:B16 b):decL W R (encL W R b)=b:=by
 have key:∀ k,k≤R→decN W R (encL W R b) k=encN W R b (R - k):=fun k=>by
  induction k with
  | zero=>intro _;rfl
  | succ k ih=>
   intro hk
   obtain ⟨n,hn⟩:∃ n,R - k=n+1:=⟨R - k - 1,by omega⟩
   have hs:=subL_ok (encN_ok hW hb n (R:=R))
   rw [decN,ih (by omega),hn,show R - (k+1)=n by omega,encN]
   by_cases hr:n+1<R
   ·rw [if_pos hr,if_pos hr,addK_addK _ (mixL_ok mixB_lt).len,unmix_mix hs,unsub_sub (encN_ok hW hb n)]
   ·rw [if_neg hr,if_neg hr,addK_addK _ hs.len,unsub_sub (encN_ok hW hb n)]
 rw [decL,key R (Nat.le_refl _),Nat.sub_self,encN,addK_addK _ hb.len]
theorem enc_dec {W:List Nat}(hW:KOk W){R:Nat}{b:List Nat}(hb:B16 b):encL W R (decL W R b)=b:=by
 have key:∀ n,n≤R→encN W R (decL W R b) n=decN W R b (R - n):=fun n=>by
  induction n with
  | zero=>intro _;rw [encN,decL,addK_addK _ (decN_ok hW hb R).len];rfl
  | succ n ih=>
   intro hn
   obtain ⟨k,hk⟩:∃ k,R - n=k+1:=⟨R - n - 1,by omega⟩
   have ho:=decN_ok hW hb k (R:=R)
   rw [encN,ih (by omega),hk,decN,show R - k=n+1 by omega,show R - (n+1)=k by omega]
   by_cases hr:n+1<R
   ·rw [if_pos hr,if_pos hr,sub_unsub (mixL_ok unB_lt),mix_unmix (addK_ok hW ho),addK_addK _ ho.len]
   ·rw [if_neg hr,if_neg hr,sub_unsub (addK_ok hW ho),addK_addK _ ho.len]
 rw [encL,key R (Nat.le_refl _),Nat.sub_self];rfl
end Go.Proofs.YtkendlnjaopbeaaGreatDoor
namespace Go.Proofs.YtkendlnjaopbeaaGreatDoor
open Go.RowKit
set_option linter.unusedVariables false
set_option linter.unusedSimpArgs false
set_option maxRecDepth 100000
abbrev sgA (W:List Nat)(R:Nat):Sg:=[(240,bys W),(1,#[.int .i64 (R:Int)])]
abbrev kv (W:List Nat)(R:Nat):Value:=.agg (rwA (sgA W R))
class AKey (W:List Nat):Prop where
 len:W.length=240
 byl:∀ x∈W,x<256
theorem AKey.ok {W:List Nat}(h:AKey W):KOk W:=⟨fun i=>by
 rw [List.getD_eq_getElem?_getD]
 cases hx:W[i]? with
 | none=>simp
 | some x=>exact h.byl x (List.mem_of_getElem? hx)⟩
instance {W:List Nat}[h:AKey W]:SegL (bys W) 240:=seg_bys h.len
instance:ZC Tryz.prog 23 (bys (List.replicate 16 0)):=⟨by kernel_rfl⟩
def addP (W:List Nat)(r:Nat)(b:List Nat)(i:Nat):List Nat:=(addK W r b).take i++b.drop i
theorem addK_len (W:List Nat)(r:Nat)(b:List Nat):(addK W r b).length=16:=by simp [addK]
theorem addP_len {W:List Nat}{r:Nat}{b:List Nat}(hb:b.length=16){i:Nat}(hi:i≤16):(addP W r b i).length=16:=by
 rw [addP,List.length_append,List.length_take,addK_len,List.length_drop,hb];omega
theorem addP_get {W:List Nat}{r:Nat}{b:List Nat}(hb:b.length=16){i:Nat}(hi:i<16):(addP W r b i).getD i 0=b.getD i 0:=by
 rw [addP,List.getD_eq_getElem?_getD,List.getElem?_append_right (by rw [List.length_take,addK_len];omega),List.length_take,addK_len,Nat.min_eq_left (by omega),Nat.sub_self,List.getElem?_drop,Nat.add_zero,List.getD_eq_getElem?_getD]
theorem addP_step {W:List Nat}{r:Nat}{b:List Nat}(hb:b.length=16){i:Nat}(hi:i<16):(addP W r b i).set i (b.getD i 0 ^^^ W.getD (16 * r+i) 0)=addP W r b (i+1):=by
 have e1:b.drop i=b.getD i 0::b.drop (i+1):=by rw [List.drop_eq_getElem_cons (by omega)];simp [List.getD,(by omega:i<b.length)]
 have e2:(addK W r b).take (i+1)=(addK W r b).take i++[b.getD i 0 ^^^ W.getD (16 * r+i) 0]:=by
  have hg:(addK W r b)[i]? = some (b.getD i 0 ^^^ W.getD (16 * r+i) 0):=by simp [addK,hi]
  rw [List.take_add_one,hg];rfl
 rw [addP,List.set_append_right _ _ (by rw [List.length_take,addK_len];omega),List.length_take,addK_len,Nat.min_eq_left (by omega),Nat.sub_self,e1,List.set_cons_zero,addP,e2,List.append_assoc]
 rfl
theorem addP_all {W:List Nat}{r:Nat}{b:List Nat}(hb:b.length=16):addP W r b 16=addK W r b:=by
 rw [addP,List.take_of_length_le (by rw [addK_len];exact Nat.le_refl _),List.drop_of_length_le (by omega),List.append_nil]
set_option maxHeartbeats 2000000 in
theorem by_c (w':World){g r R:Nat}{W b:List Nat}(hk:AKey W)(hr:r≤14)(hb:B16 b)(hg:w'.heap[g]? = some (.cells (rwA (sgA W R)) 77)) :
  Calls Tryz.prog 118 [ptr g,.agg (bys b),.int .i64 (r:Int)].toArray w' (Ret (.agg (bys (addK W r b))) w'):=by
 have hcell:∀ j,j<240→w'.cell? ⟨g,j,none⟩=some (.int .u8 (W.getD j 0:Int)):=fun j hj=>by
  refine cell_of hg ?_
  have hl:(bl W).length=240:=by rw [bl_len,hk.len]
  rw [rwA,List.getElem?_toArray]
  simp only [rwL,List.map_cons,List.flatten_cons,bys]
  rw [List.getElem?_append_left (by rw [hl];exact hj),bl_get (by rw [hk.len];exact hj)]
 have hbl:=hb.len
 have hW:=hk.ok
 haveI:NBy b 16:=⟨hbl⟩
 have k4:IntKind.i64.wrap (4 * (r:Int))=((4 * r:Nat):Int):=by rw [wrap_i64 _ (by omega) (by omega)];omega
 have hp0:addP W r b 0=b:=by simp [addP]
 clear hg
 refine fn_ret (N:=_) Tryz.func118 rfl Tryz.ntmps118 Tryz.results118 (by simp) ?_
 simp only [initS,Nat.reduceAdd,Nat.zero_add]
 repeat' (first|(refine wlS ?_)|(refine wlB ?_)|(refine efZCnn ?_;intro n hn)|(refine efBnn ?_;intro n hn)|(refine efB ?_)|(refine efBS ?_)|(refine wl_skip rfl rfl ?_)|(refine wdS ?_)|(refine wdV ?_)|(refine wdB ?_)|(refine wdT ?_)|(refine wdTO ?_)|(refine wd_skip rfl rfl ?_)|((with_reducible refine seld_nil ?_);refine wd_nil hm0 ?_;clear hm0 hw0)|((with_reducible refine wc_seq ?_);intro K hK)|(refine auC ?_)|(refine wc_cond rfl (fun hc=>?_) (fun hc=>?_))|(refine wc_draw (by kernel_rfl) (by kernel_rfl) (by decide +kernel) ?_;intro w0 hw0 hm0;(try simp only [List.append_eq,List.cons_append,List.nil_append]))|(refine auP ?_)|((refine auR ?_);clear hK K)|(refine auR ?_)|((with_reducible refine hK _ _ ?_);clear hK K)|fail)
 rename_i n4 hn4
 refine wc_loop (σ:=Nat) (fun i=>[(0,ptr g),(2,.int .i64 (r:Int)),(4,ptr n4),(6,ptr n),(8,.int .i64 (i:Int))])
  (fun i=>[(n,(bys (List.replicate 16 0),23)),(n4,(bys (addP W r b i),23))])
  (fun i=>i≤16) (fun i=>16 - i) 0 (Nat.zero_le _) (Fits.of ⟨rfl,rfl,rfl,rfl,rfl,trivial⟩ (by rw [hp0];exact SubL.refl _) rfl) ?_
 intro i hi
 haveI:NBy (addP W r b i) 16:=⟨addP_len hbl hi⟩
 by_cases hlt:i<16
 ·have t1:decide ((i:Int)<16)=true:=decide_eq_true (by omega)
  have k1:IntKind.i64.wrap ((i:Int)+1)=((i+1:Nat):Int):=by rw [wrap_i64 _ (by omega) (by omega)];omega
  have k2:IntKind.i64.wrap ((i:Int).tdiv 4)=((i / 4:Nat):Int):=by rw [Int.tdiv_eq_ediv_of_nonneg (by omega),wrap_i64 _ (by omega) (by omega)];omega
  have k3:(i:Int).tmod 4=((i % 4:Nat):Int):=by rw [Int.tmod_eq_emod_of_nonneg (by omega)];omega
  have k5:IntKind.i64.wrap (((4 * r:Nat):Int)+((i / 4:Nat):Int))=((4 * r+i / 4:Nat):Int):=by rw [wrap_i64 _ (by omega) (by omega)];omega
  have j1:(i:Int)<((16:Nat):Int):=by omega
  have j2:((4 * r+i / 4:Nat):Int)<((60:Nat):Int):=by omega
  have j3:((i % 4:Nat):Int)<((4:Nat):Int):=by omega
  have gv:(bys (addP W r b i))[i]? = some (.int .u8 ((b.getD i 0:Nat):Int)):=by
   have:=bys_get (l:=addP W r b i) (i:=i) (by rw [addP_len hbl hi];omega)
   rwa [addP_get hbl hlt] at this
  have hc:w'.cell? ⟨g,(4 * r+i / 4) * 4+i % 4,none⟩=some (.int .u8 (W.getD (16 * r+i) 0:Int)):=by
   have:=hcell ((4 * r+i / 4) * 4+i % 4) (by omega)
   rwa [show W.getD ((4 * r+i / 4) * 4+i % 4) 0=W.getD (16 * r+i) 0 by congr 1;omega] at this
  have st:=addP_step (W:=W) (r:=r) hbl hlt
  have xo:=bits_u8 (b.getD i 0) (W.getD (16 * r+i) 0) (hb.lt i) (hW.lt _)
  repeat' (first|(refine wlS ?_)|(refine wlB ?_)|(refine wlO ?_)|(refine efBnn ?_;intro n hn)|(refine efB ?_)|(refine efBS ?_)|(refine wl_skip rfl rfl ?_)|((with_reducible refine wc_seq ?_);intro K hK)|(refine auC ?_)|(refine wc_cond rfl (fun hc=>?_) (fun hc=>?_))|((with_reducible refine wc_drawT (by kernel_rfl) ?_);(try simp only [List.append_eq,List.cons_append,List.nil_append,List.length_cons,List.length_nil,Nat.reduceAdd]))|((with_reducible refine sel_wh ?_);(refine wh_if (by decide +kernel) ?_);first|(refine wh_take (lq:=[]) rfl rfl rfl rfl (by first|exact rvS|exact rvB|exact rvO) (Or.inl rfl) ?_)|(refine wh_takeL rfl rfl rfl rfl (by first|exact rvS|exact rvB|exact rvO) (by decide +kernel) ?_))|(refine whS ?_;intro v hv hp)|((with_reducible refine sel_wh ?_);first|(refine wh_pass rfl rfl rfl rfl ?_)|(refine wh_done rfl ?_)|(refine wh_all rfl ?_))|((with_reducible refine sel_rest ?_);first|exact rest_nil rfl|refine rest_cons rfl rfl ?_ ?_)|((with_reducible refine sel_nx ?_);first|refine next_of ?_|refine next_late (by decide +kernel) ?_)|(refine auP ?_)|((refine auR ?_);clear hK K)|(refine auR ?_)|((with_reducible refine hK _ _ ?_);clear hK K)|fail)
  exact ⟨i+1,hlt,by omega,Fits.of ⟨rfl,rfl,rfl,rfl,rfl,trivial⟩ (by rw [←st];exact SubL.refl _) rfl⟩
 ·obtain rfl:i=16:=by omega
  have t1:decide (((16:Nat):Int)<16)=false:=by decide
  rw [addP_all hbl] at *
  repeat' (first|(refine wlS ?_)|(refine wlB ?_)|(refine efZCnn ?_;intro n hn)|(refine efBnn ?_;intro n hn)|(refine efB ?_)|(refine efBS ?_)|(refine wl_skip rfl rfl ?_)|(refine wdS ?_)|(refine wdV ?_)|(refine wdB ?_)|(refine wdT ?_)|(refine wdTO ?_)|(refine wd_skip rfl rfl ?_)|((with_reducible refine seld_nil ?_);refine wd_nil hm0 ?_;clear hm0 hw0)|((with_reducible refine wc_seq ?_);intro K hK)|(refine auC ?_)|(refine wc_cond rfl (fun hc=>?_) (fun hc=>?_))|(refine wc_draw (by kernel_rfl) (by kernel_rfl) (by decide +kernel) ?_;intro w0 hw0 hm0;(try simp only [List.append_eq,List.cons_append,List.nil_append]))|(refine auP ?_)|((refine auR ?_);clear hK K)|(refine auR ?_)|((with_reducible refine hK _ _ ?_);clear hK K)|fail)
  first|refine end_ret (ResP.cell rfl ld_whole ResP.nil) ?_|refine end_normal (ResP.cell rfl ld_whole ResP.nil) ?_
  first|rfl|(show _=_;rfl)|(simp only [tupV, *];done)
end Go.Proofs.YtkendlnjaopbeaaGreatDoor
namespace Go.Proofs.YtkendlnjaopbeaaGreatDoor
open Go.RowKit
set_option linter.unusedVariables false
set_option linter.unusedSimpArgs false
set_option maxRecDepth 100000
set_option maxHeartbeats 2000000 in
theorem pow_gf (a n:Nat)(ha:a<256)(hn:n<18446744073709551616)(w:World):Calls Tryz.prog 35 [.int .u8 a,.int .u64 n].toArray w (Ret (.int .u8 ((npow a n:Nat):Int)) w):=by
 obtain ⟨R,hR⟩:∃ R,R=npow a n:=⟨_,rfl⟩
 rw [←hR]
 refine fn_ret (N:=_) Tryz.func35 rfl Tryz.ntmps35 Tryz.results35 (by simp) ?_
 simp only [initS,Nat.reduceAdd,Nat.zero_add]
 repeat' (first|(refine wlB ?_)|(refine wlE ?_)|(refine wl_skip rfl rfl ?_)|((with_reducible refine wc_seq ?_);intro K hK)|(refine auC ?_)|(refine wc_cond rfl (fun hc=>?_) (fun hc=>?_))|(refine wc_draw (by kernel_rfl) (by kernel_rfl) (by decide +kernel) ?_;intro w0 hw0 hm0;(try simp only [List.append_eq,List.cons_append,List.nil_append]))|(refine auP ?_)|((refine auR ?_);clear hK K)|(refine auR ?_)|((with_reducible refine hK _ _ ?_);clear hK K)|fail)
 refine wc_loop (σ:=Nat×Nat×Nat) (fun x=>[(0,.int .u8 (x.1:Int)),(1,.int .u64 (x.2.1:Int)),(5,.int .u8 (x.2.2:Int))]) (fun _=>[])
  (fun x=>x.1<256∧x.2.1<18446744073709551616∧x.2.2<256∧gmul x.2.2 (npow x.1 x.2.1)=R) (fun x=>x.2.1) (a,n,1) ⟨ha,hn,by dsimp only;omega,by rw [one_gmul (npow_lt n ha)];exact hR.symm⟩ (Fits.of ⟨rfl,rfl,rfl,trivial⟩ .nil rfl) ?_
 clear hR ha hn a n
 rintro ⟨a,n,o⟩ ⟨ha,hn,ho,hR⟩
 dsimp only at ha hn ho hR ⊢
 by_cases hn0:n=0
 ·subst hn0
  rw [npow,gmul_one] at hR
  subst hR
  have ht:decide (((0:Nat):Int)>0)=false:=rfl
  repeat' (first|(refine wlB ?_)|(refine wlE ?_)|(refine wl_skip rfl rfl ?_)|((with_reducible refine wc_seq ?_);intro K hK)|(refine auC ?_)|(refine wc_cond rfl (fun hc=>?_) (fun hc=>?_))|(refine wc_draw (by kernel_rfl) (by kernel_rfl) (by decide +kernel) ?_;intro w0 hw0 hm0;(try simp only [List.append_eq,List.cons_append,List.nil_append]))|(refine auP ?_)|((refine auR ?_);clear hK K)|(refine auR ?_)|((with_reducible refine hK _ _ ?_);clear hK K)|fail)
  first|refine end_ret (ResP.tmp rfl ResP.nil) ?_|refine end_normal (ResP.tmp rfl ResP.nil) ?_
  first|rfl|(show _=_;rfl)|(simp only [tupV, *];done)
 ·have ht:decide ((n:Int)>0)=true:=decide_eq_true (by omega)
  have hand:=and1_u64 n hn
  have hn2:(n:Int) / 2 ^ min ((1:Int).toNat) (IntKind.bits .u64)=((n / 2:Nat):Int):=by show (n:Int) / 2=_;omega
  have hs:=gmul_lt a ha
  have hoa:=gmul_lt a ho
  rw [pow_step ha ho] at hR
  have hlt:n / 2<n:=by omega
  have hlt2:n / 2<18446744073709551616:=by omega
  have C2:=mul_gf a a ha ha
  by_cases hp:n % 2=1
  ·rw [if_pos hp] at hR
   rw [hp] at hand
   have C1:=mul_gf o a ho ha
   clear hp hn0 ha hn ho
   repeat' (first|(refine wlB ?_)|((with_reducible refine sel_call ?_);refine wl_rd rfl rfl (rd_call rfl rfl rfl (fun w hm=>by with_reducible first|exact C1 w|exact C2 w)) ?_)|(refine wlE ?_)|(refine wl_skip rfl rfl ?_)|((with_reducible refine wc_seq ?_);intro K hK)|(refine auC ?_)|(refine wc_cond rfl (fun hc=>?_) (fun hc=>?_))|(refine wc_draw (by kernel_rfl) (by kernel_rfl) (by decide +kernel) ?_;intro w0 hw0 hm0;(try simp only [List.append_eq,List.cons_append,List.nil_append]))|(refine auP ?_)|((refine auR ?_);clear hK K)|(refine auR ?_)|((with_reducible refine hK _ _ ?_);clear hK K)|fail)
   exact ⟨(gmul a a,n / 2,gmul o a),⟨hs,hlt2,hoa,hR⟩,hlt,Fits.of ⟨rfl,rfl,rfl,trivial⟩ .nil rfl⟩
  ·rw [if_neg hp] at hR
   rw [show n % 2=0 by omega] at hand
   clear hp hn0 ha hn
   repeat' (first|(refine wlB ?_)|((with_reducible refine sel_call ?_);refine wl_rd rfl rfl (rd_call rfl rfl rfl (fun w hm=>by with_reducible exact C2 w)) ?_)|(refine wlE ?_)|(refine wl_skip rfl rfl ?_)|((with_reducible refine wc_seq ?_);intro K hK)|(refine auC ?_)|(refine wc_cond rfl (fun hc=>?_) (fun hc=>?_))|(refine wc_draw (by kernel_rfl) (by kernel_rfl) (by decide +kernel) ?_;intro w0 hw0 hm0;(try simp only [List.append_eq,List.cons_append,List.nil_append]))|(refine auP ?_)|((refine auR ?_);clear hK K)|(refine auR ?_)|((with_reducible refine hK _ _ ?_);clear hK K)|fail)
   exact ⟨(gmul a a,n / 2,o),⟨hs,hlt2,ho,hR⟩,hlt,Fits.of ⟨rfl,rfl,rfl,trivial⟩ .nil rfl⟩
theorem inv_gf (a:Nat)(ha:a<256)(w:World):Calls Tryz.prog 70 [.int .u8 a].toArray w (Ret (.int .u8 ((ginv a:Nat):Int)) w):=by
 have C:=pow_gf a 254 ha (by decide)
 rw [show ((254:Nat):Int)=254 from rfl] at C
 clear ha
 refine fn_ret (N:=_) Tryz.func70 rfl Tryz.ntmps70 Tryz.results70 (by simp) ?_
 simp only [initS,Nat.reduceAdd,Nat.zero_add]
 repeat' (first|(refine wlB ?_)|((with_reducible refine sel_call ?_);refine wl_rd rfl rfl (rd_call rfl rfl rfl (fun w hm=>by with_reducible exact C w)) ?_)|(refine wlE ?_)|(refine wl_skip rfl rfl ?_)|((with_reducible refine wc_seq ?_);intro K hK)|(refine auC ?_)|(refine wc_cond rfl (fun hc=>?_) (fun hc=>?_))|(refine wc_draw (by kernel_rfl) (by kernel_rfl) (by decide +kernel) ?_;intro w0 hw0 hm0;(try simp only [List.append_eq,List.cons_append,List.nil_append]))|(refine auP ?_)|((refine auR ?_);clear hK K)|(refine auR ?_)|((with_reducible refine hK _ _ ?_);clear hK K)|fail)
 first|refine end_ret (ResP.tmp rfl ResP.nil) ?_|refine end_normal (ResP.tmp rfl ResP.nil) ?_
 first|rfl|(show _=_;rfl)|(simp only [tupV, *];done)
end Go.Proofs.YtkendlnjaopbeaaGreatDoor
namespace Go.Proofs.YtkendlnjaopbeaaGreatDoor
open Go.RowKit
set_option linter.unusedVariables false
set_option linter.unusedSimpArgs false
set_option maxRecDepth 100000
theorem rol_lt (x k:Nat)(hx:x<256):rol x k<256:=
 Nat.or_lt_two_pow (n:=8) (Nat.mod_lt _ (by omega)) (Nat.lt_of_le_of_lt (Nat.div_le_self _ _) hx)
theorem sp_lt {b:Nat}(hb:b<256):∀ m,sp b m<256
 | 0=>xor_lt (by decide) hb
 | m+1=>xor_lt (sp_lt hb m) (rol_lt b _ hb)
theorem or_u8 {a b:Nat}(ha:a<256)(hb:b<256):bits .or .u8 (a:Int) (b:Int)=((a ||| b:Nat):Int):=by
 have hx:a ||| b<256:=Nat.or_lt_two_pow (n:=8) ha hb
 have h1:(BitVec.ofInt 8 (a:Int)).toNat=a:=by
  rw [BitVec.ofInt_natCast,BitVec.toNat_ofNat];exact Nat.mod_eq_of_lt (by omega)
 have h2:(BitVec.ofInt 8 (b:Int)).toNat=b:=by
  rw [BitVec.ofInt_natCast,BitVec.toNat_ofNat];exact Nat.mod_eq_of_lt (by omega)
 show IntKind.u8.wrap ((BitVec.ofInt 8 (a:Int) ||| BitVec.ofInt 8 (b:Int)).toNat:Int)=_
 rw [BitVec.toNat_or,h1,h2]
 exact wrap_u8 _ (by omega) (by omega)
theorem and7 (k:Nat)(h1:1≤k)(h2:k≤7):bits .and .u64 (k:Int) 7=(k:Int):=by
 rcases (by omega:k=1∨k=2∨k=3∨k=4∨k=5∨k=6∨k=7) with rfl|rfl|rfl|rfl|rfl|rfl|rfl <;> decide +kernel
set_option maxHeartbeats 2000000 in
theorem rot_gf (x k:Nat)(hx:x<256)(h1:1≤k)(h2:k≤7)(w:World):Calls Tryz.prog 71 [.int .u8 x,.int .i64 k].toArray w (Ret (.int .u8 ((rol x k:Nat):Int)) w):=by
 have e1:IntKind.u64.wrap ((k:Nat):Int)=((k:Nat):Int):=wrap_u64 _ (by omega) (by omega)
 have e2:=and7 k h1 h2
 have e3:IntKind.u8.wrap ((x:Int) * 2 ^ min ((k:Int).toNat) (IntKind.bits .u8))=((x * 2 ^ k % 256:Nat):Int):=by
  rw [Int.toNat_natCast,show min k (IntKind.bits .u8)=k from Nat.min_eq_left (by show k≤8;omega)]
  simp only [IntKind.wrap,IntKind.bits,IntKind.signed]
  simp
 have e4:IntKind.u64.wrap (8 - (k:Int))=((8 - k:Nat):Int):=by rw [wrap_u64 _ (by omega) (by omega)];omega
 have e5:(x:Int) / 2 ^ min (((8 - k:Nat):Int).toNat) (IntKind.bits .u8)=((x / 2 ^ (8 - k):Nat):Int):=by
  rw [Int.toNat_natCast,show min (8 - k) (IntKind.bits .u8)=8 - k from Nat.min_eq_left (by show 8 - k≤8;omega)]
  simp
 have e6:bits .or .u8 ((x * 2 ^ k % 256:Nat):Int) ((x / 2 ^ (8 - k):Nat):Int)=((rol x k:Nat):Int):=or_u8 (Nat.mod_lt _ (by omega)) (Nat.lt_of_le_of_lt (Nat.div_le_self _ _) hx)
 have p1:(0:Int)≤(k:Int):=by omega
 have p2:(0:Int)≤((8 - k:Nat):Int):=by omega
 clear hx h1 h2
 refine fn_ret (N:=_) Tryz.func71 rfl Tryz.ntmps71 Tryz.results71 (by simp) ?_
 simp only [initS,Nat.reduceAdd,Nat.zero_add]
 repeat' (first|(refine wlB ?_)|(refine wl_skip rfl rfl ?_)|((with_reducible refine wc_seq ?_);intro K hK)|(refine auC ?_)|(refine wc_cond rfl (fun hc=>?_) (fun hc=>?_))|(refine wc_draw (by kernel_rfl) (by kernel_rfl) (by decide +kernel) ?_;intro w0 hw0 hm0;(try simp only [List.append_eq,List.cons_append,List.nil_append]))|(refine auP ?_)|((refine auR ?_);clear hK K)|(refine auR ?_)|((with_reducible refine hK _ _ ?_);clear hK K)|fail)
 first|refine end_ret (ResP.tmp rfl ResP.nil) ?_|refine end_normal (ResP.tmp rfl ResP.nil) ?_
 first|rfl|(show _=_;rfl)|(simp only [tupV, *];done)
set_option maxHeartbeats 2000000 in
theorem sub_gf (a:Nat)(ha:a<256)(w:World):Calls Tryz.prog 56 [.int .u8 a].toArray w (Ret (.int .u8 ((gsub a:Nat):Int)) w):=by
 have C:=inv_gf a ha
 rw [ginv_gi ha] at C
 have hb:=gi_lt a ha
 unfold gsub
 generalize gi a=b at C hb
 have h0:=bits_u8 99 b (by decide) hb
 rw [show ((99:Nat):Int)=99 from rfl,show 99 ^^^ b=sp b 0 from rfl] at h0
 refine fn_ret (N:=_) Tryz.func56 rfl Tryz.ntmps56 Tryz.results56 (by simp) ?_
 simp only [initS,Nat.reduceAdd,Nat.zero_add]
 repeat' (first|(refine wlB ?_)|((with_reducible refine sel_call ?_);refine wl_rd rfl rfl (rd_call rfl rfl rfl (fun w hm=>by with_reducible exact C w)) ?_)|(refine wlE ?_)|(refine wl_skip rfl rfl ?_)|((with_reducible refine wc_seq ?_);intro K hK)|(refine auC ?_)|(refine wc_cond rfl (fun hc=>?_) (fun hc=>?_))|(refine wc_draw (by kernel_rfl) (by kernel_rfl) (by decide +kernel) ?_;intro w0 hw0 hm0;(try simp only [List.append_eq,List.cons_append,List.nil_append]))|(refine auP ?_)|((refine auR ?_);clear hK K)|(refine auR ?_)|((with_reducible refine hK _ _ ?_);clear hK K)|fail)
 refine wc_loop (σ:=Nat) (fun m=>[(3,.int .u8 (b:Int)),(4,.int .u8 (sp b m:Nat)),(5,.int .i64 ((m+1:Nat):Int))]) (fun _=>[])
  (fun m=>m≤4) (fun m=>4 - m) 0 (Nat.zero_le _) (Fits.of ⟨rfl,rfl,rfl,trivial⟩ .nil rfl) ?_
 clear C h0 ha
 intro m hm
 by_cases hlt:m<4
 ·have t1:decide (((m+1:Nat):Int)≤4)=true:=decide_eq_true (by omega)
  have ROT:=rot_gf b (m+1) hb (by omega) (by omega)
  have hx:bits .xor .u8 ((sp b m:Nat):Int) ((rol b (m+1):Nat):Int)=((sp b (m+1):Nat):Int):=bits_u8 _ _ (sp_lt hb m) (rol_lt b _ hb)
  have hi:IntKind.i64.wrap (((m+1:Nat):Int)+1)=((m+1+1:Nat):Int):=wrap_i64 _ (by omega) (by omega)
  clear hm hb
  repeat' (first|(refine wlB ?_)|((with_reducible refine sel_call ?_);refine wl_rd rfl rfl (rd_call rfl rfl rfl (fun w hm=>by with_reducible exact ROT w)) ?_)|(refine wlE ?_)|(refine wl_skip rfl rfl ?_)|((with_reducible refine wc_seq ?_);intro K hK)|(refine auC ?_)|(refine wc_cond rfl (fun hc=>?_) (fun hc=>?_))|(refine wc_draw (by kernel_rfl) (by kernel_rfl) (by decide +kernel) ?_;intro w0 hw0 hm0;(try simp only [List.append_eq,List.cons_append,List.nil_append]))|(refine auP ?_)|((refine auR ?_);clear hK K)|(refine auR ?_)|((with_reducible refine hK _ _ ?_);clear hK K)|fail)
  exact ⟨m+1,hlt,by omega,Fits.of ⟨rfl,rfl,rfl,trivial⟩ .nil rfl⟩
 ·obtain rfl:m=4:=by omega
  have t1:decide (((4+1:Nat):Int)≤4)=false:=rfl
  clear hm hlt hb
  repeat' (first|(refine wlB ?_)|(refine wlE ?_)|(refine wl_skip rfl rfl ?_)|((with_reducible refine wc_seq ?_);intro K hK)|(refine auC ?_)|(refine wc_cond rfl (fun hc=>?_) (fun hc=>?_))|(refine wc_draw (by kernel_rfl) (by kernel_rfl) (by decide +kernel) ?_;intro w0 hw0 hm0;(try simp only [List.append_eq,List.cons_append,List.nil_append]))|(refine auP ?_)|((refine auR ?_);clear hK K)|(refine auR ?_)|((with_reducible refine hK _ _ ?_);clear hK K)|fail)
  first|refine end_ret (ResP.tmp rfl ResP.nil) ?_|refine end_normal (ResP.tmp rfl ResP.nil) ?_
  first|rfl|(show _=_;rfl)|(simp only [tupV, *];done)
set_option maxHeartbeats 2000000 in
theorem unsub_gf (a:Nat)(ha:a<256)(w:World):Calls Tryz.prog 130 [.int .u8 a].toArray w (Ret (.int .u8 ((gunsub a:Nat):Int)) w):=by
 have h0:=bits_u8 a 99 ha (by decide)
 rw [show ((99:Nat):Int)=99 from rfl] at h0
 have ht:a ^^^ 99<256:=xor_lt ha (by decide)
 unfold gunsub
 generalize a ^^^ 99=t at h0 ht
 have R1:=rot_gf t 1 ht (by decide) (by decide)
 have R3:=rot_gf t 3 ht (by decide) (by decide)
 have R6:=rot_gf t 6 ht (by decide) (by decide)
 rw [show ((1:Nat):Int)=1 from rfl] at R1
 rw [show ((3:Nat):Int)=3 from rfl] at R3
 rw [show ((6:Nat):Int)=6 from rfl] at R6
 have x1:=bits_u8 (rol t 1) (rol t 3) (rol_lt t 1 ht) (rol_lt t 3 ht)
 have x2:bits .xor .u8 ((rol t 1 ^^^ rol t 3:Nat):Int) ((rol t 6:Nat):Int)=((mid t:Nat):Int):=bits_u8 _ _ (xor_lt (rol_lt t 1 ht) (rol_lt t 3 ht)) (rol_lt t 6 ht)
 have hm:mid t<256:=xor_lt (xor_lt (rol_lt t 1 ht) (rol_lt t 3 ht)) (rol_lt t 6 ht)
 have C:=inv_gf (mid t) hm
 rw [ginv_gi hm] at C
 clear ht hm ha
 refine fn_ret (N:=_) Tryz.func130 rfl Tryz.ntmps130 Tryz.results130 (by simp) ?_
 simp only [initS,Nat.reduceAdd,Nat.zero_add]
 repeat' (first|(refine wlB ?_)|((with_reducible refine sel_call ?_);refine wl_rd rfl rfl (rd_call rfl rfl rfl (fun w hm=>by with_reducible first|exact R1 w|exact R3 w|exact R6 w|exact C w)) ?_)|(refine wlE ?_)|(refine wl_skip rfl rfl ?_)|((with_reducible refine wc_seq ?_);intro K hK)|(refine auC ?_)|(refine wc_cond rfl (fun hc=>?_) (fun hc=>?_))|(refine wc_draw (by kernel_rfl) (by kernel_rfl) (by decide +kernel) ?_;intro w0 hw0 hm0;(try simp only [List.append_eq,List.cons_append,List.nil_append]))|(refine auP ?_)|((refine auR ?_);clear hK K)|(refine auR ?_)|((with_reducible refine hK _ _ ?_);clear hK K)|fail)
 first|refine end_ret (ResP.tmp rfl ResP.nil) ?_|refine end_normal (ResP.tmp rfl ResP.nil) ?_
 first|rfl|(show _=_;rfl)|(simp only [tupV, *];done)
end Go.Proofs.YtkendlnjaopbeaaGreatDoor
namespace Go.Proofs.YtkendlnjaopbeaaGreatDoor
open Go.RowKit
set_option linter.unusedVariables false
set_option linter.unusedSimpArgs false
set_option maxRecDepth 100000
theorem b4_bys (f:Nat→Nat):b4 f=bys [f 0,f 1,f 2,f 3]:=by simp [b4,bys,bl]
def colL (B:Nat→Nat)(l:List Nat):List Nat:=(List.range 4).map fun j=>colf B (fun k=>l.getD k 0) j
theorem colL_len (B:Nat→Nat)(l:List Nat):(colL B l).length=4:=by simp [colL]
theorem four_getD (x0 x1 x2 x3:Nat)(h0:x0<256)(h1:x1<256)(h2:x2<256)(h3:x3<256)(j:Nat):[x0,x1,x2,x3].getD j 0<256:=by
 match j with
 | 0=>exact h0
 | 1=>exact h1
 | 2=>exact h2
 | 3=>exact h3
 | n+4=>simp
theorem mix_l (x0 x1 x2 x3:Nat)(h0:x0<256)(h1:x1<256)(h2:x2<256)(h3:x3<256)(w:World):Calls Tryz.prog 120 [.agg (bys [x0,x1,x2,x3])].toArray w (Ret (.agg (bys (colL mixB [x0,x1,x2,x3]))) w):=by
 have:=mix_gf (fun k=>[x0,x1,x2,x3].getD k 0) (four_getD x0 x1 x2 x3 h0 h1 h2 h3) w
 rw [b4_bys,b4_bys] at this
 exact this
theorem unmix_l (x0 x1 x2 x3:Nat)(h0:x0<256)(h1:x1<256)(h2:x2<256)(h3:x3<256)(w:World):Calls Tryz.prog 129 [.agg (bys [x0,x1,x2,x3])].toArray w (Ret (.agg (bys (colL unB [x0,x1,x2,x3]))) w):=by
 have:=unmix_gf (fun k=>[x0,x1,x2,x3].getD k 0) (four_getD x0 x1 x2 x3 h0 h1 h2 h3) w
 rw [b4_bys,b4_bys] at this
 exact this
def mixP (B:Nat→Nat)(b:List Nat)(c:Nat):List Nat:=(mixL B b).take c++b.drop c
theorem mixL_len (B:Nat→Nat)(b:List Nat):(mixL B b).length=16:=by simp [mixL]
theorem mixP_len {B:Nat→Nat}{b:List Nat}(hb:b.length=16){c:Nat}(hc:c≤16):(mixP B b c).length=16:=by
 rw [mixP,List.length_append,List.length_take,mixL_len,List.length_drop,hb];omega
theorem mixP_get {B:Nat→Nat}{b:List Nat}{c i:Nat}(hc:c≤16)(hi:c≤i):(mixP B b c).getD i 0=b.getD i 0:=by
 rw [mixP,List.getD_eq_getElem?_getD,List.getElem?_append_right (by rw [List.length_take,mixL_len];omega),List.length_take,mixL_len,Nat.min_eq_left hc,List.getElem?_drop,List.getD_eq_getElem?_getD]
 congr 2;omega
theorem mixP_step {B:Nat→Nat}{b:List Nat}(hb:b.length=16){q:Nat}(hq:q<4) :
  (mixP B b (4 * q)).take (4 * q)++((colL B [b.getD (4 * q) 0,b.getD (4 * q+1) 0,b.getD (4 * q+2) 0,b.getD (4 * q+3) 0]).take 4++(mixP B b (4 * q)).drop (4 * q+4))=mixP B b (4 * (q+1)):=by
 have e0:(mixP B b (4 * q)).take (4 * q)=(mixL B b).take (4 * q):=by
  rw [mixP,List.take_append_of_le_length (by rw [List.length_take,mixL_len];omega),List.take_take,Nat.min_self]
 have e1:(mixP B b (4 * q)).drop (4 * q+4)=b.drop (4 * (q+1)):=by
  rw [mixP,List.drop_append,List.drop_of_length_le (by rw [List.length_take,mixL_len];omega),List.nil_append,List.length_take,mixL_len,Nat.min_eq_left (by omega),List.drop_drop]
  congr 1;omega
 have e2:(mixL B b).take (4 * (q+1))=(mixL B b).take (4 * q)++colL B [b.getD (4 * q) 0,b.getD (4 * q+1) 0,b.getD (4 * q+2) 0,b.getD (4 * q+3) 0]:=by
  refine List.ext_getElem (by rw [List.length_append,List.length_take,List.length_take,mixL_len,colL_len];omega) fun i h1 h2=>?_
  rw [List.length_take,mixL_len] at h1
  rw [List.getElem_take]
  by_cases hi:i<4 * q
  ·rw [List.getElem_append_left (by rw [List.length_take,mixL_len];omega),List.getElem_take]
  ·rw [List.getElem_append_right (by rw [List.length_take,mixL_len];omega)]
   simp only [mixL,colL,List.getElem_map,List.getElem_range,List.length_take,List.length_map,List.length_range]
   rw [Nat.min_eq_left (by omega),show i % 4=i - 4 * q by omega]
   refine colf_congr (fun j hj=>?_) _
   rw [show i / 4 * 4=4 * q by omega]
   match j,hj with
   | 0,_=>rfl
   | 1,_=>rfl
   | 2,_=>rfl
   | 3,_=>rfl
 rw [e0,e1]
 have hC:=colL_len B [b.getD (4 * q) 0,b.getD (4 * q+1) 0,b.getD (4 * q+2) 0,b.getD (4 * q+3) 0]
 generalize colL B [b.getD (4 * q) 0,b.getD (4 * q+1) 0,b.getD (4 * q+2) 0,b.getD (4 * q+3) 0]=C at *
 rw [List.take_of_length_le (l:=C) (by omega),←List.append_assoc,←e2]
 rfl
instance zc4:ZC Tryz.prog 74 (bys (List.replicate 4 0)):=⟨by kernel_rfl⟩
set_option maxHeartbeats 2000000 in
theorem each_c (w':World){B:Nat→Nat}{F:Nat}{b:List Nat}(hb:B16 b)(hB:∀ j,B j<256)
  (hF:∀ x0 x1 x2 x3,x0<256→x1<256→x2<256→x3<256→∀ w,Calls Tryz.prog F [.agg (bys [x0,x1,x2,x3])].toArray w (Ret (.agg (bys (colL B [x0,x1,x2,x3]))) w)) (hk:callOk Tryz.prog F=true) :
  Calls Tryz.prog 119 [.agg (bys b),.func (.func F) #[] #[]].toArray w' (Ret (.agg (bys (mixL B b))) w'):=by
 have hbl:=hb.len
 haveI:NBy b 16:=⟨hbl⟩
 have hp0:mixP B b 0=b:=by simp [mixP]
 refine fn_ret (N:=_) Tryz.func119 rfl Tryz.ntmps119 Tryz.results119 (by simp) ?_
 simp only [initS,Nat.reduceAdd,Nat.zero_add]
 repeat' (first|(refine wlS ?_)|(refine wlB ?_)|(refine efZCnn ?_;intro n hn)|(refine efBnn ?_;intro n hn)|(refine efB ?_)|(refine efBS ?_)|(refine wl_skip rfl rfl ?_)|(refine wdS ?_)|(refine wdV ?_)|(refine wdB ?_)|(refine wdE ?_)|(refine wd_allocC hm0 rfl rfl rfl ?_;intro n hn hn0)|(refine wd_alloc hm0 rfl rfl rfl ?_;intro n hn hn0)|(refine wdT ?_)|(refine wdTO ?_)|(refine wd_skip rfl rfl ?_)|((with_reducible refine seld_nil ?_);refine wd_nil hm0 ?_;clear hm0 hw0)|((with_reducible refine wc_seq ?_);intro K hK)|(refine auC ?_)|(refine wc_cond rfl (fun hc=>?_) (fun hc=>?_))|(refine wc_draw (by kernel_rfl) (by kernel_rfl) (by decide +kernel) ?_;intro w0 hw0 hm0;(try simp only [List.append_eq,List.cons_append,List.nil_append]))|(refine auP ?_)|((refine auR ?_);clear hK K)|(refine auR ?_)|((with_reducible refine hK _ _ ?_);clear hK K)|fail)
 rename_i n2 hn2
 refine wc_loop (σ:=Nat) (fun q=>[(1,.func (.func F) #[] #[]),(2,ptr n2),(4,ptr n),(5,.int .i64 ((4 * q:Nat):Int))])
  (fun q=>[(n,(bys (List.replicate 16 0),23)),(n2,(bys (mixP B b (4 * q)),23))])
  (fun q=>q≤4) (fun q=>4 - q) 0 (Nat.zero_le _) (Fits.of ⟨rfl,rfl,rfl,rfl,trivial⟩ (by rw [Nat.mul_zero,hp0];exact SubL.refl _) rfl) ?_
 intro q hq
 haveI:NBy (mixP B b (4 * q)) 16:=⟨mixP_len hbl (by omega)⟩
 by_cases hlt:q<4
 ·have t1:decide (((4 * q:Nat):Int)<16)=true:=decide_eq_true (by omega)
  have k4:IntKind.i64.wrap (((4 * q:Nat):Int)+4)=((4 * (q+1):Nat):Int):=by rw [wrap_i64 _ (by omega) (by omega)];omega
  have k1:IntKind.i64.wrap (((4 * q:Nat):Int)+1)=((4 * q+1:Nat):Int):=by rw [wrap_i64 _ (by omega) (by omega)];omega
  have k2:IntKind.i64.wrap (((4 * q:Nat):Int)+2)=((4 * q+2:Nat):Int):=by rw [wrap_i64 _ (by omega) (by omega)];omega
  have k3:IntKind.i64.wrap (((4 * q:Nat):Int)+3)=((4 * q+3:Nat):Int):=by rw [wrap_i64 _ (by omega) (by omega)];omega
  have gv:∀ j,4 * q≤j→j<16→(bys (mixP B b (4 * q)))[j]? = some (.int .u8 ((b.getD j 0:Nat):Int)):=fun j h1 h2=>by
   have:=bys_get (l:=mixP B b (4 * q)) (i:=j) (by rw [mixP_len hbl (by omega)];exact h2)
   rwa [mixP_get (by omega) h1] at this
  have g0:=gv (4 * q) (by omega) (by omega)
  have g1:=gv (4 * q+1) (by omega) (by omega)
  have g2:=gv (4 * q+2) (by omega) (by omega)
  have g3:=gv (4 * q+3) (by omega) (by omega)
  have j0:((4 * q:Nat):Int)<((16:Nat):Int):=by omega
  have j1:((4 * q+1:Nat):Int)<((16:Nat):Int):=by omega
  have j2:((4 * q+2:Nat):Int)<((16:Nat):Int):=by omega
  have j3:((4 * q+3:Nat):Int)<((16:Nat):Int):=by omega
  have C:=hF _ _ _ _ (hb.lt (4 * q)) (hb.lt (4 * q+1)) (hb.lt (4 * q+2)) (hb.lt (4 * q+3))
  have st:=mixP_step (B:=B) hbl hlt
  have hby:∀ x∈colL B [b.getD (4 * q) 0,b.getD (4 * q+1) 0,b.getD (4 * q+2) 0,b.getD (4 * q+3) 0],x<256:=fun x hx=>by
   obtain ⟨j,_,rfl⟩:=List.mem_map.1 hx
   exact colf_lt hB _ _
  have hcl:=colL_len B [b.getD (4 * q) 0,b.getD (4 * q+1) 0,b.getD (4 * q+2) 0,b.getD (4 * q+3) 0]
  have E:Value.agg [.int .u8 (b.getD (4 * q) 0:Int),.int .u8 (b.getD (4 * q+1) 0:Int),.int .u8 (b.getD (4 * q+2) 0:Int),.int .u8 (b.getD (4 * q+3) 0:Int)].toArray=.agg (bys [b.getD (4 * q) 0,b.getD (4 * q+1) 0,b.getD (4 * q+2) 0,b.getD (4 * q+3) 0]):=rfl
  generalize colL B [b.getD (4 * q) 0,b.getD (4 * q+1) 0,b.getD (4 * q+2) 0,b.getD (4 * q+3) 0]=D at *
  haveI:NBy D 4:=⟨hcl⟩
  haveI:BLc 4 D:=⟨⟨hcl,hby⟩,by decide⟩
  have hmn:Nat.min 4 (16 - 4 * q)=4:=Nat.min_eq_left (by omega)
  have hft:4 * q+4≤(mixP B b (4 * q)).length:=by rw [mixP_len hbl (by omega)];omega
  clear hF gv
  repeat' (first|(refine wlS ?_)|(refine wlB ?_)|((with_reducible refine sel_build ?_);refine wv rfl rfl (rd_cast (rd_buildA rfl rfl) E) ?_)|((with_reducible refine sel_call ?_);refine wl_rd rfl rfl (rd_callv rfl rfl rfl rfl (fun w _=>by with_reducible exact C w) (hk:=by with_reducible assumption)) ?_)|(refine wlE ?_)|(refine efSvvp ?_;intro v hv hp)|(refine efSvao ?_;intro v oa ho)|(refine efM ?_)|(refine efMvao ?_;intro v oa ho)|((with_reducible refine sel_store ?_);first|(refine wl_putB (e:=5) rfl rfl rfl rfl rfl ?_;intro oa ho))|(refine efZCnn ?_;intro n hn)|(refine efBnn ?_;intro n hn)|(refine efB ?_)|(refine efBS ?_)|(refine wl_skip rfl rfl ?_)|((with_reducible refine wc_seq ?_);intro K hK)|(refine auC ?_)|(refine wc_cond rfl (fun hc=>?_) (fun hc=>?_))|((with_reducible refine wc_drawC (by kernel_rfl) ?_);(try simp only [List.append_eq,List.cons_append,List.nil_append,List.length_cons,List.length_nil,Nat.reduceAdd]))|((with_reducible refine sel_wh ?_);(refine wh_if (by decide +kernel) ?_);first|(refine wh_take (lq:=[]) rfl rfl rfl rfl (by first|exact rvS|exact rvB|((with_reducible apply selr_build);exact rd_cast (rd_buildA rfl rfl) E)|exact rvE) (Or.inl rfl) ?_)|(refine wh_takeL rfl rfl rfl rfl (by first|exact rvS|exact rvB|((with_reducible apply selr_build);exact rd_cast (rd_buildA rfl rfl) E)|exact rvE) (by decide +kernel) ?_))|(refine whS ?_;intro v hv hp)|((with_reducible refine sel_wh ?_);first|(refine wh_pass rfl rfl rfl rfl ?_)|(refine wh_done rfl ?_)|(refine wh_all rfl ?_))|((with_reducible refine sel_rest ?_);first|exact rest_nil rfl|refine rest_cons rfl rfl ?_ ?_)|((with_reducible refine sel_nx ?_);first|refine next_of ?_|refine next_late (by decide +kernel) ?_)|(refine auP ?_)|((refine auR ?_);clear hK K)|(refine auR ?_)|((with_reducible refine hK _ _ ?_);clear hK K)|fail)
  all_goals exact ⟨q+1,hlt,by omega,Fits.of ⟨rfl,rfl,rfl,rfl,trivial⟩ (.skip (SubL.refl _)) rfl⟩
 ·obtain rfl:q=4:=by omega
  have t1:decide (((4 * 4:Nat):Int)<16)=false:=by decide
  have hp:mixP B b (4 * 4)=mixL B b:=by rw [mixP,List.take_of_length_le (by rw [mixL_len];exact Nat.le_refl _),List.drop_of_length_le (by omega),List.append_nil]
  rw [hp]
  haveI:NBy (mixL B b) 16:=⟨mixL_len B b⟩
  repeat' (first|(refine wlS ?_)|(refine wlB ?_)|(refine efZCnn ?_;intro n hn)|(refine efBnn ?_;intro n hn)|(refine efB ?_)|(refine efBS ?_)|(refine wl_skip rfl rfl ?_)|(refine wdS ?_)|(refine wdV ?_)|(refine wdB ?_)|(refine wdE ?_)|(refine wd_allocC hm0 rfl rfl rfl ?_;intro n hn hn0)|(refine wd_alloc hm0 rfl rfl rfl ?_;intro n hn hn0)|(refine wdT ?_)|(refine wdTO ?_)|(refine wd_skip rfl rfl ?_)|((with_reducible refine seld_nil ?_);refine wd_nil hm0 ?_;clear hm0 hw0)|((with_reducible refine wc_seq ?_);intro K hK)|(refine auC ?_)|(refine wc_cond rfl (fun hc=>?_) (fun hc=>?_))|(refine wc_draw (by kernel_rfl) (by kernel_rfl) (by decide +kernel) ?_;intro w0 hw0 hm0;(try simp only [List.append_eq,List.cons_append,List.nil_append]))|(refine auP ?_)|((refine auR ?_);clear hK K)|(refine auR ?_)|((with_reducible refine hK _ _ ?_);clear hK K)|fail)
  first|refine end_ret (ResP.cell rfl ld_whole ResP.nil) ?_|refine end_normal (ResP.cell rfl ld_whole ResP.nil) ?_
  first|rfl|(show _=_;rfl)|(simp only [tupV, *];done)
end Go.Proofs.YtkendlnjaopbeaaGreatDoor
namespace Go.Proofs.YtkendlnjaopbeaaGreatDoor
open Go.RowKit
attribute [local irreducible] rwA bys
set_option linter.unusedVariables false
set_option linter.unusedSimpArgs false
set_option maxRecDepth 100000
def subP (b:List Nat)(i:Nat):List Nat:=(subL b).take i++List.replicate (16 - i) 0
theorem subL_len (b:List Nat):(subL b).length=16:=by simp [subL]
theorem subP_len (b:List Nat){i:Nat}(hi:i≤16):(subP b i).length=16:=by
 rw [subP,List.length_append,List.length_take,subL_len,List.length_replicate];omega
theorem subP_step (b:List Nat){i:Nat}(hi:i<16):(subP b i).set i (gsub (b.getD ((i+i % 4 * 4) % 16) 0))=subP b (i+1):=by
 have e2:(subL b).take (i+1)=(subL b).take i++[gsub (b.getD ((i+i % 4 * 4) % 16) 0)]:=by
  have hg:(subL b)[i]? = some (gsub (b.getD ((i+i % 4 * 4) % 16) 0)):=by simp [subL,hi]
  rw [List.take_add_one,hg];rfl
 rw [subP,List.set_append_right _ _ (by rw [List.length_take,subL_len];omega),List.length_take,subL_len,Nat.min_eq_left (by omega),Nat.sub_self,show 16 - i=16 - (i+1)+1 by omega,List.replicate_succ,List.set_cons_zero,subP,e2,List.append_assoc]
 rfl
theorem subP_all (b:List Nat):subP b 16=subL b:=by
 rw [subP,List.take_of_length_le (by rw [subL_len];exact Nat.le_refl _)];simp
set_option maxHeartbeats 4000000 in
theorem enc_c (w':World){R:Nat}{W b:List Nat}[hk:AKey W](hR:R≤14)(hb:B16 b) :
  Calls Tryz.prog 116 [kv W R,.agg (bys b)].toArray w' (Ret (.agg (bys (encL W R b))) w'):=by
 have hbl:=hb.len
 have hW:=hk.ok
 haveI:NBy b 16:=⟨hbl⟩
 haveI:SgOk (sgA W R):=inferInstance
 have BY0:∀ {g:Nat} w'',w''.heap[g]? = some (.cells (rwA (sgA W R)) 77)→Calls Tryz.prog 118 [ptr g,.agg (bys b),.int .i64 0].toArray w'' (Ret (.agg (bys (addK W 0 b))) w''):=fun w'' h=>by_c (r:=0) w'' hk (by omega) hb h
 haveI:NBy (addK W 0 b) 16:=⟨addK_len _ _ _⟩
 refine fn_ret (N:=_) Tryz.func116 rfl Tryz.ntmps116 Tryz.results116 (by simp) ?_
 simp only [initS,Nat.reduceAdd,Nat.zero_add]
 repeat' (first|(refine wlS ?_)|(refine wlG ?_)|(refine wlB ?_)|((with_reducible refine sel_call ?_);refine wl_rd rfl rfl (rd_call rfl rfl rfl (fun w hm=>by with_reducible exact BY0 w (Has.sees hm))) ?_)|(refine wlE ?_)|(refine efSvao ?_;intro v oa ho)|(refine efG ?_)|(refine efGnn ?_;intro n hn)|(refine efZCnn ?_;intro n hn)|(refine efBnn ?_;intro n hn)|(refine efB ?_)|(refine efBS ?_)|(refine wl_skip rfl rfl ?_)|((with_reducible refine wc_seq ?_);intro K hK)|(refine auC ?_)|(refine wc_cond rfl (fun hc=>?_) (fun hc=>?_))|(refine wc_draw (by kernel_rfl) (by kernel_rfl) (by decide +kernel) ?_;intro w0 hw0 hm0;(try simp only [List.append_eq,List.cons_append,List.nil_append]))|(refine auP ?_)|((refine auR ?_);clear hK K)|(refine auR ?_)|((with_reducible refine hK _ _ ?_);clear hK K)|fail)
 rename_i n2 hn2 n3 hn3
 obtain ⟨n4,rfl⟩:∃ n4,n4=n:=⟨n,rfl⟩
 refine wc_loop (σ:=Nat) (fun m=>[(2,ptr n2),(3,ptr n3),(4,ptr n4),(5,.int .i64 ((m+1:Nat):Int))])
  (fun m=>[(n4,(bys (List.replicate 16 0),23)),(n3,(bys (encN W R b m),23)),(n2,(rwA (sgA W R),77))])
  (fun m=>m≤R) (fun m=>R - m) 0 (Nat.zero_le _) (Fits.of ⟨rfl,rfl,rfl,rfl,trivial⟩ (SubL.refl _) rfl) ?_
 clear BY0
 intro m hmR
 have hS:=encN_ok hW hb m (R:=R)
 haveI:NBy (encN W R b m) 16:=⟨hS.len⟩
 by_cases hlt:m<R
 ·have t1:decide (((m+1:Nat):Int)≤(R:Int))=true:=decide_eq_true (by omega)
  have k1:IntKind.i64.wrap (((m+1:Nat):Int)+1)=((m+1+1:Nat):Int):=by rw [wrap_i64 _ (by omega) (by omega)];omega
  have hnx:encN W R b (m+1)=addK W (m+1) (if m+1<R then mixL mixB (subL (encN W R b m)) else subL (encN W R b m)):=rfl
  repeat' (first|(refine wlS ?_)|(refine wlG ?_)|(refine wlB ?_)|(refine wlE ?_)|(refine efSvao ?_;intro v oa ho)|(refine efG ?_)|(refine efGnn ?_;intro n hn)|(refine efZCnn ?_;intro n hn)|(refine efBnn ?_;intro n hn)|(refine efB ?_)|(refine efBS ?_)|(refine wl_skip rfl rfl ?_)|((with_reducible refine wc_seq ?_);intro K hK)|(refine auC ?_)|(refine wc_cond rfl (fun hc=>?_) (fun hc=>?_))|(refine wc_draw (by kernel_rfl) (by kernel_rfl) (by decide +kernel) ?_;intro w0 hw0 hm0;(try simp only [List.append_eq,List.cons_append,List.nil_append]))|(refine auP ?_)|((refine auR ?_);clear hK K)|(refine auR ?_)|((with_reducible refine hK _ _ ?_);clear hK K)|fail)
  obtain ⟨n6,rfl⟩:∃ n6,n6=n:=⟨n,rfl⟩
  generalize encN W R b m=S at *
  have hs0:subP S 0=List.replicate 16 0:=by simp [subP]
  refine wc_loop (σ:=Nat) (fun i=>[(2,ptr n2),(3,ptr n3),(4,ptr n4),(5,.int .i64 ((m+1:Nat):Int)),(6,ptr n6),(16,.int .i64 (i:Int))])
   (fun i=>[(n6,(bys (subP S i),23)),(n4,(bys (List.replicate 16 0),23)),(n3,(bys S,23)),(n2,(rwA (sgA W R),77))])
   (fun i=>i≤16) (fun i=>16 - i) 0 (Nat.zero_le _) (Fits.of ⟨rfl,rfl,rfl,rfl,rfl,rfl,trivial⟩ (by rw [hs0];exact SubL.refl _) rfl) ?_
  intro i hi
  haveI:NBy (subP S i) 16:=⟨subP_len S hi⟩
  by_cases hit:i<16
  ·have t2:decide ((i:Int)<16)=true:=decide_eq_true (by omega)
   have k2:IntKind.i64.wrap ((i:Int)+1)=((i+1:Nat):Int):=by rw [wrap_i64 _ (by omega) (by omega)];omega
   have k3:(i:Int).tmod 4=((i % 4:Nat):Int):=by rw [Int.tmod_eq_emod_of_nonneg (by omega)];omega
   have k4:IntKind.i64.wrap (((i % 4:Nat):Int) * 4)=((i % 4 * 4:Nat):Int):=by rw [wrap_i64 _ (by omega) (by omega)];omega
   have k5:IntKind.i64.wrap ((i:Int)+((i % 4 * 4:Nat):Int))=((i+i % 4 * 4:Nat):Int):=by rw [wrap_i64 _ (by omega) (by omega)];omega
   have k6:((i+i % 4 * 4:Nat):Int).tmod 16=(((i+i % 4 * 4) % 16:Nat):Int):=by rw [Int.tmod_eq_emod_of_nonneg (by omega)];omega
   have j1:(((i+i % 4 * 4) % 16:Nat):Int)<((16:Nat):Int):=by omega
   have j2:(i:Int)<((16:Nat):Int):=by omega
   have gv:=bys_get (l:=S) (i:=(i+i % 4 * 4) % 16) (by rw [hS.len];omega)
   have SU:=sub_gf (S.getD ((i+i % 4 * 4) % 16) 0) (hS.lt _)
   have st:=subP_step S hit
   repeat' (first|(refine wlS ?_)|(refine wlG ?_)|(refine wlB ?_)|((with_reducible refine sel_call ?_);refine wl_rd rfl rfl (rd_call rfl rfl rfl (fun w hm=>by with_reducible exact SU w)) ?_)|(refine wlE ?_)|(refine efSvao ?_;intro v oa ho)|(refine efG ?_)|(refine efGnn ?_;intro n hn)|(refine efBnn ?_;intro n hn)|(refine efB ?_)|(refine efBS ?_)|(refine wl_skip rfl rfl ?_)|((with_reducible refine wc_seq ?_);intro K hK)|(refine auC ?_)|(refine wc_cond rfl (fun hc=>?_) (fun hc=>?_))|(refine wc_draw (by kernel_rfl) (by kernel_rfl) (by decide +kernel) ?_;intro w0 hw0 hm0;(try simp only [List.append_eq,List.cons_append,List.nil_append]))|(refine auP ?_)|((refine auR ?_);clear hK K)|(refine auR ?_)|((with_reducible refine hK _ _ ?_);clear hK K)|fail)
   exact ⟨i+1,hit,by omega,Fits.of ⟨rfl,rfl,rfl,rfl,rfl,rfl,trivial⟩ (by rw [←st];exact SubL.refl _) rfl⟩
  ·obtain rfl:i=16:=by omega
   have t2:decide (((16:Nat):Int)<16)=false:=by decide
   rw [subP_all]
   have hT:=subL_ok hS
   haveI:NBy (subL S) 16:=⟨hT.len⟩
   by_cases hr:m+1<R
   ·have t3:decide (((m+1:Nat):Int)<(R:Int))=true:=decide_eq_true (by omega)
    rw [if_pos hr] at hnx
    have EC:=fun w=>each_c w (F:=120) hT mixB_lt (fun x0 x1 x2 x3=>mix_l x0 x1 x2 x3) (by kernel_rfl)
    have BY:∀ w'',w''.heap[n2]? = some (.cells (rwA (sgA W R)) 77)→Calls Tryz.prog 118 [ptr n2,.agg (bys (mixL mixB (subL S))),.int .i64 ((m+1:Nat):Int)].toArray w'' (Ret (.agg (bys (addK W (m+1) (mixL mixB (subL S))))) w''):=fun w'' h=>by_c (r:=m+1) w'' hk (by omega) (mixL_ok mixB_lt) h
    haveI:NBy (mixL mixB (subL S)) 16:=⟨mixL_len _ _⟩
    haveI:NBy (addK W (m+1) (mixL mixB (subL S))) 16:=⟨addK_len _ _ _⟩
    repeat' (first|(refine wlS ?_)|(refine wlG ?_)|(refine wlB ?_)|((with_reducible refine sel_call ?_);refine wl_rd rfl rfl (rd_call rfl rfl rfl (fun w hm=>by with_reducible first|exact EC w|exact BY w (Has.sees hm))) ?_)|(refine wlE ?_)|(refine efSvao ?_;intro v oa ho)|(refine efG ?_)|(refine efGnn ?_;intro n hn)|(refine efZCnn ?_;intro n hn)|(refine efBnn ?_;intro n hn)|(refine efB ?_)|(refine efBS ?_)|(refine wl_skip rfl rfl ?_)|((with_reducible refine wc_seq ?_);intro K hK)|(refine auC ?_)|(refine wc_cond rfl (fun hc=>?_) (fun hc=>?_))|(refine wc_draw (by kernel_rfl) (by kernel_rfl) (by decide +kernel) ?_;intro w0 hw0 hm0;(try simp only [List.append_eq,List.cons_append,List.nil_append]))|(refine auP ?_)|((refine auR ?_);clear hK K)|(refine auR ?_)|((with_reducible refine hK _ _ ?_);clear hK K)|fail)
    exact ⟨m+1,hlt,by omega,Fits.of ⟨rfl,rfl,rfl,rfl,trivial⟩ (by rw [hnx];exact .skip (SubL.refl _)) rfl⟩
   ·have t3:decide (((m+1:Nat):Int)<(R:Int))=false:=decide_eq_false (by omega)
    rw [if_neg hr] at hnx
    have BY:∀ w'',w''.heap[n2]? = some (.cells (rwA (sgA W R)) 77)→Calls Tryz.prog 118 [ptr n2,.agg (bys (subL S)),.int .i64 ((m+1:Nat):Int)].toArray w'' (Ret (.agg (bys (addK W (m+1) (subL S)))) w''):=fun w'' h=>by_c (r:=m+1) w'' hk (by omega) hT h
    haveI:NBy (addK W (m+1) (subL S)) 16:=⟨addK_len _ _ _⟩
    repeat' (first|(refine wlS ?_)|(refine wlG ?_)|(refine wlB ?_)|((with_reducible refine sel_call ?_);refine wl_rd rfl rfl (rd_call rfl rfl rfl (fun w hm=>by with_reducible exact BY w (Has.sees hm))) ?_)|(refine wlE ?_)|(refine efSvao ?_;intro v oa ho)|(refine efG ?_)|(refine efGnn ?_;intro n hn)|(refine efZCnn ?_;intro n hn)|(refine efBnn ?_;intro n hn)|(refine efB ?_)|(refine efBS ?_)|(refine wl_skip rfl rfl ?_)|((with_reducible refine wc_seq ?_);intro K hK)|(refine auC ?_)|(refine wc_cond rfl (fun hc=>?_) (fun hc=>?_))|(refine wc_draw (by kernel_rfl) (by kernel_rfl) (by decide +kernel) ?_;intro w0 hw0 hm0;(try simp only [List.append_eq,List.cons_append,List.nil_append]))|(refine auP ?_)|((refine auR ?_);clear hK K)|(refine auR ?_)|((with_reducible refine hK _ _ ?_);clear hK K)|fail)
    exact ⟨m+1,hlt,by omega,Fits.of ⟨rfl,rfl,rfl,rfl,trivial⟩ (by rw [hnx];exact .skip (SubL.refl _)) rfl⟩
 ·obtain rfl:m=R:=by omega
  have t1:decide (((m+1:Nat):Int)≤(m:Int))=false:=decide_eq_false (by omega)
  have he:encL W m b=encN W m b m:=rfl
  rw [he]
  repeat' (first|(refine wlS ?_)|(refine wlG ?_)|(refine wlB ?_)|(refine wlE ?_)|(refine efSvao ?_;intro v oa ho)|(refine efG ?_)|(refine efGnn ?_;intro n hn)|(refine efZCnn ?_;intro n hn)|(refine efBnn ?_;intro n hn)|(refine efB ?_)|(refine efBS ?_)|(refine wl_skip rfl rfl ?_)|((with_reducible refine wc_seq ?_);intro K hK)|(refine auC ?_)|(refine wc_cond rfl (fun hc=>?_) (fun hc=>?_))|(refine wc_draw (by kernel_rfl) (by kernel_rfl) (by decide +kernel) ?_;intro w0 hw0 hm0;(try simp only [List.append_eq,List.cons_append,List.nil_append]))|(refine auP ?_)|((refine auR ?_);clear hK K)|(refine auR ?_)|((with_reducible refine hK _ _ ?_);clear hK K)|fail)
  first|refine end_ret (ResP.cell rfl ld_whole ResP.nil) ?_|refine end_normal (ResP.cell rfl ld_whole ResP.nil) ?_
  first|rfl|(show _=_;rfl)|(simp only [tupV, *];done)
end Go.Proofs.YtkendlnjaopbeaaGreatDoor
namespace Go.Proofs.YtkendlnjaopbeaaGreatDoor
open Go.RowKit
attribute [local irreducible] rwA bys
set_option linter.unusedVariables false
set_option linter.unusedSimpArgs false
set_option maxRecDepth 100000
def unsP (b:List Nat)(i:Nat):List Nat:=(List.range 16).map fun j=>if (j+j % 4 * 12) % 16<i then gunsub (b.getD ((j+j % 4 * 12) % 16) 0) else 0
theorem unsP_len (b:List Nat)(i:Nat):(unsP b i).length=16:=by simp [unsP]
theorem unsP_step (b:List Nat){i:Nat}(hi:i<16):(unsP b i).set ((i+i % 4 * 4) % 16) (gunsub (b.getD i 0))=unsP b (i+1):=by
 refine List.ext_getElem (by simp [unsP]) fun j h1 h2=>?_
 rw [unsP_len] at h2
 rw [List.getElem_set]
 by_cases h:(i+i % 4 * 4) % 16=j
 ·rw [if_pos h]
  have e:(j+j % 4 * 12) % 16=i:=by omega
  simp only [unsP,List.getElem_map,List.getElem_range]
  rw [e,if_pos (by omega)]
 ·rw [if_neg h]
  have e:(j+j % 4 * 12) % 16≠i:=by omega
  simp only [unsP,List.getElem_map,List.getElem_range]
  by_cases hlt:(j+j % 4 * 12) % 16<i
  ·rw [if_pos hlt,if_pos (by omega)]
  ·rw [if_neg hlt,if_neg (by omega)]
theorem unsP_all (b:List Nat):unsP b 16=unsubL b:=by
 unfold unsP unsubL
 refine List.map_congr_left fun j hj=>?_
 rw [if_pos (Nat.mod_lt _ (by decide))]
theorem unsubL_len (b:List Nat):(unsubL b).length=16:=by simp [unsubL]
set_option maxHeartbeats 4000000 in
theorem dec_c (w':World){R:Nat}{W b:List Nat}[hk:AKey W](hR:R≤14)(hb:B16 b) :
  Calls Tryz.prog 128 [kv W R,.agg (bys b)].toArray w' (Ret (.agg (bys (decL W R b))) w'):=by
 have hbl:=hb.len
 have hW:=hk.ok
 haveI:NBy b 16:=⟨hbl⟩
 haveI:SgOk (sgA W R):=inferInstance
 refine fn_ret (N:=_) Tryz.func128 rfl Tryz.ntmps128 Tryz.results128 (by simp) ?_
 simp only [initS,Nat.reduceAdd,Nat.zero_add]
 repeat' (first|(refine wlS ?_)|(refine wlG ?_)|(refine wlB ?_)|(refine wlE ?_)|(refine efSvao ?_;intro v oa ho)|(refine efG ?_)|(refine efGnn ?_;intro n hn)|(refine efZCnn ?_;intro n hn)|(refine efBnn ?_;intro n hn)|(refine efB ?_)|(refine efBS ?_)|(refine wl_skip rfl rfl ?_)|((with_reducible refine wc_seq ?_);intro K hK)|(refine auC ?_)|(refine wc_cond rfl (fun hc=>?_) (fun hc=>?_))|(refine wc_draw (by kernel_rfl) (by kernel_rfl) (by decide +kernel) ?_;intro w0 hw0 hm0;(try simp only [List.append_eq,List.cons_append,List.nil_append]))|(refine auP ?_)|((refine auR ?_);clear hK K)|(refine auR ?_)|((with_reducible refine hK _ _ ?_);clear hK K)|fail)
 rename_i n2 hn2 n3 hn3
 obtain ⟨n4,rfl⟩:∃ n4,n4=n:=⟨n,rfl⟩
 refine wc_loop (σ:=Nat) (fun m=>[(2,ptr n2),(3,ptr n3),(4,ptr n4),(5,.int .i64 ((R - m:Nat):Int))])
  (fun m=>[(n4,(bys (List.replicate 16 0),23)),(n3,(bys (decN W R b m),23)),(n2,(rwA (sgA W R),77))])
  (fun m=>m≤R) (fun m=>R - m) 0 (Nat.zero_le _) (Fits.of ⟨rfl,rfl,rfl,rfl,trivial⟩ (SubL.refl _) rfl) ?_
 intro m hmR
 have hS:=decN_ok hW hb m (R:=R)
 haveI:NBy (decN W R b m) 16:=⟨hS.len⟩
 by_cases hlt:m<R
 ·have t1:decide (((R - m:Nat):Int)≥1)=true:=decide_eq_true (by omega)
  have k1:IntKind.i64.wrap (((R - m:Nat):Int) - 1)=((R - (m+1):Nat):Int):=by rw [wrap_i64 _ (by omega) (by omega)];omega
  have hnx:decN W R b (m+1)=unsubL (if R - m<R then mixL unB (addK W (R - m) (decN W R b m)) else addK W (R - m) (decN W R b m)):=rfl
  generalize decN W R b m=S at *
  have BY:∀ w'',w''.heap[n2]? = some (.cells (rwA (sgA W R)) 77)→Calls Tryz.prog 118 [ptr n2,.agg (bys S),.int .i64 ((R - m:Nat):Int)].toArray w'' (Ret (.agg (bys (addK W (R - m) S))) w''):=fun w'' h=>by_c (r:=R - m) w'' hk (by omega) hS h
  have hT:=addK_ok hW hS (r:=R - m)
  haveI:NBy (addK W (R - m) S) 16:=⟨hT.len⟩
  have EC:=fun w=>each_c w (F:=129) hT unB_lt (fun x0 x1 x2 x3=>unmix_l x0 x1 x2 x3) (by kernel_rfl)
  haveI:NBy (mixL unB (addK W (R - m) S)) 16:=⟨mixL_len _ _⟩
  by_cases hr:R - m<R
  ·have t3:decide (((R - m:Nat):Int)<(R:Int))=true:=decide_eq_true (by omega)
   rw [if_pos hr] at hnx
   have hU:B16 (mixL unB (addK W (R - m) S)):=mixL_ok unB_lt
   repeat' (first|(refine wlS ?_)|(refine wlG ?_)|(refine wlB ?_)|((with_reducible refine sel_call ?_);refine wl_rd rfl rfl (rd_call rfl rfl rfl (fun w hm=>by with_reducible first|exact EC w|exact BY w (Has.sees hm))) ?_)|(refine wlE ?_)|(refine efSvao ?_;intro v oa ho)|(refine efG ?_)|(refine efGnn ?_;intro n hn)|(refine efZCnn ?_;intro n hn)|(refine efBnn ?_;intro n hn)|(refine efB ?_)|(refine efBS ?_)|(refine wl_skip rfl rfl ?_)|((with_reducible refine wc_seq ?_);intro K hK)|(refine auC ?_)|(refine wc_cond rfl (fun hc=>?_) (fun hc=>?_))|(refine wc_draw (by kernel_rfl) (by kernel_rfl) (by decide +kernel) ?_;intro w0 hw0 hm0;(try simp only [List.append_eq,List.cons_append,List.nil_append]))|(refine auP ?_)|((refine auR ?_);clear hK K)|(refine auR ?_)|((with_reducible refine hK _ _ ?_);clear hK K)|fail)
   obtain ⟨n6,rfl⟩:∃ n6,n6=n:=⟨n,rfl⟩
   generalize mixL unB (addK W (R - m) S)=U at *
   have hs0:unsP U 0=List.replicate 16 0:=by
    unfold unsP
    simp only [Nat.not_lt_zero,if_false]
    rfl
   refine wc_loop (σ:=Nat) (fun i=>[(2,ptr n2),(3,ptr n3),(4,ptr n4),(5,.int .i64 ((R - m:Nat):Int)),(6,ptr n6),(23,.int .i64 (i:Int))])
    (fun i=>[(n6,(bys (unsP U i),23)),(n4,(bys (List.replicate 16 0),23)),(n3,(bys U,23)),(n2,(rwA (sgA W R),77))])
    (fun i=>i≤16) (fun i=>16 - i) 0 (Nat.zero_le _) (Fits.of ⟨rfl,rfl,rfl,rfl,rfl,rfl,trivial⟩ (by rw [hs0];exact SubL.refl _) rfl) ?_
   intro i hi
   haveI:NBy (unsP U i) 16:=⟨unsP_len U i⟩
   by_cases hit:i<16
   ·have t2:decide ((i:Int)<16)=true:=decide_eq_true (by omega)
    have k2:IntKind.i64.wrap ((i:Int)+1)=((i+1:Nat):Int):=by rw [wrap_i64 _ (by omega) (by omega)];omega
    have k3:(i:Int).tmod 4=((i % 4:Nat):Int):=by rw [Int.tmod_eq_emod_of_nonneg (by omega)];omega
    have k4:IntKind.i64.wrap (((i % 4:Nat):Int) * 4)=((i % 4 * 4:Nat):Int):=by rw [wrap_i64 _ (by omega) (by omega)];omega
    have k5:IntKind.i64.wrap ((i:Int)+((i % 4 * 4:Nat):Int))=((i+i % 4 * 4:Nat):Int):=by rw [wrap_i64 _ (by omega) (by omega)];omega
    have k6:((i+i % 4 * 4:Nat):Int).tmod 16=(((i+i % 4 * 4) % 16:Nat):Int):=by rw [Int.tmod_eq_emod_of_nonneg (by omega)];omega
    have j1:(((i+i % 4 * 4) % 16:Nat):Int)<((16:Nat):Int):=by omega
    have j2:(i:Int)<((16:Nat):Int):=by omega
    have gv:=bys_get (l:=U) (i:=i) (by rw [hU.len];omega)
    have SU:=unsub_gf (U.getD i 0) (hU.lt _)
    have st:=unsP_step U hit
    repeat' (first|(refine wlS ?_)|(refine wlG ?_)|(refine wlB ?_)|((with_reducible refine sel_call ?_);refine wl_rd rfl rfl (rd_call rfl rfl rfl (fun w hm=>by with_reducible exact SU w)) ?_)|(refine wlE ?_)|(refine efSvao ?_;intro v oa ho)|(refine efG ?_)|(refine efGnn ?_;intro n hn)|(refine efBnn ?_;intro n hn)|(refine efB ?_)|(refine efBS ?_)|(refine wl_skip rfl rfl ?_)|((with_reducible refine wc_seq ?_);intro K hK)|(refine auC ?_)|(refine wc_cond rfl (fun hc=>?_) (fun hc=>?_))|(refine wc_draw (by kernel_rfl) (by kernel_rfl) (by decide +kernel) ?_;intro w0 hw0 hm0;(try simp only [List.append_eq,List.cons_append,List.nil_append]))|(refine auP ?_)|((refine auR ?_);clear hK K)|(refine auR ?_)|((with_reducible refine hK _ _ ?_);clear hK K)|fail)
    exact ⟨i+1,hit,by omega,Fits.of ⟨rfl,rfl,rfl,rfl,rfl,rfl,trivial⟩ (by rw [←st];exact SubL.refl _) rfl⟩
   ·obtain rfl:i=16:=by omega
    have t2:decide (((16:Nat):Int)<16)=false:=by decide
    rw [unsP_all]
    haveI:NBy (unsubL U) 16:=⟨unsubL_len _⟩
    repeat' (first|(refine wlS ?_)|(refine wlG ?_)|(refine wlB ?_)|(refine wlE ?_)|(refine efSvao ?_;intro v oa ho)|(refine efG ?_)|(refine efGnn ?_;intro n hn)|(refine efZCnn ?_;intro n hn)|(refine efBnn ?_;intro n hn)|(refine efB ?_)|(refine efBS ?_)|(refine wl_skip rfl rfl ?_)|((with_reducible refine wc_seq ?_);intro K hK)|(refine auC ?_)|(refine wc_cond rfl (fun hc=>?_) (fun hc=>?_))|(refine wc_draw (by kernel_rfl) (by kernel_rfl) (by decide +kernel) ?_;intro w0 hw0 hm0;(try simp only [List.append_eq,List.cons_append,List.nil_append]))|(refine auP ?_)|((refine auR ?_);clear hK K)|(refine auR ?_)|((with_reducible refine hK _ _ ?_);clear hK K)|fail)
    exact ⟨m+1,hlt,by omega,Fits.of ⟨rfl,rfl,rfl,rfl,trivial⟩ (by rw [hnx];exact .skip (SubL.refl _)) rfl⟩
  ·have t3:decide (((R - m:Nat):Int)<(R:Int))=false:=decide_eq_false (by omega)
   rw [if_neg hr] at hnx
   have hU:=hT
   repeat' (first|(refine wlS ?_)|(refine wlG ?_)|(refine wlB ?_)|((with_reducible refine sel_call ?_);refine wl_rd rfl rfl (rd_call rfl rfl rfl (fun w hm=>by with_reducible exact BY w (Has.sees hm))) ?_)|(refine wlE ?_)|(refine efSvao ?_;intro v oa ho)|(refine efG ?_)|(refine efGnn ?_;intro n hn)|(refine efZCnn ?_;intro n hn)|(refine efBnn ?_;intro n hn)|(refine efB ?_)|(refine efBS ?_)|(refine wl_skip rfl rfl ?_)|((with_reducible refine wc_seq ?_);intro K hK)|(refine auC ?_)|(refine wc_cond rfl (fun hc=>?_) (fun hc=>?_))|(refine wc_draw (by kernel_rfl) (by kernel_rfl) (by decide +kernel) ?_;intro w0 hw0 hm0;(try simp only [List.append_eq,List.cons_append,List.nil_append]))|(refine auP ?_)|((refine auR ?_);clear hK K)|(refine auR ?_)|((with_reducible refine hK _ _ ?_);clear hK K)|fail)
   obtain ⟨n6,rfl⟩:∃ n6,n6=n:=⟨n,rfl⟩
   generalize addK W (R - m) S=U at *
   have hs0:unsP U 0=List.replicate 16 0:=by
    unfold unsP
    simp only [Nat.not_lt_zero,if_false]
    rfl
   refine wc_loop (σ:=Nat) (fun i=>[(2,ptr n2),(3,ptr n3),(4,ptr n4),(5,.int .i64 ((R - m:Nat):Int)),(6,ptr n6),(23,.int .i64 (i:Int))])
    (fun i=>[(n6,(bys (unsP U i),23)),(n4,(bys (List.replicate 16 0),23)),(n3,(bys U,23)),(n2,(rwA (sgA W R),77))])
    (fun i=>i≤16) (fun i=>16 - i) 0 (Nat.zero_le _) (Fits.of ⟨rfl,rfl,rfl,rfl,rfl,rfl,trivial⟩ (by rw [hs0];exact SubL.refl _) rfl) ?_
   intro i hi
   haveI:NBy (unsP U i) 16:=⟨unsP_len U i⟩
   by_cases hit:i<16
   ·have t2:decide ((i:Int)<16)=true:=decide_eq_true (by omega)
    have k2:IntKind.i64.wrap ((i:Int)+1)=((i+1:Nat):Int):=by rw [wrap_i64 _ (by omega) (by omega)];omega
    have k3:(i:Int).tmod 4=((i % 4:Nat):Int):=by rw [Int.tmod_eq_emod_of_nonneg (by omega)];omega
    have k4:IntKind.i64.wrap (((i % 4:Nat):Int) * 4)=((i % 4 * 4:Nat):Int):=by rw [wrap_i64 _ (by omega) (by omega)];omega
    have k5:IntKind.i64.wrap ((i:Int)+((i % 4 * 4:Nat):Int))=((i+i % 4 * 4:Nat):Int):=by rw [wrap_i64 _ (by omega) (by omega)];omega
    have k6:((i+i % 4 * 4:Nat):Int).tmod 16=(((i+i % 4 * 4) % 16:Nat):Int):=by rw [Int.tmod_eq_emod_of_nonneg (by omega)];omega
    have j1:(((i+i % 4 * 4) % 16:Nat):Int)<((16:Nat):Int):=by omega
    have j2:(i:Int)<((16:Nat):Int):=by omega
    have gv:=bys_get (l:=U) (i:=i) (by rw [hU.len];omega)
    have SU:=unsub_gf (U.getD i 0) (hU.lt _)
    have st:=unsP_step U hit
    repeat' (first|(refine wlS ?_)|(refine wlG ?_)|(refine wlB ?_)|((with_reducible refine sel_call ?_);refine wl_rd rfl rfl (rd_call rfl rfl rfl (fun w hm=>by with_reducible exact SU w)) ?_)|(refine wlE ?_)|(refine efSvao ?_;intro v oa ho)|(refine efG ?_)|(refine efGnn ?_;intro n hn)|(refine efBnn ?_;intro n hn)|(refine efB ?_)|(refine efBS ?_)|(refine wl_skip rfl rfl ?_)|((with_reducible refine wc_seq ?_);intro K hK)|(refine auC ?_)|(refine wc_cond rfl (fun hc=>?_) (fun hc=>?_))|(refine wc_draw (by kernel_rfl) (by kernel_rfl) (by decide +kernel) ?_;intro w0 hw0 hm0;(try simp only [List.append_eq,List.cons_append,List.nil_append]))|(refine auP ?_)|((refine auR ?_);clear hK K)|(refine auR ?_)|((with_reducible refine hK _ _ ?_);clear hK K)|fail)
    exact ⟨i+1,hit,by omega,Fits.of ⟨rfl,rfl,rfl,rfl,rfl,rfl,trivial⟩ (by rw [←st];exact SubL.refl _) rfl⟩
   ·obtain rfl:i=16:=by omega
    have t2:decide (((16:Nat):Int)<16)=false:=by decide
    rw [unsP_all]
    haveI:NBy (unsubL U) 16:=⟨unsubL_len _⟩
    repeat' (first|(refine wlS ?_)|(refine wlG ?_)|(refine wlB ?_)|(refine wlE ?_)|(refine efSvao ?_;intro v oa ho)|(refine efG ?_)|(refine efGnn ?_;intro n hn)|(refine efZCnn ?_;intro n hn)|(refine efBnn ?_;intro n hn)|(refine efB ?_)|(refine efBS ?_)|(refine wl_skip rfl rfl ?_)|((with_reducible refine wc_seq ?_);intro K hK)|(refine auC ?_)|(refine wc_cond rfl (fun hc=>?_) (fun hc=>?_))|(refine wc_draw (by kernel_rfl) (by kernel_rfl) (by decide +kernel) ?_;intro w0 hw0 hm0;(try simp only [List.append_eq,List.cons_append,List.nil_append]))|(refine auP ?_)|((refine auR ?_);clear hK K)|(refine auR ?_)|((with_reducible refine hK _ _ ?_);clear hK K)|fail)
    exact ⟨m+1,hlt,by omega,Fits.of ⟨rfl,rfl,rfl,rfl,trivial⟩ (by rw [hnx];exact .skip (SubL.refl _)) rfl⟩
 ·obtain rfl:m=R:=by omega
  have t1:decide (((m - m:Nat):Int)≥1)=false:=decide_eq_false (by omega)
  have he:decL W m b=addK W 0 (decN W m b m):=rfl
  have BY0:∀ w'',w''.heap[n2]? = some (.cells (rwA (sgA W m)) 77)→Calls Tryz.prog 118 [ptr n2,.agg (bys (decN W m b m)),.int .i64 0].toArray w'' (Ret (.agg (bys (addK W 0 (decN W m b m)))) w''):=fun w'' h=>by_c (r:=0) w'' hk (by omega) hS h
  haveI:NBy (addK W 0 (decN W m b m)) 16:=⟨addK_len _ _ _⟩
  rw [he]
  repeat' (first|(refine wlS ?_)|(refine wlG ?_)|(refine wlB ?_)|((with_reducible refine sel_call ?_);refine wl_rd rfl rfl (rd_call rfl rfl rfl (fun w hm=>by with_reducible exact BY0 w (Has.sees hm))) ?_)|(refine wlE ?_)|(refine efSvao ?_;intro v oa ho)|(refine efG ?_)|(refine efGnn ?_;intro n hn)|(refine efZCnn ?_;intro n hn)|(refine efBnn ?_;intro n hn)|(refine efB ?_)|(refine efBS ?_)|(refine wl_skip rfl rfl ?_)|((with_reducible refine wc_seq ?_);intro K hK)|(refine auC ?_)|(refine wc_cond rfl (fun hc=>?_) (fun hc=>?_))|(refine wc_draw (by kernel_rfl) (by kernel_rfl) (by decide +kernel) ?_;intro w0 hw0 hm0;(try simp only [List.append_eq,List.cons_append,List.nil_append]))|(refine auP ?_)|((refine auR ?_);clear hK K)|(refine auR ?_)|((with_reducible refine hK _ _ ?_);clear hK K)|fail)
  first|refine end_ret (ResP.cell rfl ld_whole ResP.nil) ?_|refine end_normal (ResP.cell rfl ld_whole ResP.nil) ?_
  first|rfl|(show _=_;rfl)|(simp only [tupV, *];done)
end Go.Proofs.YtkendlnjaopbeaaGreatDoor
namespace Go.Proofs.YtkendlnjaopbeaaGreatDoor
open Go.RowKit
attribute [local irreducible] rwA bys
set_option linter.unusedVariables false
set_option linter.unusedSimpArgs false
set_option maxRecDepth 100000
instance (priority:=3000) zc4s:ZC Tryz.prog 74 (bys (List.replicate 4 0)):=zc4
def subQ (l:List Nat)(i:Nat):List Nat:=(l.map gsub).take i++l.drop i
theorem subQ_len {l:List Nat}(h:l.length=4){i:Nat}(hi:i≤4):(subQ l i).length=4:=by
 rw [subQ,List.length_append,List.length_take,List.length_map,List.length_drop,h];omega
theorem subQ_get {l:List Nat}(h:l.length=4){i:Nat}(hi:i<4):(subQ l i).getD i 0=l.getD i 0:=by
 rw [subQ,List.getD_eq_getElem?_getD,List.getElem?_append_right (by rw [List.length_take,List.length_map];omega),List.length_take,List.length_map,Nat.min_eq_left (by omega),Nat.sub_self,List.getElem?_drop,Nat.add_zero,List.getD_eq_getElem?_getD]
theorem subQ_step {l:List Nat}(h:l.length=4){i:Nat}(hi:i<4):(subQ l i).set i (gsub (l.getD i 0))=subQ l (i+1):=by
 have e1:l.drop i=l.getD i 0::l.drop (i+1):=by rw [List.drop_eq_getElem_cons (by omega)];simp [List.getD,(by omega:i<l.length)]
 have e2:(l.map gsub).take (i+1)=(l.map gsub).take i++[gsub (l.getD i 0)]:=by
  have hg:(l.map gsub)[i]? = some (gsub (l.getD i 0)):=by simp [List.getD,(by omega:i<l.length)]
  rw [List.take_add_one,hg];rfl
 rw [subQ,List.set_append_right _ _ (by rw [List.length_take,List.length_map];omega),List.length_take,List.length_map,Nat.min_eq_left (by omega),Nat.sub_self,e1,List.set_cons_zero,subQ,e2,List.append_assoc]
 rfl
theorem subQ_all {l:List Nat}(h:l.length=4):subQ l 4=l.map gsub:=by
 rw [subQ,List.take_of_length_le (by rw [List.length_map];omega),List.drop_of_length_le (by omega),List.append_nil]
set_option maxHeartbeats 2000000 in
theorem subbed_c (w':World){l:List Nat}(hl:l.length=4)(hb:∀ j,l.getD j 0<256):Calls Tryz.prog 34 [.agg (bys l)].toArray w' (Ret (.agg (bys (l.map gsub))) w'):=by
 haveI:NBy l 4:=⟨hl⟩
 have h0:subQ l 0=l:=by simp [subQ]
 refine fn_ret (N:=_) Tryz.func34 rfl Tryz.ntmps34 Tryz.results34 (by simp) ?_
 simp only [initS,Nat.reduceAdd,Nat.zero_add]
 repeat' (first|(refine wlS ?_)|(refine wlB ?_)|(refine wlE ?_)|(refine efSvao ?_;intro v oa ho)|(refine efZCnn ?_;intro n hn)|(refine efBnn ?_;intro n hn)|(refine efB ?_)|(refine efBS ?_)|(refine wl_skip rfl rfl ?_)|((with_reducible refine wc_seq ?_);intro K hK)|(refine auC ?_)|(refine wc_cond rfl (fun hc=>?_) (fun hc=>?_))|(refine wc_draw (by kernel_rfl) (by kernel_rfl) (by decide +kernel) ?_;intro w0 hw0 hm0;(try simp only [List.append_eq,List.cons_append,List.nil_append]))|(refine auP ?_)|((refine auR ?_);clear hK K)|(refine auR ?_)|((with_reducible refine hK _ _ ?_);clear hK K)|fail)
 rename_i n1 hn1
 refine wc_loop (σ:=Nat) (fun i=>[(1,ptr n1),(2,ptr n),(4,.int .i64 (i:Int))])
  (fun i=>[(n,(bys (List.replicate 4 0),74)),(n1,(bys (subQ l i),74))])
  (fun i=>i≤4) (fun i=>4 - i) 0 (Nat.zero_le _) (Fits.of ⟨rfl,rfl,rfl,trivial⟩ (by rw [h0];exact SubL.refl _) rfl) ?_
 intro i hi
 haveI:NBy (subQ l i) 4:=⟨subQ_len hl hi⟩
 by_cases hlt:i<4
 ·have t1:decide ((i:Int)<4)=true:=decide_eq_true (by omega)
  have k1:IntKind.i64.wrap ((i:Int)+1)=((i+1:Nat):Int):=by rw [wrap_i64 _ (by omega) (by omega)];omega
  have j1:(i:Int)<((4:Nat):Int):=by omega
  have gv:=bys_get (l:=subQ l i) (i:=i) (by rw [subQ_len hl hi];omega)
  rw [subQ_get hl hlt] at gv
  have SU:=sub_gf (l.getD i 0) (hb _)
  have st:=subQ_step hl hlt
  repeat' (first|(refine wlS ?_)|(refine wlB ?_)|((with_reducible refine sel_call ?_);refine wl_rd rfl rfl (rd_call rfl rfl rfl (fun w hm=>by with_reducible exact SU w)) ?_)|(refine wlE ?_)|(refine efSvao ?_;intro v oa ho)|(refine efBnn ?_;intro n hn)|(refine efB ?_)|(refine efBS ?_)|(refine wl_skip rfl rfl ?_)|((with_reducible refine wc_seq ?_);intro K hK)|(refine auC ?_)|(refine wc_cond rfl (fun hc=>?_) (fun hc=>?_))|(refine wc_draw (by kernel_rfl) (by kernel_rfl) (by decide +kernel) ?_;intro w0 hw0 hm0;(try simp only [List.append_eq,List.cons_append,List.nil_append]))|(refine auP ?_)|((refine auR ?_);clear hK K)|(refine auR ?_)|((with_reducible refine hK _ _ ?_);clear hK K)|fail)
  exact ⟨i+1,hlt,by omega,Fits.of ⟨rfl,rfl,rfl,trivial⟩ (by rw [←st];exact SubL.refl _) rfl⟩
 ·obtain rfl:i=4:=by omega
  have t1:decide (((4:Nat):Int)<4)=false:=by decide
  rw [subQ_all hl]
  haveI:NBy (l.map gsub) 4:=⟨by rw [List.length_map];exact hl⟩
  repeat' (first|(refine wlS ?_)|(refine wlB ?_)|(refine wlE ?_)|(refine efSvao ?_;intro v oa ho)|(refine efZCnn ?_;intro n hn)|(refine efBnn ?_;intro n hn)|(refine efB ?_)|(refine efBS ?_)|(refine wl_skip rfl rfl ?_)|((with_reducible refine wc_seq ?_);intro K hK)|(refine auC ?_)|(refine wc_cond rfl (fun hc=>?_) (fun hc=>?_))|(refine wc_draw (by kernel_rfl) (by kernel_rfl) (by decide +kernel) ?_;intro w0 hw0 hm0;(try simp only [List.append_eq,List.cons_append,List.nil_append]))|(refine auP ?_)|((refine auR ?_);clear hK K)|(refine auR ?_)|((with_reducible refine hK _ _ ?_);clear hK K)|fail)
  first|refine end_ret (ResP.cell rfl ld_whole ResP.nil) ?_|refine end_normal (ResP.cell rfl ld_whole ResP.nil) ?_
  first|rfl|(show _=_;rfl)|(simp only [tupV, *];done)
end Go.Proofs.YtkendlnjaopbeaaGreatDoor
namespace Go.Proofs.YtkendlnjaopbeaaGreatDoor
open Go.RowKit
set_option linter.unusedVariables false
set_option linter.unusedSimpArgs false
set_option maxRecDepth 100000
def pad (l:List Nat):List Nat:=l++List.replicate (240 - l.length) 0
theorem pad_len {l:List Nat}(h:l.length≤240):(pad l).length=240:=by rw [pad,List.length_append,List.length_replicate];omega
theorem pad_get {l:List Nat}{j:Nat}(h:j<l.length):(pad l).getD j 0=l.getD j 0:=by
 rw [pad,List.getD_eq_getElem?_getD,List.getElem?_append_left h,List.getD_eq_getElem?_getD]
theorem pad_set {l:List Nat}{x:Nat}(h:l.length<240):(pad l).set l.length x=pad (l++[x]):=by
 rw [pad,List.set_append_right _ _ (Nat.le_refl _),Nat.sub_self,pad,List.length_append,List.length_singleton,show 240 - l.length=240 - (l.length+1)+1 by omega,List.replicate_succ,List.set_cons_zero,List.append_assoc]
 rfl
theorem pad_app {l q:List Nat}{k:Nat}(hq:q.length=k)(h:l.length+k≤240):(pad l).take l.length++(q.take k++(pad l).drop (l.length+k))=pad (l++q):=by
 rw [pad,List.take_left,List.take_of_length_le (by omega),List.drop_append,List.drop_of_length_le (by omega),List.nil_append,pad,List.append_assoc,List.length_append,hq,List.drop_replicate]
 congr 3
 omega
def wdAt (ws:List Nat)(i:Nat):List Nat:=(ws.drop (4 * i)).take 4
theorem wdAt_len {ws:List Nat}{i:Nat}(h:4 * i+4≤ws.length):(wdAt ws i).length=4:=by rw [wdAt,List.length_take,List.length_drop];omega
theorem wdAt_get {ws:List Nat}{i j:Nat}(hj:j<4):(wdAt ws i).getD j 0=ws.getD (4 * i+j) 0:=by
 rw [wdAt,List.getD_eq_getElem?_getD,List.getElem?_take_of_lt hj,List.getElem?_drop,List.getD_eq_getElem?_getD]
def wdRot (t:List Nat)(x:Nat):List Nat:=[gsub (t.getD 1 0) ^^^ x,gsub (t.getD 2 0),gsub (t.getD 3 0),gsub (t.getD 0 0)]
def wdTurn (n i:Nat)(t:List Nat):List Nat:=
 if i % n=0 then wdRot t (npow 2 (i / n - 1)) else if n=8∧i % 8=4 then t.map gsub else t
def xor4 (a b:List Nat):List Nat:=(List.range 4).map fun j=>a.getD j 0 ^^^ b.getD j 0
theorem xor4_len (a b:List Nat):(xor4 a b).length=4:=by simp [xor4]
theorem xor4_get {a b:List Nat}{j:Nat}(hj:j<4):(xor4 a b)[j]? = some (a.getD j 0 ^^^ b.getD j 0):=by simp [xor4,hj]
theorem xor4_step {a b:List Nat}{j:Nat}(hj:j<4):(xor4 a b).take (j+1)=(xor4 a b).take j++[a.getD j 0 ^^^ b.getD j 0]:=by
 rw [List.take_add_one,xor4_get hj];rfl
def expN (n:Nat)(key:List Nat):Nat→List Nat
 | 0=>[]
 | i+1=>expN n key i++(if i<n then wdAt key i else xor4 (wdAt (expN n key i) (i - n)) (wdTurn n i (wdAt (expN n key i) (i - 1))))
def bys8 (l:List Nat):Prop:=∀ x∈l,x<256
theorem bys8.get {l:List Nat}(h:bys8 l)(i:Nat):l.getD i 0<256:=by
 rw [List.getD_eq_getElem?_getD]
 cases hx:l[i]? with
 | none=>simp
 | some x=>exact h x (List.mem_of_getElem? hx)
theorem bys8.app {a b:List Nat}(h:bys8 a)(h':bys8 b):bys8 (a++b):=fun x hx=>(List.mem_append.1 hx).elim (h x) (h' x)
theorem bys8.wd {l:List Nat}(h:bys8 l)(i:Nat):bys8 (wdAt l i):=fun x hx=>h x (List.mem_of_mem_drop (List.mem_of_mem_take hx))
theorem npow2_lt (k:Nat):npow 2 k<256:=npow_lt k (by decide)
theorem bys8.rot {t:List Nat}(h:bys8 t){x:Nat}(hx:x<256):bys8 (wdRot t x):=fun y hy=>by
 simp only [wdRot,List.mem_cons,List.not_mem_nil,or_false] at hy
 rcases hy with rfl|rfl|rfl|rfl
 ·exact xor_lt (gsub_lt _ (h.get _)) hx
 all_goals exact gsub_lt _ (h.get _)
theorem bys8.turn {t:List Nat}(h:bys8 t)(n i:Nat):bys8 (wdTurn n i t):=by
 unfold wdTurn
 split
 ·exact h.rot (npow2_lt _)
 ·split
  ·intro y hy
   obtain ⟨x,hx,rfl⟩:=List.mem_map.1 hy
   exact gsub_lt _ (h x hx)
  ·exact h
theorem bys8.xor4 {a b:List Nat}(h:bys8 a)(h':bys8 b):bys8 (xor4 a b):=fun y hy=>by
 obtain ⟨j,_,rfl⟩:=List.mem_map.1 hy
 exact xor_lt (h.get _) (h'.get _)
theorem wdTurn_len {n i:Nat}{t:List Nat}(h:t.length=4):(wdTurn n i t).length=4:=by
 unfold wdTurn
 split
 ·rfl
 ·split
  ·rw [List.length_map,h]
  ·exact h
theorem expN_ok {n:Nat}{key:List Nat}(hk:key.length=4 * n)(hb:bys8 key)(hn:0<n):∀ i,(expN n key i).length=4 * i∧bys8 (expN n key i)
 | 0=>⟨rfl,fun x hx=>by cases hx⟩
 | i+1=>by
  obtain ⟨h1,h2⟩:=expN_ok hk hb hn i
  rw [expN]
  split
  ·exact ⟨by rw [List.length_append,h1,wdAt_len (by omega)];omega,h2.app (hb.wd i)⟩
  ·exact ⟨by rw [List.length_append,h1,xor4_len];omega,h2.app ((h2.wd _).xor4 ((h2.wd _).turn n i))⟩
def expW (n:Nat)(key:List Nat):List Nat:=pad (expN n key (4 * (n+7)))
theorem expW_ok {n:Nat}{key:List Nat}(hk:key.length=4 * n)(hb:bys8 key)(hn:0<n)(hn8:n≤8):AKey (expW n key):=by
 obtain ⟨h1,h2⟩:=expN_ok hk hb hn (4 * (n+7))
 refine ⟨pad_len (by omega),fun x hx=>?_⟩
 rcases List.mem_append.1 hx with h|h
 ·exact h2 x h
 ·rw [(List.mem_replicate.1 h).2];decide
end Go.Proofs.YtkendlnjaopbeaaGreatDoor
namespace Go.Proofs.YtkendlnjaopbeaaGreatDoor
open Go.RowKit
set_option linter.unusedVariables false
set_option linter.unusedSimpArgs false
def putsH (pl:List (Nat×Nat)):Sg→List (Nat×Value)→Option Sg
 | g,[]=>some g
 | g,(i,v)::r=>match pl[i]? with
  | none=>none
  | some q=>match putG g q.1 q.2 v.cells with
   | some g'=>putsH pl g' r
   | none=>none
theorem putsH_spec {pl:List (Nat×Nat)}:∀ {vs:List (Nat×Value)} {g g':Sg},SgOk g→(∀ p∈vs,p.2.cells.all (·.oneCell')=true)→(∀ p∈vs,∀ q,pl[p.1]? = some q→p.2.cells.size=q.2)→putsH pl g vs=some g'→fillC (fun i=>pl[i]?) (rwL g) vs=some (rwL g')∧SgOk g'
 | [],g,g',hok,_,_,h=>by cases h;exact ⟨rfl,hok⟩
 | (i,v)::r,g,g',hok,h1,h2,h=>by
  unfold putsH at h
  unfold fillC
  cases hp:pl[i]? with
  | none=>simp [hp] at h
  | some q=>
   simp only [hp] at h ⊢
   have c:v.cells.size=q.2:=h2 (i,v) (by simp) q hp
   cases hg:putG g q.1 q.2 v.cells with
   | none=>rw [hg] at h;cases h
   | some g1=>
    rw [hg] at h
    simp only at h
    obtain ⟨e1,e2,e3,e4⟩:=putG_spec hok c (h1 (i,v) (by simp)) hg
    have hb:Nat.ble (q.1+q.2) (rwL g).length=true:=Nat.ble_eq_true_of_le (by rw [rwL_len hok];exact e4)
    have c':(v.cells.size == q.2)=true:=by simp [c]
    rw [c',hb,Bool.and_self,cond_true,e1]
    exact putsH_spec e2 (fun p hp=>h1 p (by simp [hp])) (fun p hp=>h2 p (by simp [hp])) h
section
variable {X:Cx}{s:Slots}{l:Blks}{o:Oper}{v:Value}
theorem all_one {v:Value}(h:v.oneCell'=true):v.cells.all (·.oneCell')=true:=by rw [one_cells h];simpa using h
theorem rd_buildH {t:Nat}{ps:Array (Nat×Operand)}{vs:List (Nat×Value)}{pl:List (Nat×Nat)}{g0 g g':Sg}(ho:o.op=.build t ps)(hx:valsP s ps.toList=some vs)[ht:SP X.P t pl][hz:ZG X.P t g0]
  (hc:putsH pl g0 vs=some g:=by rfl) (hg:g=g':=by (try dsimp only [Value.cells]);first|done|exact rfl) (h1:∀ p∈vs,p.2.cells.all (·.oneCell')=true:=by (simp only [List.forall_mem_cons,List.not_mem_nil,false_imp_iff,implies_true,and_true];(repeat' apply And.intro) <;> first|(dsimp only [Value.cells];exact Cells.one)|exact all_one rfl|rfl))
  (h2:∀ p∈vs,∀ q,pl[p.1]? = some q→p.2.cells.size=q.2:=by (simp only [List.forall_mem_cons,List.not_mem_nil,false_imp_iff,implies_true,and_true];(repeat' apply And.intro) <;> (intro q hq;obtain rfl:=Option.some.inj hq;first|(dsimp only [Value.cells];exact Cells.size)|rfl))):RdV X s l o (.agg (rwA g')):=by
 subst hg
 haveI:ZR X.P t (.agg (rwA g0)):=⟨hz.out⟩
 exact rd_buildS ho hx (by rw [rwA];exact (putsH_spec hz.ok h1 h2 hc).1)
end
end Go.Proofs.YtkendlnjaopbeaaGreatDoor
namespace Go.Proofs.YtkendlnjaopbeaaGreatDoor
open Go.RowKit
set_option linter.unusedVariables false
set_option linter.unusedSimpArgs false
section
variable {X:Cx}{l:Blks}
theorem ld_sgB {t b off k e p m j:Nat}{g:Sg}{q cs:List Nat}[hu:KD X.P t true][hs:SZ X.P t k][hok:SgOk g](hh:Has X l b (rwA g,e):=by first|(with_reducible assumption)|(refine Has.inn ?_;repeat (first|exact Inn.here|apply Inn.there|apply Inn.skipA)))(ha:atL g p m=some (bys q):=by rfl)(ho:p+j=off:=by first|(with_reducible assumption)|rfl|omega)
  (hv:(q.drop j).take k=cs:=by first|(with_reducible assumption)) (hj:j+k≤m:=by first|(with_reducible assumption)|omega):Ld X l t b off (.agg (bys cs)):=
 ld_sgR (cs:=bl cs) hh ha ho (by rw [←hv,bys,List.toList_toArray,bl_drop,bl_take]) hj
end
end Go.Proofs.YtkendlnjaopbeaaGreatDoor
