/- The package aes,walked: subbed. The schedule of keys,in plain Lean. Structs that are built of their fields,as rows of segments. Bytes of a segment of bytes,read as a row. -/
import Derived.Test.YtkendlnjaopbeaaGreatDoorAesD
import Derived.Test.YtkendlnjaopbeaaGreatDoorJnAC
import Derived.Test.YtkendlnjaopbeaaGreatDoorJnAD
namespace Go.Proofs.YtkendlnjaopbeaaGreatDoor
open Go.RowKit
attribute [local irreducible] rwA bys
set_option linter.unusedVariables false
set_option linter.unusedSimpArgs false
set_option maxRecDepth 100000
instance (priority:=3000) zc4s:ZC Tryz.prog 74 (bys (List.replicate 4 0)):=zc4
def subQ (l:List Nat)(i:Nat):List Nat:=(l.map gsub).take i++l.drop i
theorem subQ_len {l:List Nat}(h:l.length=4){i:Nat}(hi:i≤4):(subQ l i).length=4:=by
 rw [subQ,List.length_append,List.length_take,List.length_map,List.length_drop,h];omega
theorem subQ_get {l:List Nat}(h:l.length=4){i:Nat}(hi:i<4):(subQ l i).getD i 0=l.getD i 0:=by
 rw [subQ,List.getD_eq_getElem?_getD,List.getElem?_append_right (by rw [List.length_take,List.length_map];omega),List.length_take,List.length_map,Nat.min_eq_left (by omega),Nat.sub_self,List.getElem?_drop,Nat.add_zero,List.getD_eq_getElem?_getD]
theorem subQ_step {l:List Nat}(h:l.length=4){i:Nat}(hi:i<4):(subQ l i).set i (gsub (l.getD i 0))=subQ l (i+1):=by
 have e1:l.drop i=l.getD i 0::l.drop (i+1):=by rw [List.drop_eq_getElem_cons (by omega)];simp [List.getD,(by omega:i<l.length)]
 have e2:(l.map gsub).take (i+1)=(l.map gsub).take i++[gsub (l.getD i 0)]:=by
  have hg:(l.map gsub)[i]? = some (gsub (l.getD i 0)):=by simp [List.getD,(by omega:i<l.length)]
  rw [List.take_add_one,hg];rfl
 rw [subQ,List.set_append_right _ _ (by rw [List.length_take,List.length_map];omega),List.length_take,List.length_map,Nat.min_eq_left (by omega),Nat.sub_self,e1,List.set_cons_zero,subQ,e2,List.append_assoc]
 rfl
theorem subQ_all {l:List Nat}(h:l.length=4):subQ l 4=l.map gsub:=by
 rw [subQ,List.take_of_length_le (by rw [List.length_map];omega),List.drop_of_length_le (by omega),List.append_nil]
set_option maxHeartbeats 2000000 in
theorem subbed_c (w':World){l:List Nat}(hl:l.length=4)(hb:∀ j,l.getD j 0<256):Calls Tryz.prog 34 [.agg (bys l)].toArray w' (Ret (.agg (bys (l.map gsub))) w'):=by
 haveI:NBy l 4:=⟨hl⟩
 have h0:subQ l 0=l:=by simp [subQ]
 refine fn_ret (N:=_) Tryz.func34 rfl Tryz.ntmps34 Tryz.results34 (by simp) ?_
 simp only [initS,Nat.reduceAdd,Nat.zero_add]
 repeat' (first|(refine wlS ?_)|(refine wlB ?_)|(refine wlE ?_)|(refine efSvao ?_;intro v oa ho)|(refine efZCnn ?_;intro n hn)|(refine efBnn ?_;intro n hn)|(refine efB ?_)|(refine efBS ?_)|(refine wl_skip rfl rfl ?_)|((with_reducible refine wc_seq ?_);intro K hK)|(refine auC ?_)|(refine wc_cond rfl (fun hc=>?_) (fun hc=>?_))|(refine wc_draw (by kernel_rfl) (by kernel_rfl) (by decide +kernel) ?_;intro w0 hw0 hm0;(try simp only [List.append_eq,List.cons_append,List.nil_append]))|(refine auP ?_)|((refine auR ?_);clear hK K)|(refine auR ?_)|((with_reducible refine hK _ _ ?_);clear hK K)|fail)
 rename_i n1 hn1
 refine wc_loop (σ:=Nat) (fun i=>[(1,ptr n1),(2,ptr n),(4,.int .i64 (i:Int))])
  (fun i=>[(n,(bys (List.replicate 4 0),74)),(n1,(bys (subQ l i),74))])
  (fun i=>i≤4) (fun i=>4 - i) 0 (Nat.zero_le _) (Fits.of ⟨rfl,rfl,rfl,trivial⟩ (by rw [h0];exact SubL.refl _) rfl) ?_
 intro i hi
 haveI:NBy (subQ l i) 4:=⟨subQ_len hl hi⟩
 by_cases hlt:i<4
 ·have t1:decide ((i:Int)<4)=true:=decide_eq_true (by omega)
  have k1:IntKind.i64.wrap ((i:Int)+1)=((i+1:Nat):Int):=by rw [wrap_i64 _ (by omega) (by omega)];omega
  have j1:(i:Int)<((4:Nat):Int):=by omega
  have gv:=bys_get (l:=subQ l i) (i:=i) (by rw [subQ_len hl hi];omega)
  rw [subQ_get hl hlt] at gv
  have SU:=sub_gf (l.getD i 0) (hb _)
  have st:=subQ_step hl hlt
  repeat' (first|(refine wlS ?_)|(refine wlB ?_)|((with_reducible refine sel_call ?_);refine wl_rd rfl rfl (rd_call rfl rfl rfl (fun w hm=>by with_reducible exact SU w)) ?_)|(refine wlE ?_)|(refine efSvao ?_;intro v oa ho)|(refine efBnn ?_;intro n hn)|(refine efB ?_)|(refine efBS ?_)|(refine wl_skip rfl rfl ?_)|((with_reducible refine wc_seq ?_);intro K hK)|(refine auC ?_)|(refine wc_cond rfl (fun hc=>?_) (fun hc=>?_))|(refine wc_draw (by kernel_rfl) (by kernel_rfl) (by decide +kernel) ?_;intro w0 hw0 hm0;(try simp only [List.append_eq,List.cons_append,List.nil_append]))|(refine auP ?_)|((refine auR ?_);clear hK K)|(refine auR ?_)|((with_reducible refine hK _ _ ?_);clear hK K)|fail)
  exact ⟨i+1,hlt,by omega,Fits.of ⟨rfl,rfl,rfl,trivial⟩ (by rw [←st];exact SubL.refl _) rfl⟩
 ·obtain rfl:i=4:=by omega
  have t1:decide (((4:Nat):Int)<4)=false:=by decide
  rw [subQ_all hl]
  haveI:NBy (l.map gsub) 4:=⟨by rw [List.length_map];exact hl⟩
  repeat' (first|(refine wlS ?_)|(refine wlB ?_)|(refine wlE ?_)|(refine efSvao ?_;intro v oa ho)|(refine efZCnn ?_;intro n hn)|(refine efBnn ?_;intro n hn)|(refine efB ?_)|(refine efBS ?_)|(refine wl_skip rfl rfl ?_)|((with_reducible refine wc_seq ?_);intro K hK)|(refine auC ?_)|(refine wc_cond rfl (fun hc=>?_) (fun hc=>?_))|(refine wc_draw (by kernel_rfl) (by kernel_rfl) (by decide +kernel) ?_;intro w0 hw0 hm0;(try simp only [List.append_eq,List.cons_append,List.nil_append]))|(refine auP ?_)|((refine auR ?_);clear hK K)|(refine auR ?_)|((with_reducible refine hK _ _ ?_);clear hK K)|fail)
  first|refine end_ret (ResP.cell rfl ld_whole ResP.nil) ?_|refine end_normal (ResP.cell rfl ld_whole ResP.nil) ?_
  first|rfl|(show _=_;rfl)|(simp only [tupV, *];done)
end Go.Proofs.YtkendlnjaopbeaaGreatDoor
namespace Go.Proofs.YtkendlnjaopbeaaGreatDoor
open Go.RowKit
set_option linter.unusedVariables false
set_option linter.unusedSimpArgs false
set_option maxRecDepth 100000
def pad (l:List Nat):List Nat:=l++List.replicate (240 - l.length) 0
theorem pad_len {l:List Nat}(h:l.length≤240):(pad l).length=240:=by rw [pad,List.length_append,List.length_replicate];omega
theorem pad_get {l:List Nat}{j:Nat}(h:j<l.length):(pad l).getD j 0=l.getD j 0:=by
 rw [pad,List.getD_eq_getElem?_getD,List.getElem?_append_left h,List.getD_eq_getElem?_getD]
theorem pad_set {l:List Nat}{x:Nat}(h:l.length<240):(pad l).set l.length x=pad (l++[x]):=by
 rw [pad,List.set_append_right _ _ (Nat.le_refl _),Nat.sub_self,pad,List.length_append,List.length_singleton,show 240 - l.length=240 - (l.length+1)+1 by omega,List.replicate_succ,List.set_cons_zero,List.append_assoc]
 rfl
theorem pad_app {l q:List Nat}{k:Nat}(hq:q.length=k)(h:l.length+k≤240):(pad l).take l.length++(q.take k++(pad l).drop (l.length+k))=pad (l++q):=by
 rw [pad,List.take_left,List.take_of_length_le (by omega),List.drop_append,List.drop_of_length_le (by omega),List.nil_append,pad,List.append_assoc,List.length_append,hq,List.drop_replicate]
 congr 3
 omega
def wdAt (ws:List Nat)(i:Nat):List Nat:=(ws.drop (4 * i)).take 4
theorem wdAt_len {ws:List Nat}{i:Nat}(h:4 * i+4≤ws.length):(wdAt ws i).length=4:=by rw [wdAt,List.length_take,List.length_drop];omega
theorem wdAt_get {ws:List Nat}{i j:Nat}(hj:j<4):(wdAt ws i).getD j 0=ws.getD (4 * i+j) 0:=by
 rw [wdAt,List.getD_eq_getElem?_getD,List.getElem?_take_of_lt hj,List.getElem?_drop,List.getD_eq_getElem?_getD]
def wdRot (t:List Nat)(x:Nat):List Nat:=[gsub (t.getD 1 0) ^^^ x,gsub (t.getD 2 0),gsub (t.getD 3 0),gsub (t.getD 0 0)]
def wdTurn (n i:Nat)(t:List Nat):List Nat:=
 if i % n=0 then wdRot t (npow 2 (i / n - 1)) else if n=8∧i % 8=4 then t.map gsub else t
def xor4 (a b:List Nat):List Nat:=(List.range 4).map fun j=>a.getD j 0 ^^^ b.getD j 0
theorem xor4_len (a b:List Nat):(xor4 a b).length=4:=by simp [xor4]
theorem xor4_get {a b:List Nat}{j:Nat}(hj:j<4):(xor4 a b)[j]? = some (a.getD j 0 ^^^ b.getD j 0):=by simp [xor4,hj]
theorem xor4_step {a b:List Nat}{j:Nat}(hj:j<4):(xor4 a b).take (j+1)=(xor4 a b).take j++[a.getD j 0 ^^^ b.getD j 0]:=by
 rw [List.take_add_one,xor4_get hj];rfl
def expN (n:Nat)(key:List Nat):Nat→List Nat
 | 0=>[]
 | i+1=>expN n key i++(if i<n then wdAt key i else xor4 (wdAt (expN n key i) (i - n)) (wdTurn n i (wdAt (expN n key i) (i - 1))))
def bys8 (l:List Nat):Prop:=∀ x∈l,x<256
theorem bys8.get {l:List Nat}(h:bys8 l)(i:Nat):l.getD i 0<256:=by
 rw [List.getD_eq_getElem?_getD]
 cases hx:l[i]? with
 | none=>simp
 | some x=>exact h x (List.mem_of_getElem? hx)
theorem bys8.app {a b:List Nat}(h:bys8 a)(h':bys8 b):bys8 (a++b):=fun x hx=>(List.mem_append.1 hx).elim (h x) (h' x)
theorem bys8.wd {l:List Nat}(h:bys8 l)(i:Nat):bys8 (wdAt l i):=fun x hx=>h x (List.mem_of_mem_drop (List.mem_of_mem_take hx))
theorem npow2_lt (k:Nat):npow 2 k<256:=npow_lt k (by decide)
theorem bys8.rot {t:List Nat}(h:bys8 t){x:Nat}(hx:x<256):bys8 (wdRot t x):=fun y hy=>by
 simp only [wdRot,List.mem_cons,List.not_mem_nil,or_false] at hy
 rcases hy with rfl|rfl|rfl|rfl
 ·exact xor_lt (gsub_lt _ (h.get _)) hx
 all_goals exact gsub_lt _ (h.get _)
theorem bys8.turn {t:List Nat}(h:bys8 t)(n i:Nat):bys8 (wdTurn n i t):=by
 unfold wdTurn
 split
 ·exact h.rot (npow2_lt _)
 ·split
  ·intro y hy
   obtain ⟨x,hx,rfl⟩:=List.mem_map.1 hy
   exact gsub_lt _ (h x hx)
  ·exact h
theorem bys8.xor4 {a b:List Nat}(h:bys8 a)(h':bys8 b):bys8 (xor4 a b):=fun y hy=>by
 obtain ⟨j,_,rfl⟩:=List.mem_map.1 hy
 exact xor_lt (h.get _) (h'.get _)
theorem wdTurn_len {n i:Nat}{t:List Nat}(h:t.length=4):(wdTurn n i t).length=4:=by
 unfold wdTurn
 split
 ·rfl
 ·split
  ·rw [List.length_map,h]
  ·exact h
theorem expN_ok {n:Nat}{key:List Nat}(hk:key.length=4 * n)(hb:bys8 key)(hn:0<n):∀ i,(expN n key i).length=4 * i∧bys8 (expN n key i)
 | 0=>⟨rfl,fun x hx=>by cases hx⟩
 | i+1=>by
  obtain ⟨h1,h2⟩:=expN_ok hk hb hn i
  rw [expN]
  split
  ·exact ⟨by rw [List.length_append,h1,wdAt_len (by omega)];omega,h2.app (hb.wd i)⟩
  ·exact ⟨by rw [List.length_append,h1,xor4_len];omega,h2.app ((h2.wd _).xor4 ((h2.wd _).turn n i))⟩
def expW (n:Nat)(key:List Nat):List Nat:=pad (expN n key (4 * (n+7)))
theorem expW_ok {n:Nat}{key:List Nat}(hk:key.length=4 * n)(hb:bys8 key)(hn:0<n)(hn8:n≤8):AKey (expW n key):=by
 obtain ⟨h1,h2⟩:=expN_ok hk hb hn (4 * (n+7))
 refine ⟨pad_len (by omega),fun x hx=>?_⟩
 rcases List.mem_append.1 hx with h|h
 ·exact h2 x h
 ·rw [(List.mem_replicate.1 h).2];decide
end Go.Proofs.YtkendlnjaopbeaaGreatDoor
namespace Go.Proofs.YtkendlnjaopbeaaGreatDoor
open Go.RowKit
set_option linter.unusedVariables false
set_option linter.unusedSimpArgs false
def putsH (pl:List (Nat×Nat)):Sg→List (Nat×Value)→Option Sg
 | g,[]=>some g
 | g,(i,v)::r=>match pl[i]? with
  | none=>none
  | some q=>match putG g q.1 q.2 v.cells with
   | some g'=>putsH pl g' r
   | none=>none
theorem putsH_spec {pl:List (Nat×Nat)}:∀ {vs:List (Nat×Value)} {g g':Sg},SgOk g→(∀ p∈vs,p.2.cells.all (·.oneCell')=true)→(∀ p∈vs,∀ q,pl[p.1]? = some q→p.2.cells.size=q.2)→putsH pl g vs=some g'→fillC (fun i=>pl[i]?) (rwL g) vs=some (rwL g')∧SgOk g'
 | [],g,g',hok,_,_,h=>by cases h;exact ⟨rfl,hok⟩
 | (i,v)::r,g,g',hok,h1,h2,h=>by
  unfold putsH at h
  unfold fillC
  cases hp:pl[i]? with
  | none=>simp [hp] at h
  | some q=>
   simp only [hp] at h ⊢
   have c:v.cells.size=q.2:=h2 (i,v) (by simp) q hp
   cases hg:putG g q.1 q.2 v.cells with
   | none=>rw [hg] at h;cases h
   | some g1=>
    rw [hg] at h
    simp only at h
    obtain ⟨e1,e2,e3,e4⟩:=putG_spec hok c (h1 (i,v) (by simp)) hg
    have hb:Nat.ble (q.1+q.2) (rwL g).length=true:=Nat.ble_eq_true_of_le (by rw [rwL_len hok];exact e4)
    have c':(v.cells.size == q.2)=true:=by simp [c]
    rw [c',hb,Bool.and_self,cond_true,e1]
    exact putsH_spec e2 (fun p hp=>h1 p (by simp [hp])) (fun p hp=>h2 p (by simp [hp])) h
section
variable {X:Cx}{s:Slots}{l:Blks}{o:Oper}{v:Value}
theorem all_one {v:Value}(h:v.oneCell'=true):v.cells.all (·.oneCell')=true:=by rw [one_cells h];simpa using h
theorem rd_buildH {t:Nat}{ps:Array (Nat×Operand)}{vs:List (Nat×Value)}{pl:List (Nat×Nat)}{g0 g g':Sg}(ho:o.op=.build t ps)(hx:valsP s ps.toList=some vs)[ht:SP X.P t pl][hz:ZG X.P t g0]
  (hc:putsH pl g0 vs=some g:=by rfl) (hg:g=g':=by (try dsimp only [Value.cells]);first|done|exact rfl) (h1:∀ p∈vs,p.2.cells.all (·.oneCell')=true:=by (simp only [List.forall_mem_cons,List.not_mem_nil,false_imp_iff,implies_true,and_true];(repeat' apply And.intro) <;> first|(dsimp only [Value.cells];exact Cells.one)|exact all_one rfl|rfl))
  (h2:∀ p∈vs,∀ q,pl[p.1]? = some q→p.2.cells.size=q.2:=by (simp only [List.forall_mem_cons,List.not_mem_nil,false_imp_iff,implies_true,and_true];(repeat' apply And.intro) <;> (intro q hq;obtain rfl:=Option.some.inj hq;first|(dsimp only [Value.cells];exact Cells.size)|rfl))):RdV X s l o (.agg (rwA g')):=by
 subst hg
 haveI:ZR X.P t (.agg (rwA g0)):=⟨hz.out⟩
 exact rd_buildS ho hx (by rw [rwA];exact (putsH_spec hz.ok h1 h2 hc).1)
end
end Go.Proofs.YtkendlnjaopbeaaGreatDoor
namespace Go.Proofs.YtkendlnjaopbeaaGreatDoor
open Go.RowKit
set_option linter.unusedVariables false
set_option linter.unusedSimpArgs false
section
variable {X:Cx}{l:Blks}
theorem ld_sgB {t b off k e p m j:Nat}{g:Sg}{q cs:List Nat}[hu:KD X.P t true][hs:SZ X.P t k][hok:SgOk g](hh:Has X l b (rwA g,e):=by first|(with_reducible assumption)|(refine Has.inn ?_;repeat (first|exact Inn.here|apply Inn.there|apply Inn.skipA)))(ha:atL g p m=some (bys q):=by rfl)(ho:p+j=off:=by first|(with_reducible assumption)|rfl|omega)
  (hv:(q.drop j).take k=cs:=by first|(with_reducible assumption)) (hj:j+k≤m:=by first|(with_reducible assumption)|omega):Ld X l t b off (.agg (bys cs)):=
 ld_sgR (cs:=bl cs) hh ha ho (by rw [←hv,bys,List.toList_toArray,bl_drop,bl_take]) hj
end
end Go.Proofs.YtkendlnjaopbeaaGreatDoor
