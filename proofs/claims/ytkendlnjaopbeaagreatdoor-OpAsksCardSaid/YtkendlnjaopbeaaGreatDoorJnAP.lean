/- Packs of points: plain laws. When two rows of 32 bytes are told alike;a row of 32 bytes that came in. When two points are told alike;sealringkeep.sum,times,curves,pointed. Pack and Unpack joined to their laws. The package sign,walked: atLeast,base,New,challenge. The package sign,walked: Sign. The package op,walked: all bytes kept,signers,judges. LAGRANGE: so often as there are points,each makes Zero;and how many there are. Plain laws,over whatever field. Steps by affine points: what is checked of each. Plain laws. The base L times is Zero;a point of order 8: step by step,by numbers. Printed by wip/genord.py. How often counts modulo L for the base;eight times any point,L times,is Zero. Plain laws. The walk of limb.Cmp. What Cmp answers. -/
import Derived.Test.YtkendlnjaopbeaaGreatDoorJnAO
import Derived.Test.YtkendlnjaopbeaaGreatDoorJnAM
import Derived.Test.YtkendlnjaopbeaaGreatDoorJnAK
import Derived.Test.YtkendlnjaopbeaaGreatDoorJnAG
import Derived.Laws.StructEq
import Derived.Test.YtkendlnjaopbeaaGreatDoorUnpack
import Derived.Test.YtkendlnjaopbeaaGreatDoorJnAL
import Derived.Test.YtkendlnjaopbeaaGreatDoorJnAE
import Derived.Test.YtkendlnjaopbeaaGreatDoorJnAD
import Derived.Test.YtkendlnjaopbeaaGreatDoorJnAI
import Derived.Test.YtkendlnjaopbeaaGreatDoorJnAN
import Derived.Test.YtkendlnjaopbeaaGreatDoorJnAJ
namespace Go.Proofs.YtkendlnjaopbeaaGreatDoor
set_option linter.unusedVariables false
theorem den_id {n:Nat}[NeZero n]{d y m i:Fin n}(hm:m * m=0 - 1)(h:d * (y * y)+1=0)(hi:y * i=1):m * i * (m * i)=d:=by grind
theorem den_ne (y:F):toF DD * (y * y)+1≠0:=by
 intro h
 have hy:y≠0:=fun h0=>by
  rw [h0] at h
  have:(0:F)=1:=by rw [←h];exact (by decide +kernel:(toF DD * ((0:F) * 0)+1)=1)
  exact F_one_ne this.symm
 exact DD_nonsq _ (den_id rootM_sq h (mul_Finv hy))
theorem eqn_id {n:Nat}[NeZero n]{d x y i:Fin n}(hi:(d * (y * y)+1) * i=1):(x * x=(y * y - 1) * i)↔(y * y - x * x=1+d * (x * x * (y * y))):=by
 constructor
 ·intro h
  grind
 ·intro h
  grind
def sqV (y:Nat):Nat:=fmul (fsub (fmul y y) 1) (finv (fadd (fmul DD (fmul y y)) 1))
theorem upV_is (k:Nat):upV k=sqV (upY k):=rfl
theorem sqV_P (y:Nat):sqV y<PP:=fmul_P _ _
theorem on_sq {p:Pt}(hr:p.red):p.on↔fmul p.x p.x=sqV p.y:=by
 have hi:=mul_Finv (den_ne (toF p.y))
 have k1:E0.on p.f↔toF p.x * toF p.x=(toF p.y * toF p.y - 1) * Finv (toF DD * (toF p.y * toF p.y)+1):=by
  rw [eqn_id hi,on_iff_id]
  exact Iff.rfl
 have k2:toF (sqV p.y)=(toF p.y * toF p.y - 1) * Finv (toF DD * (toF p.y * toF p.y)+1):=by
  unfold sqV
  rw [toF_mul,toF_sub,toF_mul,toF_inv,toF_add,toF_mul,toF_mul,toF_one]
 rw [on_iff,k1,←k2,←toF_mul]
 exact ⟨fun h=>toF_inj (fmul_P _ _) (sqV_P _) h.2,fun h=>⟨hr,by rw [h]⟩⟩
theorem PP_255:PP<2 ^ 255:=by decide +kernel
theorem neg_odd {x:Nat}(hx:x<PP)(h0:x≠0):fsub 0 x % 2=1 - x % 2:=by
 have:=PP_odd
 rw [fneg_parity hx h0]
 omega
theorem pack_unpack {k:Nat}(ho:upO k=0∨upO k=1)(h:upOk k):(upPt k).on∧(upPt k).pack=k:=by
 obtain ⟨h1,h2,h3⟩:=h
 have hsq:=root_sq h1
 have he:=root_even (upV k)
 have hP:=froot_P (upV k)
 have hred:(upPt k).red:=⟨by unfold upPt;dsimp only;split;exact fsub_P _ _;exact hP,by show upY k<PP;rw [h2];exact flow_P _⟩
 have hx:fmul (upPt k).x (upPt k).x=sqV (upPt k).y:=by
  show fmul (if upO k=1 then fsub 0 (froot (upV k)) else froot (upV k)) (if upO k=1 then fsub 0 (froot (upV k)) else froot (upV k))=sqV (upY k)
  rw [←upV_is]
  have e:flow (upV k)=upV k:=by rw [upV_is];exact flow_of (sqV_P _)
  split
  ·rw [neg_sq,hsq,e]
  ·rw [hsq,e]
 refine ⟨(on_sq hred).2 hx,?_⟩
 unfold Pt.pack
 have hpar:(upPt k).x % 2=upO k:=by
  unfold upPt
  dsimp only
  rcases ho with h0|h0
  ·rw [h0,if_neg (by decide),he]
  ·have hne:froot (upV k)≠0:=fun hz=>h3 ⟨h0,hz⟩
   rw [h0,if_pos rfl,neg_odd hP hne,he]
 rw [hpar]
 exact Nat.mod_add_div k (2 ^ 255)
end Go.Proofs.YtkendlnjaopbeaaGreatDoor
namespace Go.Proofs.YtkendlnjaopbeaaGreatDoor
open Go.RowKit
set_option linter.unusedVariables false
set_option maxRecDepth 8000
end Go.Proofs.YtkendlnjaopbeaaGreatDoor
namespace Go.Proofs.YtkendlnjaopbeaaGreatDoor
open Go.RowKit
set_option linter.unusedVariables false
set_option linter.unusedSimpArgs false
set_option maxRecDepth 8000
theorem eql_numD (d a b:Nat)(ha:a<T256)(hb:b<T256)(w:World):(Op.equalIn (d+2) 46 (nu a) (nu b)).run Tryz.prog w=.ok (decide (a=b)) w:=by
 rw [←nu_num,←nu_num]
 have h:=eql_ints (P:=Tryz.prog) (t:=46) (e:=44) (k:=.u64) (k':=.u64) w d 4 [limb a 0,limb a 1,limb a 2,limb a 3] [limb b 0,limb b 1,limb b 2,limb b 3] (by kernel_rfl) (by kernel_rfl) (by kernel_rfl) (by kernel_rfl) (by kernel_rfl) rfl rfl
 have e:(([limb a 0,limb a 1,limb a 2,limb a 3]:List Int) == [limb b 0,limb b 1,limb b 2,limb b 3])=decide (a=b):=by
  by_cases hab:a=b
  ·subst hab;simp
  ·rw [decide_eq_false hab,Bool.eq_false_iff]
   intro hc
   have hc:=eq_of_beq hc
   simp only [List.cons.injEq,and_true] at hc
   exact hab (num_inj ha hb hc.1 hc.2.1 hc.2.2.1 hc.2.2.2)
 rw [e] at h
 exact h
theorem part_num {P:Program}{t off:Nat}{L:List Nat}{x:Nat}[KD P t true][SZ P t 4](h:numAt L off=some x)(w:World):(part t (rowC L) off).run P w=.ok (nu x) w:=by
 have:=part_row (P:=P) (t:=t) (off:=off) (k:=4) (cs:=rowC L) (numAt_part L off x h) w
 simpa using this
theorem pt_fields:∃ f0 f1:Field,(Tryz.prog.fieldsOf 89).toList=[f0,f1]∧decide (f0.name≠ "_")=true∧decide (f1.name≠ "_")=true∧f0.type=46∧f1.type=46∧f0.offset=0∧f1.offset=4:=
 ⟨(Tryz.prog.fieldsOf 89)[0]!,(Tryz.prog.fieldsOf 89)[1]!,by kernel_rfl,by decide +kernel,by decide +kernel,by kernel_rfl,by kernel_rfl,by kernel_rfl,by kernel_rfl⟩
theorem eq_pt (p q:Pt)(hp:p.lt)(hq:q.lt)(w:World):(Op.equalIn 10000 89 (pv p) (pv q)).run Tryz.prog w=.ok (decide (p=q)) w:=by
 obtain ⟨f0,f1,hf,n0,n1,t0,t1,o0,o1⟩:=pt_fields
 rw [show (10000:Nat)=9999+1 from rfl,run_equalIn_struct w 9999 _ _ _ (by kernel_rfl) (by kernel_rfl),hf]
 have n0':=of_decide_eq_true n0
 have n1':=of_decide_eq_true n1
 have a0:=part_num (P:=Tryz.prog) (t:=46) (L:=[p.x,p.y]) (off:=0) (x:=p.x) rfl
 have a1:=part_num (P:=Tryz.prog) (t:=46) (L:=[p.x,p.y]) (off:=4) (x:=p.y) rfl
 have b0:=part_num (P:=Tryz.prog) (t:=46) (L:=[q.x,q.y]) (off:=0) (x:=q.x) rfl
 have b1:=part_num (P:=Tryz.prog) (t:=46) (L:=[q.x,q.y]) (off:=4) (x:=q.y) rfl
 have e0:=eql_numD 9997 p.x q.x hp.1 hq.1 w
 have e1:=eql_numD 9997 p.y q.y hp.2 hq.2 w
 by_cases h0:p.x=q.x
 ·rw [decide_eq_true h0] at e0
  by_cases h1:p.y=q.y
  ·rw [decide_eq_true h1] at e1
   rw [decide_eq_true (show p=q by cases p;cases q;cases h0;cases h1;rfl)]
   clear h0 h1
   simp only [Op.eqFields,n0',n1',t0,t1,o0,o1,not_false_eq_true,ne_eq,if_true,if_false,Sem.run_bind,a0,a1,b0,b1,Result.andThen_ok,e0,e1,Bool.not_true,Bool.not_false,Bool.false_eq_true,Sem.run_pure]
  ·rw [decide_eq_false h1] at e1
   rw [decide_eq_false (fun h:p=q=>h1 (by rw [h]))]
   clear h0 h1
   simp only [Op.eqFields,n0',n1',t0,t1,o0,o1,not_false_eq_true,ne_eq,if_true,if_false,Sem.run_bind,a0,a1,b0,b1,Result.andThen_ok,e0,e1,Bool.not_true,Bool.not_false,Bool.false_eq_true,Sem.run_pure]
 ·rw [decide_eq_false h0] at e0
  rw [decide_eq_false (fun h:p=q=>h0 (by rw [h]))]
  clear h0
  simp only [Op.eqFields,n0',n1',t0,t1,o0,o1,not_false_eq_true,ne_eq,if_true,if_false,Sem.run_bind,a0,a1,b0,b1,Result.andThen_ok,e0,e1,Bool.not_true,Bool.not_false,Bool.false_eq_true,Sem.run_pure]
theorem eq_pt_yes {p q:Pt}(hp:p.lt)(h:p=q)(w:World):(Op.equalIn 10000 89 (pv p) (pv q)).run Tryz.prog w=.ok true w:=by
 rw [eq_pt p q hp (h ▸ hp) w,decide_eq_true h]
theorem eq_pt_no {p q:Pt}(hp:p.lt)(hq:q.lt)(h:p≠q)(w:World):(Op.equalIn 10000 89 (pv p) (pv q)).run Tryz.prog w=.ok false w:=by
 rw [eq_pt p q hp hq w,decide_eq_false h]
end Go.Proofs.YtkendlnjaopbeaaGreatDoor
namespace Go.Proofs.YtkendlnjaopbeaaGreatDoor
open Go.RowKit
set_option linter.unusedVariables false
theorem unpack_yes {k:Nat}(hk:k<T256)(h:upOk k)(w:World):Calls Tryz.prog 26 [bv k].toArray w (Ret (.tuple #[pv (upPt k),.int .i64 0]) w):=by
 have:=unpack_c k hk w
 unfold upOk at h
 rwa [if_pos h,if_pos h] at this
theorem unpack_no {k:Nat}(hk:k<T256)(h:¬upOk k)(w:World):Calls Tryz.prog 26 [bv k].toArray w (Ret (.tuple #[pv ⟨0,0⟩,.int .i64 4]) w):=by
 have:=unpack_c k hk w
 unfold upOk at h
 rwa [if_neg h,if_neg h] at this
theorem pack_on {p:Pt}(h:p.on)(w:World):Calls Tryz.prog 33 [pv p].toArray w (Ret (.tuple #[bv p.pack,.int .i64 0]) w):=pack_yes h.red.lt h (Nat.lt_trans h.red.2 PP_255) w
end Go.Proofs.YtkendlnjaopbeaaGreatDoor
namespace Go.Proofs.YtkendlnjaopbeaaGreatDoor
open Go.RowKit
attribute [local irreducible] rwA bys iw
set_option linter.unusedVariables false
set_option linter.unusedSimpArgs false
set_option maxRecDepth 100000
theorem bytesC_lb (a:Nat):bytesC a=bys (lb a):=by rw [lb_cells];unfold bytesC;rfl
theorem bv_lb (a:Nat):bv a=.agg (bys (lb a)):=by show Value.agg (bytesC a)=_;rw [bytesC_lb]
theorem lb_of {d:List Nat}(h:BL 32 d):∃ n,n<T256∧d=lb n:=by
 obtain ⟨n,hn,he⟩:=byteCells_bv (gf d) (gf_lt h)
 refine ⟨n,hn,?_⟩
 have e1:byteCells (gf d)=bys d:=by
  unfold byteCells bys bl
  congr 1
  apply List.ext_getElem?
  intro i
  by_cases hi:i<32
  ·have:i<d.length:=by rw [h.len];exact hi
   simp [hi,this,gf,List.getD]
  ·have:¬i<d.length:=by rw [h.len];exact hi
   simp [hi,this]
 have e2:bytesC n=bys (lb n):=bytesC_lb n
 rw [e1,e2] at he
 have:=congrArg Array.toList he
 simp only [bys,bl] at this
 exact (List.map_inj_right (fun x y h=>by injection h with _ h;exact Int.ofNat.inj h)).1 this
instance (a:Nat):NBy (lb a) 32:=⟨lb_len a⟩
instance (a:Nat):ByL (lb a):=⟨(lb_ok a).by'⟩
def atl (a:Nat):Nat:=if a=0 then 1 else a
theorem atl_L {a:Nat}(h:a<SLn):atl a<SLn:=by unfold atl;split;exact (by decide +kernel);exact h
def basP (n:Nat):Nat:=(Pt.base.times n).pack
def secS (seed:Nat):Nat:=atl (dgN 1 (lb seed))
def mskS (seed:Nat):List Nat:=((newH.write [2]).write (lb seed)).sum
def pubS (seed:Nat):Nat:=basP (secS seed)
def chal (r k:Nat)(p:List Nat):Nat:=dgN 4 (lb r++lb k++p)
theorem secS_L (seed:Nat):secS seed<SLn:=atl_L (dgN_L _ _)
theorem secS_lt (seed:Nat):secS seed<T256:=Nat.lt_trans (secS_L _) SL_T
instance:ByL [2]:=⟨by simp⟩
instance (seed:Nat):NBy (mskS seed) 32:=⟨sum_len (st:=(newH.write [2]).write (lb seed)) HSo.out⟩
instance (seed:Nat):ByL (mskS seed):=inferInstanceAs (ByL (((newH.write [2]).write (lb seed)).sum))
instance (seed:Nat):BLc 32 (mskS seed):=⟨⟨NBy.out,ByL.out⟩,by decide⟩
instance seg_numP (n:Nat):SegL (numC n) 4:=⟨(numC_cells n).size,(numC_cells n).one⟩
abbrev sgP (a:Nat)(m k:List Nat):Sg:=[(4,numC a),(32,bys m),(32,bys k)]
instance zg_pair:ZG Tryz.prog 48 (sgP 0 (List.replicate 32 0) (List.replicate 32 0)):=⟨by kernel_rfl,inferInstance⟩
instance {X:Cx}{l:Blks}{g:Nat}{p q:List Nat}{e a:Nat}[hn:NBy p 32][h:BlkAt l g (rwA (sgP a p q),e)][h':BLc 32 p][ht:KD X.P e true]:VwB X l (.slice (some ⟨g,4,none⟩) 32 32) 32 p:=⟨fun w hm=>by
 have hg:=(hm.cls.now g (rwA (sgP a p q)) e (mu_mem_of h.out hm.nd)).trans (congrArg some (toObj_cells ht.tb))
 refine ⟨⟨⟨_,_,rfl,Nat.le_refl _,by simp only [maxLen];omega,fun _=>⟨g,4,rfl⟩⟩,fun j u hj=>⟨g,4,32,rfl,?_⟩⟩,h'.out⟩
 rw [cell_of_row w g (4+j) (rwA (sgP a p q)) e _ hg]
 have hl:(bl p).length=32:=by rw [bl_len,hn.out]
 have h4:(numC a).size=4:=(numC_cells a).size
 have hj':=(List.getElem?_eq_some_iff.1 hj).1
 unfold rwA
 simp only [rwL,List.map_cons,List.flatten_cons,List.getElem?_toArray]
 rw [List.getElem?_append_right (by simp [h4]),List.getElem?_append_left (by simp [h4,bys];omega)]
 simpa [h4,bys] using hj⟩
set_option maxHeartbeats 2000000 in
theorem atl_c (a:Nat)(ha:a<T256)(w:World):Calls Tryz.prog 19 [nu a].toArray w (Ret (nu (atl a)) w):=by
 have h0:0<T256:=by decide
 by_cases h:a=0
 ·subst h
  have e:atl 0=1:=rfl
  rw [e]
  refine fn_ret (N:=_) Tryz.func19 rfl Tryz.ntmps19 Tryz.results19 (by simp) ?_
  simp only [initS,Nat.reduceAdd,Nat.zero_add]
  repeat' (first|(refine wlB ?_)|(refine wlNL ?_)|(refine wlEQ ?_)|(refine wlE ?_)|(refine efZCnn ?_;intro n hn)|(refine efBnn ?_;intro n hn)|(refine efB ?_)|(refine wl_skip rfl rfl ?_)|((with_reducible refine wc_seq ?_);intro K hK)|(refine auC ?_)|(refine wc_cond rfl (fun hc=>?_) (fun hc=>?_))|(refine wc_draw (by kernel_rfl) (by kernel_rfl) (by decide +kernel) ?_;intro w0 hw0 hm0;(try simp only [List.append_eq,List.cons_append,List.nil_append]))|(refine auP ?_)|((refine auR ?_);clear hK K)|(refine auR ?_)|((with_reducible refine hK _ _ ?_);clear hK K)|fail)
  first|refine end_ret (ResP.cell rfl ld_whole ResP.nil) ?_|refine end_normal (ResP.cell rfl ld_whole ResP.nil) ?_
  first|rfl|(show _=_;rfl)|(simp only [tupV, *];done)
 ·have e:atl a=a:=by unfold atl;rw [if_neg h]
  have d1:=decide_eq_false h
  rw [e]
  clear h e
  refine fn_ret (N:=_) Tryz.func19 rfl Tryz.ntmps19 Tryz.results19 (by simp) ?_
  simp only [initS,Nat.reduceAdd,Nat.zero_add]
  repeat' (first|(refine wlB ?_)|(refine wlNL ?_)|(refine wlEQ ?_)|(refine wlE ?_)|(refine efZCnn ?_;intro n hn)|(refine efBnn ?_;intro n hn)|(refine efB ?_)|(refine wl_skip rfl rfl ?_)|((with_reducible refine wc_seq ?_);intro K hK)|(refine auC ?_)|(refine wc_cond rfl (fun hc=>?_) (fun hc=>?_))|(refine wc_draw (by kernel_rfl) (by kernel_rfl) (by decide +kernel) ?_;intro w0 hw0 hm0;(try simp only [List.append_eq,List.cons_append,List.nil_append]))|(refine auP ?_)|((refine auR ?_);clear hK K)|(refine auR ?_)|((with_reducible refine hK _ _ ?_);clear hK K)|fail)
  first|refine end_ret (ResP.cell rfl ld_whole ResP.nil) ?_|refine end_normal (ResP.cell rfl ld_whole ResP.nil) ?_
  first|rfl|(show _=_;rfl)|(simp only [tupV, *];done)
set_option maxHeartbeats 4000000 in
theorem bas_c (n:Nat)(hn:n<T256)(w:World):Calls Tryz.prog 24 [nu n].toArray w (Ret (.agg (bys (lb (basP n)))) w):=by
 have BC:=base_c
 have TC:=times_yes n hn base_red.lt base_on
 have PC:=pack_on (times_on base_on n)
 rw [bv_lb] at PC
 have e:(Pt.base.times n).pack=basP n:=rfl
 rw [e] at PC
 clear hn e
 generalize basP n=k at *
 generalize Pt.base.times n=q at *
 generalize Pt.base=q0 at *
 refine fn_ret (N:=_) Tryz.func24 rfl Tryz.ntmps24 Tryz.results24 (by simp) ?_
 simp only [initS,Nat.reduceAdd,Nat.zero_add]
 repeat' (first|(refine wlR ?_)|(refine wlB ?_)|((with_reducible refine sel_call ?_);refine wl_rd rfl rfl (rd_call rfl rfl rfl (fun w hm=>by with_reducible first|exact BC w|exact TC w|exact PC w)) ?_)|(refine wlE ?_)|(refine efR ?_)|(refine efZCnn ?_;intro n hn)|(refine efBnn ?_;intro n hn)|(refine efB ?_)|(refine wl_skip rfl rfl ?_)|(refine wdR ?_)|(refine wdV ?_)|(refine wdB ?_)|((with_reducible refine seld_call ?_);refine wd_rd hm0 rfl rfl rfl rfl (rd_call rfl rfl rfl (fun w hm=>by with_reducible first|exact BC w|exact TC w|exact PC w)) ?_)|(refine wdE ?_)|(refine wd_allocC hm0 rfl rfl rfl ?_;intro n hn hn0)|(refine wd_alloc hm0 rfl rfl rfl ?_;intro n hn hn0)|(refine wdT ?_)|(refine wd_skip rfl rfl ?_)|((with_reducible refine seld_nil ?_);refine wd_nil hm0 ?_;clear hm0 hw0)|((with_reducible refine wc_seq ?_);intro K hK)|(refine auC ?_)|(refine wc_cond rfl (fun hc=>?_) (fun hc=>?_))|(refine wc_draw (by kernel_rfl) (by kernel_rfl) (by decide +kernel) ?_;intro w0 hw0 hm0;(try simp only [List.append_eq,List.cons_append,List.nil_append]))|(refine auP ?_)|((refine auR ?_);clear hK K)|(refine auR ?_)|((with_reducible refine hK _ _ ?_);clear hK K)|fail)
 first|refine end_ret (ResP.cell rfl ld_whole ResP.nil) ?_|refine end_normal (ResP.cell rfl ld_whole ResP.nil) ?_
 first|rfl|(show _=_;rfl)|(simp only [tupV, *];done)
set_option maxHeartbeats 8000000 in
theorem new_s (w:World)(hT:Tab w)(w':World)(hb:Below w.heap.size w w')(seed:Nat)(hs:seed<T256) :
  Calls Tryz.prog 17 [.agg (bys (lb seed))].toArray w' (Ret (.agg (rwA (sgP (secS seed) (mskS seed) (lb (pubS seed))))) w'):=by
 have D1:∀ {v:Value} w'',Below w'.heap.size w' w''→Cb w'' v 32 (lb seed)→Calls Tryz.prog 20 [.int .u8 1,v].toArray w'' (Ret (nu (dgN 1 (lb seed))) w''):=fun w'' h1 h2=>dgn_c w' (hT.below hb) w'' h1 1 (by decide) h2
 have AC:=atl_c (dgN 1 (lb seed)) (dgN_lt _ _)
 have e0:atl (dgN 1 (lb seed))=secS seed:=rfl
 rw [e0] at AC
 have NW:=new_c
 have WG:=write_g w' (hT.below hb)
 have SG:=sum_g w' (hT.below hb)
 have BC:=bas_c (secS seed) (secS_lt _)
 have e1:basP (secS seed)=pubS seed:=rfl
 rw [e1] at BC
 have e2:mskS seed=((newH.write [2]).write (lb seed)).sum:=rfl
 rw [e2]
 clear hT hb hs e0 e1 e2
 generalize dgN 1 (lb seed)=d at *
 generalize secS seed=a at *
 generalize pubS seed=k at *
 refine fn_ret (N:=_) Tryz.func17 rfl Tryz.ntmps17 Tryz.results17 (by simp) ?_
 simp only [initS,Nat.reduceAdd,Nat.zero_add]
 repeat' (first|(refine wlS ?_)|(refine wlG ?_)|(refine wlB ?_)|((with_reducible refine sel_call ?_);refine wl_rd rfl rfl (rd_call rfl rfl rfl (fun w hm=>by with_reducible first|exact D1 w (hm.below rfl) (VwB.out w hm)|exact AC w|exact NW w|exact BC w|exact WG w (hm.below rfl) (VwB.out w hm)|exact SG w (hm.below rfl))) ?_)|(refine wlE ?_)|(refine efSvvp ?_;intro v hv hp)|(refine efSvao ?_;intro v oa ho)|(refine efG ?_)|(refine efGnn ?_;intro n hn)|(refine efZCnn ?_;intro n hn)|(refine efBnn ?_;intro n hn)|(refine efB ?_)|(refine efBS ?_)|(refine wl_skip rfl rfl ?_)|((with_reducible refine wc_seq ?_);intro K hK)|(refine auC ?_)|(refine wc_cond rfl (fun hc=>?_) (fun hc=>?_))|((with_reducible refine wc_drawT (by kernel_rfl) ?_);(try simp only [List.append_eq,List.cons_append,List.nil_append,List.length_cons,List.length_nil,Nat.reduceAdd]))|((with_reducible refine sel_wh ?_);(refine wh_if (by decide +kernel) ?_);first|(refine wh_take (lq:=[]) rfl rfl rfl rfl (by first|exact rvS|exact rvG|exact rvB|exact rvE) (Or.inl rfl) ?_)|(refine wh_takeL rfl rfl rfl rfl (by first|exact rvS|exact rvG|exact rvB|exact rvE) (by decide +kernel) ?_))|(refine whS ?_;intro v hv hp)|((with_reducible refine sel_wh ?_);first|(refine wh_pass rfl rfl rfl rfl ?_)|(refine wh_done rfl ?_)|(refine wh_all rfl ?_))|((with_reducible refine sel_rest ?_);first|exact rest_nil rfl|refine rest_cons rfl rfl ?_ ?_)|((with_reducible refine sel_nx ?_);first|refine next_of ?_|refine next_late (by decide +kernel) ?_)|(refine auP ?_)|((refine auR ?_);clear hK K)|(refine auR ?_)|((with_reducible refine hK _ _ ?_);clear hK K)|fail)
 all_goals (first|refine end_ret (ResP.cell rfl ld_wholeG ResP.nil) ?_|refine end_normal (ResP.cell rfl ld_wholeG ResP.nil) ?_)
 all_goals (first|rfl|(show _=_;rfl)|(simp only [tupV, *];done))
set_option maxHeartbeats 8000000 in
theorem chal_c (w:World)(hT:Tab w)(w':World)(hb:Below w.heap.size w w')(r k:Nat){v:Value}{n:Nat}{p:List Nat}(hq:Cb w' v n p)(hn:n≤1048576) :
  Calls Tryz.prog 98 [.agg (bys (lb r)),.agg (bys (lb k)),v].toArray w' (Ret (nu (chal r k p)) w'):=by
 have DC:∀ {u:Value} w'',Below w'.heap.size w' w''→Cb w'' u (32+32+n) (lb r++lb k++p)→Calls Tryz.prog 20 [.int .u8 4,u].toArray w'' (Ret (nu (chal r k p)) w''):=fun w'' h1 h2=>dgn_c w' (hT.below hb) w'' h1 4 (by decide) h2
 have i1:=hq.old
 haveI:ByL p:=⟨hq.ok.by'⟩
 clear hT hb hq
 generalize chal r k p=R at *
 refine fn_ret (N:=_) Tryz.func98 rfl Tryz.ntmps98 Tryz.results98 (by simp) ?_
 simp only [initS,Nat.reduceAdd,Nat.zero_add]
 repeat' (first|(refine wlS ?_)|(refine wlB ?_)|((with_reducible refine sel_call ?_);refine wl_rd rfl rfl (rd_call rfl rfl rfl (fun w hm=>by with_reducible exact DC w (hm.below rfl) (VwB.out w hm))) ?_)|(refine wlE ?_)|(refine efSvvp ?_;intro v hv hp)|(refine efSvao ?_;intro v oa ho)|(refine efAFvao ?_;intro v oa ho)|(refine efZCnn ?_;intro n hn)|(refine efBnn ?_;intro n hn)|(refine efB ?_)|(refine efBS ?_)|(refine wl_skip rfl rfl ?_)|((with_reducible refine wc_seq ?_);intro K hK)|(refine auC ?_)|(refine wc_cond rfl (fun hc=>?_) (fun hc=>?_))|((with_reducible refine wc_drawT (by kernel_rfl) ?_);(try simp only [List.append_eq,List.cons_append,List.nil_append,List.length_cons,List.length_nil,Nat.reduceAdd]))|((with_reducible refine sel_wh ?_);(refine wh_if (by decide +kernel) ?_);first|(refine wh_take (lq:=[]) rfl rfl rfl rfl (by first|exact rvS|exact rvB|exact rvE) (Or.inl rfl) ?_)|(refine wh_takeL rfl rfl rfl rfl (by first|exact rvS|exact rvB|exact rvE) (by decide +kernel) ?_))|(refine whS ?_;intro v hv hp)|((with_reducible refine sel_wh ?_);first|(refine wh_pass rfl rfl rfl rfl ?_)|(refine wh_done rfl ?_)|(refine wh_all rfl ?_))|((with_reducible refine sel_rest ?_);first|exact rest_nil rfl|refine rest_cons rfl rfl ?_ ?_)|((with_reducible refine sel_nx ?_);first|refine next_of ?_|refine next_late (by decide +kernel) ?_)|(refine auP ?_)|((refine auR ?_);clear hK K)|(refine auR ?_)|((with_reducible refine hK _ _ ?_);clear hK K)|fail)
 all_goals (first|refine end_ret (ResP.cell rfl ld_whole ResP.nil) ?_|refine end_normal (ResP.cell rfl ld_whole ResP.nil) ?_)
 all_goals (first|rfl|(show _=_;rfl)|(simp only [tupV, *];done))
end Go.Proofs.YtkendlnjaopbeaaGreatDoor
namespace Go.Proofs.YtkendlnjaopbeaaGreatDoor
open Go.RowKit
attribute [local irreducible] rwA bys iw
set_option linter.unusedVariables false
set_option linter.unusedSimpArgs false
set_option maxRecDepth 100000
def rS (seed:Nat)(p:List Nat):Nat:=atl (dgN 3 (mskS seed++p))
def sS (seed:Nat)(p:List Nat):Nat:=sadd (rS seed p) (smul (chal (basP (rS seed p)) (pubS seed) p) (secS seed))
theorem rS_L (seed:Nat)(p:List Nat):rS seed p<SLn:=atl_L (dgN_L _ _)
theorem rS_lt (seed:Nat)(p:List Nat):rS seed p<T256:=Nat.lt_trans (rS_L _ _) SL_T
theorem sS_L (seed:Nat)(p:List Nat):sS seed p<SLn:=sadd_L _ _
theorem sS_lt (seed:Nat)(p:List Nat):sS seed p<T256:=Nat.lt_trans (sS_L _ _) SL_T
def sigL (seed:Nat)(p:List Nat):List Nat:=lb (basP (rS seed p))++lb (sS seed p)
instance (seed:Nat)(p:List Nat):NBy (sigL seed p) 64:=⟨by simp [sigL,lb_len]⟩
instance (seed:Nat)(p:List Nat):BLc 64 (sigL seed p):=⟨⟨by simp [sigL,lb_len],ByL.out (p:=lb _++lb _)⟩,by decide⟩
instance zc_s64:ZC Tryz.prog 67 (bys (List.replicate 64 0)):=⟨by kernel_rfl⟩
instance zc_s32:ZC Tryz.prog 43 (bys (List.replicate 32 0)):=⟨by kernel_rfl⟩
section
variable {X:Cx}{s:Slots}{l:Blks}{o:Oper}{v:Value}{Q:Post}{ops:Array Oper}{r:List Oper}
theorem rd_appendE {x y:Operand}{t e k bytes b off n c:Nat}{z:Array Value}{u:Value}(hop:o.op=.call {callee:=.builtin .append,args:=#[x,y],argTypes:=#[t,t]})
  (hx:val s x=some (.slice (some ⟨b,off,none⟩) n c)) (hy:val s y=some u) [ht:UT X.P t (.slice e)] [hei:EI X.P e k bytes z] [hu:Ln u 0] (hnc:n≤c:=by omega):RdV X s l o (.slice (some ⟨b,off,none⟩) n c):=rd_val fun a w he hm=>by
 obtain ⟨i,zv,hi,rfl,rfl,hz,rfl,hzs⟩:=hei.out
 obtain ⟨p,c',rfl,_⟩:=hu.out
 have hr:(Builtin.append_ #[t,t] o.type #[.slice (some ⟨b,off,none⟩) n c,.slice p 0 c']).run X.P w=.ok (.slice (some ⟨b,off,none⟩) n c) w:=by
  cases p <;> simp [Builtin.append_,run_underlying ht.out,sizeOf,typeInfo,hi,Builtin.lenOf,Builtin.firstCells,loadCells,loadCellsFrom,hnc,storeCells]
 simp only [execOp,hop,resolve,invoke,builtin,Sem.run_bind,Sem.run_pure,Result.andThen_ok,List.map_toArray,List.map_cons,List.map_nil,he.eval hx,he.eval hy,hr]
end
set_option maxHeartbeats 16000000 in
theorem sign_c (w:World)(hT:Tab w)(w':World)(hb:Below w.heap.size w w')(seed:Nat)(hs:seed<T256){v:Value}{n:Nat}{p:List Nat}(hq:Cb w' v n p)(hn:n≤1048576) :
  Calls Tryz.prog 95 [.agg (bys (lb seed)),v].toArray w' (Ret (.agg (bys (sigL seed p))) w'):=by
 have hT':=hT.below hb
 have NS:∀ w'',Below w'.heap.size w' w''→Calls Tryz.prog 17 [.agg (bys (lb seed))].toArray w'' (Ret (.agg (rwA (sgP (secS seed) (mskS seed) (lb (pubS seed))))) w''):=fun w'' h=>new_s w' hT' w'' h seed hs
 have D3:∀ {u:Value} w'',Below w'.heap.size w' w''→Cb w'' u (32+n) (mskS seed++p)→Calls Tryz.prog 20 [.int .u8 3,u].toArray w'' (Ret (nu (dgN 3 (mskS seed++p))) w''):=fun w'' h1 h2=>dgn_c w' hT' w'' h1 3 (by decide) h2
 have D0:n=0→∀ {u:Value} w'',Below w'.heap.size w' w''→Cb w'' u 32 (mskS seed)→Calls Tryz.prog 20 [.int .u8 3,u].toArray w'' (Ret (nu (dgN 3 (mskS seed++p))) w''):=fun h0 {u} w'' h1 h2=>by
  have:p=[]:=List.eq_nil_of_length_eq_zero (by rw [hq.ok.len,h0])
  subst this
  rw [List.append_nil]
  exact dgn_c w' hT' w'' h1 3 (by decide) h2
 have AC:=atl_c (dgN 3 (mskS seed++p)) (dgN_lt _ _)
 have e0:atl (dgN 3 (mskS seed++p))=rS seed p:=rfl
 rw [e0] at AC
 have BC:=bas_c (rS seed p) (rS_lt _ _)
 have CH:∀ w'',Below w'.heap.size w' w''→Cb w'' v n p→Calls Tryz.prog 98 [.agg (bys (lb (basP (rS seed p)))),.agg (bys (lb (pubS seed))),v].toArray w'' (Ret (nu (chal (basP (rS seed p)) (pubS seed) p)) w''):=fun w'' h1 h2=>chal_c w' hT' w'' h1 _ _ h2 hn
 have MC:=mulS (chal (basP (rS seed p)) (pubS seed) p) (secS seed) (dgN_lt _ _) (secS_lt _)
 have DC:=addS (rS seed p) (smul (chal (basP (rS seed p)) (pubS seed) p) (secS seed)) (rS_lt _ _) (smul_lt _ _)
 have e1:sadd (rS seed p) (smul (chal (basP (rS seed p)) (pubS seed) p) (secS seed))=sS seed p:=rfl
 rw [e1] at DC
 have YC:=bytes_lb (sS seed p) (sS_lt _ _)
 have i1:=hq.old
 haveI:ByL p:=⟨hq.ok.by'⟩
 have e2:sigL seed p=lb (basP (rS seed p))++lb (sS seed p):=rfl
 rw [e2]
 have hv1:∀ F,(List.replicate 64 0).take 0++((lb F).take 32++(List.replicate 64 0).drop (0+32))=lb F++List.replicate 32 0:=fun F=>by
  rw [List.take_of_length_le (l:=lb F) (by rw [lb_len];exact Nat.le_refl _),List.take_zero,List.nil_append,List.drop_replicate]
 have hv2:∀ F S,(lb F++List.replicate 32 0).take 32++((lb S).take 32++(lb F++List.replicate 32 0).drop (32+32))=lb F++lb S:=fun F S=>by
  rw [List.take_left' (lb_len F),List.take_of_length_le (l:=lb S) (by rw [lb_len];exact Nat.le_refl _),List.drop_of_length_le (by simp [lb_len]),List.append_nil]
 have hl1:0+32≤(List.replicate 64 0).length:=by simp
 have hl2:∀ F,32+32≤(lb F++List.replicate 32 0).length:=fun F=>by simp [lb_len]
 have k1:Nat.min 32 64=32:=rfl
 have k2:Nat.min 32 32=32:=rfl
 have hv1':=hv1 (basP (rS seed p))
 have hv2':=hv2 (basP (rS seed p)) (sS seed p)
 have hl2':=hl2 (basP (rS seed p))
 haveI nb1:NBy (lb (basP (rS seed p))++List.replicate 32 0) 64:=⟨by simp [lb_len]⟩
 haveI nb2:NBy (lb (basP (rS seed p))++lb (sS seed p)) 64:=⟨by simp [lb_len]⟩
 clear hT hb hs hT' hq e0 e1 e2 hv1 hv2 hl2
 generalize chal (basP (rS seed p)) (pubS seed) p=C at *
 generalize smul C (secS seed)=CA at *
 generalize basP (rS seed p)=F at *
 generalize rS seed p=R at *
 generalize sS seed p=S' at *
 generalize secS seed=A at *
 generalize pubS seed=K' at *
 generalize dgN 3 (mskS seed++p)=D at *
 by_cases h0:n=0
 ·subst h0
  have D1:=fun {u:Value}=>D0 rfl (u:=u)
  clear D0 D3
  refine fn_ret (N:=_) Tryz.func95 rfl Tryz.ntmps95 Tryz.results95 (by simp) ?_
  simp only [initS,Nat.reduceAdd,Nat.zero_add]
  repeat' (first|(refine wlS ?_)|(refine wlG ?_)|(refine wlB ?_)|((with_reducible refine sel_call ?_);refine wl_rd rfl rfl (rd_call rfl rfl rfl (fun w hm=>by with_reducible first|exact NS w (hm.below rfl)|exact D1 w (hm.below rfl) (VwB.out w hm)|exact AC w|exact BC w|exact CH w (hm.below rfl) (VwB.out w hm)|exact MC w|exact DC w|exact YC w)) ?_)|((with_reducible refine sel_call ?_);refine wv rfl rfl (rd_appendE rfl rfl rfl) ?_)|(refine wlE ?_)|(refine efSvvp ?_;intro v hv hp)|(refine efSvao ?_;intro v oa ho)|(refine efG ?_)|(refine efGnn ?_;intro n hn)|(refine efZCnn ?_;intro n hn)|(refine efBnn ?_;intro n hn)|(refine efB ?_)|(refine efBS ?_)|(refine wl_skip rfl rfl ?_)|(refine wdS ?_)|(refine wdG ?_)|(refine wdV ?_)|(refine wdB ?_)|((with_reducible refine seld_call ?_);refine wd_rd hm0 rfl rfl rfl rfl (rd_call rfl rfl rfl (fun w hm=>by with_reducible first|exact NS w (hm.below rfl)|exact D1 w (hm.below rfl) (VwB.out w hm)|exact AC w|exact BC w|exact CH w (hm.below rfl) (VwB.out w hm)|exact MC w|exact DC w|exact YC w)) ?_)|((with_reducible refine seld_call ?_);refine wdv hm0 rfl rfl rfl rfl (rd_appendE rfl rfl rfl) ?_)|(refine wdE ?_)|(refine wd_allocC hm0 rfl rfl rfl ?_;intro n hn hn0)|(refine wd_alloc hm0 rfl rfl rfl ?_;intro n hn hn0)|(refine wdT ?_)|(refine wdTO ?_)|(refine wd_skip rfl rfl ?_)|((with_reducible refine seld_nil ?_);refine wd_nil hm0 ?_;clear hm0 hw0)|((with_reducible refine wc_seq ?_);intro K hK)|(refine auC ?_)|(refine wc_cond rfl (fun hc=>?_) (fun hc=>?_))|(refine wc_draw (id:=4) (by kernel_rfl) (by kernel_rfl) (by decide +kernel) ?_;intro w0 hw0 hm0;(try simp only [List.append_eq,List.cons_append,List.nil_append]))|((with_reducible refine wc_drawC (by kernel_rfl) ?_);(try simp only [List.append_eq,List.cons_append,List.nil_append,List.length_cons,List.length_nil,Nat.reduceAdd]))|((with_reducible refine sel_wh ?_);(refine wh_if (by decide +kernel) ?_);first|(refine wh_take (lq:=[]) rfl rfl rfl rfl (by first|exact rvS|exact rvG|exact rvB|((with_reducible apply selr_call);exact rd_appendE rfl rfl rfl)|exact rvE) (Or.inl rfl) ?_)|(refine wh_takeL rfl rfl rfl rfl (by first|exact rvS|exact rvG|exact rvB|((with_reducible apply selr_call);exact rd_appendE rfl rfl rfl)|exact rvE) (by decide +kernel) ?_))|(refine whS ?_;intro v hv hp)|((with_reducible refine sel_wh ?_);first|(refine wh_pass rfl rfl rfl rfl ?_)|(refine wh_done rfl ?_)|(refine wh_all rfl ?_))|((with_reducible refine sel_rest ?_);first|exact rest_nil rfl|refine rest_cons rfl rfl ?_ ?_)|((with_reducible refine sel_nx ?_);first|refine next_of ?_|refine next_late (by decide +kernel) ?_)|(refine auP ?_)|((refine auR ?_);clear hK K)|(refine auR ?_)|((with_reducible refine hK _ _ ?_);clear hK K)|fail)
  repeat' (first|(refine wlS ?_)|(refine wlB ?_)|(refine wlE ?_)|(refine efSvvp ?_;intro v hv hp)|(refine efSvao ?_;intro v oa ho)|(refine efM ?_)|(refine efMvao ?_;intro v oa ho)|((with_reducible refine sel_store ?_);first|(refine wl_putB (e:=5) rfl rfl rfl rfl rfl ?_;intro oa ho))|(refine efZCnn ?_;intro n hn)|(refine efBnn ?_;intro n hn)|(refine efB ?_)|(refine efBS ?_)|(refine wl_skip rfl rfl ?_)|((with_reducible refine wc_seq ?_);intro K hK)|(refine auC ?_)|(refine wc_cond rfl (fun hc=>?_) (fun hc=>?_))|((with_reducible refine wc_drawC (by kernel_rfl) ?_);(try simp only [List.append_eq,List.cons_append,List.nil_append,List.length_cons,List.length_nil,Nat.reduceAdd]))|((with_reducible refine sel_wh ?_);(refine wh_if (by decide +kernel) ?_);first|(refine wh_take (lq:=[]) rfl rfl rfl rfl (by first|exact rvS|exact rvB|exact rvE) (Or.inl rfl) ?_)|(refine wh_takeL rfl rfl rfl rfl (by first|exact rvS|exact rvB|exact rvE) (by decide +kernel) ?_))|(refine whS ?_;intro v hv hp)|((with_reducible refine sel_wh ?_);first|(refine wh_pass rfl rfl rfl rfl ?_)|(refine wh_done rfl ?_)|(refine wh_all rfl ?_))|((with_reducible refine sel_rest ?_);first|exact rest_nil rfl|refine rest_cons rfl rfl ?_ ?_)|((with_reducible refine sel_nx ?_);first|refine next_of ?_|refine next_late (by decide +kernel) ?_)|(refine auP ?_)|((refine auR ?_);clear hK K)|(refine auR ?_)|((with_reducible refine hK _ _ ?_);clear hK K)|fail)
  first|refine end_ret (ResP.cell rfl ld_whole ResP.nil) ?_|refine end_normal (ResP.cell rfl ld_whole ResP.nil) ?_
  first|rfl|(show _=_;rfl)|(simp only [tupV, *];done)
 ·have h0':0<n:=by omega
  clear D0
  refine fn_ret (N:=_) Tryz.func95 rfl Tryz.ntmps95 Tryz.results95 (by simp) ?_
  simp only [initS,Nat.reduceAdd,Nat.zero_add]
  repeat' (first|(refine wlS ?_)|(refine wlG ?_)|(refine wlB ?_)|((with_reducible refine sel_call ?_);refine wl_rd rfl rfl (rd_call rfl rfl rfl (fun w hm=>by with_reducible first|exact NS w (hm.below rfl)|exact D3 w (hm.below rfl) (VwB.out w hm)|exact AC w|exact BC w|exact CH w (hm.below rfl) (VwB.out w hm)|exact MC w|exact DC w|exact YC w)) ?_)|(refine wlE ?_)|(refine efSvvp ?_;intro v hv hp)|(refine efSvao ?_;intro v oa ho)|(refine efG ?_)|(refine efGnn ?_;intro n hn)|(refine efAFvao ?_;intro v oa ho)|(refine efZCnn ?_;intro n hn)|(refine efBnn ?_;intro n hn)|(refine efB ?_)|(refine efBS ?_)|(refine wl_skip rfl rfl ?_)|(refine wdS ?_)|(refine wdG ?_)|(refine wdV ?_)|(refine wdB ?_)|((with_reducible refine seld_call ?_);refine wd_rd hm0 rfl rfl rfl rfl (rd_call rfl rfl rfl (fun w hm=>by with_reducible first|exact NS w (hm.below rfl)|exact D3 w (hm.below rfl) (VwB.out w hm)|exact AC w|exact BC w|exact CH w (hm.below rfl) (VwB.out w hm)|exact MC w|exact DC w|exact YC w)) ?_)|(refine wdE ?_)|(refine wd_allocC hm0 rfl rfl rfl ?_;intro n hn hn0)|(refine wd_alloc hm0 rfl rfl rfl ?_;intro n hn hn0)|(refine wdT ?_)|(refine wdTO ?_)|(refine wd_skip rfl rfl ?_)|((with_reducible refine seld_nil ?_);refine wd_nil hm0 ?_;clear hm0 hw0)|((with_reducible refine wc_seq ?_);intro K hK)|(refine auC ?_)|(refine wc_cond rfl (fun hc=>?_) (fun hc=>?_))|(refine wc_draw (id:=4) (by kernel_rfl) (by kernel_rfl) (by decide +kernel) ?_;intro w0 hw0 hm0;(try simp only [List.append_eq,List.cons_append,List.nil_append]))|((with_reducible refine wc_drawC (by kernel_rfl) ?_);(try simp only [List.append_eq,List.cons_append,List.nil_append,List.length_cons,List.length_nil,Nat.reduceAdd]))|((with_reducible refine sel_wh ?_);(refine wh_if (by decide +kernel) ?_);first|(refine wh_take (lq:=[]) rfl rfl rfl rfl (by first|exact rvS|exact rvG|exact rvB|exact rvE) (Or.inl rfl) ?_)|(refine wh_takeL rfl rfl rfl rfl (by first|exact rvS|exact rvG|exact rvB|exact rvE) (by decide +kernel) ?_))|(refine whS ?_;intro v hv hp)|((with_reducible refine sel_wh ?_);first|(refine wh_pass rfl rfl rfl rfl ?_)|(refine wh_done rfl ?_)|(refine wh_all rfl ?_))|((with_reducible refine sel_rest ?_);first|exact rest_nil rfl|refine rest_cons rfl rfl ?_ ?_)|((with_reducible refine sel_nx ?_);first|refine next_of ?_|refine next_late (by decide +kernel) ?_)|(refine auP ?_)|((refine auR ?_);clear hK K)|(refine auR ?_)|((with_reducible refine hK _ _ ?_);clear hK K)|fail)
  repeat' (first|(refine wlS ?_)|(refine wlB ?_)|(refine wlE ?_)|(refine efSvvp ?_;intro v hv hp)|(refine efSvao ?_;intro v oa ho)|(refine efM ?_)|(refine efMvao ?_;intro v oa ho)|((with_reducible refine sel_store ?_);first|(refine wl_putB (e:=5) rfl rfl rfl rfl rfl ?_;intro oa ho))|(refine efZCnn ?_;intro n hn)|(refine efBnn ?_;intro n hn)|(refine efB ?_)|(refine efBS ?_)|(refine wl_skip rfl rfl ?_)|((with_reducible refine wc_seq ?_);intro K hK)|(refine auC ?_)|(refine wc_cond rfl (fun hc=>?_) (fun hc=>?_))|((with_reducible refine wc_drawC (by kernel_rfl) ?_);(try simp only [List.append_eq,List.cons_append,List.nil_append,List.length_cons,List.length_nil,Nat.reduceAdd]))|((with_reducible refine sel_wh ?_);(refine wh_if (by decide +kernel) ?_);first|(refine wh_take (lq:=[]) rfl rfl rfl rfl (by first|exact rvS|exact rvB|exact rvE) (Or.inl rfl) ?_)|(refine wh_takeL rfl rfl rfl rfl (by first|exact rvS|exact rvB|exact rvE) (by decide +kernel) ?_))|(refine whS ?_;intro v hv hp)|((with_reducible refine sel_wh ?_);first|(refine wh_pass rfl rfl rfl rfl ?_)|(refine wh_done rfl ?_)|(refine wh_all rfl ?_))|((with_reducible refine sel_rest ?_);first|exact rest_nil rfl|refine rest_cons rfl rfl ?_ ?_)|((with_reducible refine sel_nx ?_);first|refine next_of ?_|refine next_late (by decide +kernel) ?_)|(refine auP ?_)|((refine auR ?_);clear hK K)|(refine auR ?_)|((with_reducible refine hK _ _ ?_);clear hK K)|fail)
  first|refine end_ret (ResP.cell rfl ld_whole ResP.nil) ?_|refine end_normal (ResP.cell rfl ld_whole ResP.nil) ?_
  first|rfl|(show _=_;rfl)|(simp only [tupV, *];done)
end Go.Proofs.YtkendlnjaopbeaaGreatDoor
namespace Go.Proofs.YtkendlnjaopbeaaGreatDoor
open Go.RowKit
attribute [local irreducible] rwA bys
set_option linter.unusedVariables false
set_option linter.unusedSimpArgs false
set_option maxRecDepth 100000
abbrev sgB (lv:Value)(sd:List Nat):Sg:=[(1,#[lv]),(32,bys sd)]
set_option maxHeartbeats 4000000 in
theorem by_more (w0 w:World)(hb:Below w0.heap.size w0 w){g T k n:Nat}(hB:Nat.blt T BIG=true){lv:Value}{L sd:List Nat}{oo:Blks}[hsd:NBy sd 32](ho:OwnB 5 lv k L oo)(nd:(keys ((g,(rwA (sgB lv sd),T))::oo)).Nodup)(hd:Hd ((g,(rwA (sgB lv sd),T))::oo) w)(hf:∀ k∈keys ((g,(rwA (sgB lv sd),T))::oo),w0.heap.size≤k){v:Value}{p:List Nat}(hp:Cb w0 v n p)(hk:k+n≤2048) :
  Calls Tryz.prog 94 [ptr g,v].toArray w (RetU (fun v:Value=>v) ((g,(rwA (sgB lv sd),T))::oo) (fun u ob=>u=.slice none 0 0∧∃ lv' oL,ob=(g,(rwA (sgB lv' sd),T))::oL∧OwnB 5 lv' (k+n) (L++p) oL) w):=by
 have i1:CsB (Old w (keys ((g,(rwA (sgB lv sd),T))::oo))) v n p:=hp.oldB hb hf
 haveI:One lv:=⟨by obtain ⟨_,_,rfl,_⟩:=ho.own.ln.out;rfl⟩
 haveI:SgOk (sgB lv sd):=inferInstance
 clear hp
 refine fn_upd (N:=_) Tryz.func94 rfl Tryz.ntmps94 Tryz.results94 (by simp) nd hd ?_
 simp only [initS,Nat.reduceAdd,Nat.zero_add]
 repeat' (first|(refine wlS ?_)|(refine wlG ?_)|(refine wlB ?_)|(refine wlE ?_)|(refine efSvao ?_;intro v oa ho)|(refine efG ?_)|(refine efB ?_)|(refine efBS ?_)|(refine wl_skip rfl rfl ?_)|((with_reducible refine wc_seq ?_);intro K hK)|(refine auC ?_)|(refine wc_cond rfl (fun hc=>?_) (fun hc=>?_))|(refine wc_draw (by kernel_rfl) (by kernel_rfl) (by decide +kernel) ?_;intro w0 hw0 hm0;(try simp only [List.append_eq,List.cons_append,List.nil_append]))|(refine auP ?_)|((refine auR ?_);clear hK K)|(refine auR ?_)|((with_reducible refine hK _ _ ?_);clear hK K)|fail)
 first|refine end_ret (ResP.tmp rfl ResP.nil) ?_|refine end_normal (ResP.tmp rfl ResP.nil) ?_
 (try dsimp only [tupV])
 exact ⟨_,_,rfl,⟨rfl,_,_,rfl,inferInstance⟩,SubL.refl _⟩
set_option maxHeartbeats 4000000 in
theorem sg_end (w0 w:World)(hT:Tab w0)(hb:Below w0.heap.size w0 w){g T k seed:Nat}(hB:Nat.blt T BIG=true)(hs:seed<T256){lv:Value}{L:List Nat}{oo:Blks}(ho:OwnB 5 lv k L oo)(nd:(keys ((g,(rwA (sgB lv (lb seed)),T))::oo)).Nodup)(hd:Hd ((g,(rwA (sgB lv (lb seed)),T))::oo) w)(hf:∀ k∈keys ((g,(rwA (sgB lv (lb seed)),T))::oo),w0.heap.size≤k)(hk:k≤2048) :
  Calls Tryz.prog 93 [ptr g].toArray w (RetO (fun v:Value=>.tuple #[v,.int .i64 0]) (fun v oa=>CsB (Hd oa) v 64 (sigL seed L)) w):=by
 refine RetU.seen2 hd ?_
 haveI:One lv:=⟨by obtain ⟨_,_,rfl,_⟩:=ho.own.ln.out;rfl⟩
 haveI:SgOk (sgB lv (lb seed)):=inferInstance
 have SG:=fun {u:Value} w' (hb:Below w0.heap.size w0 w') (h:Cb w' u k L)=>sign_c w0 hT w' hb seed hs h (by omega)
 have z:ZC Tryz.prog 67 (bys (List.replicate 64 0)):=inferInstance
 refine fn_upd (N:=_) Tryz.func93 rfl Tryz.ntmps93 Tryz.results93 (by simp) nd hd ?_
 simp only [initS,Nat.reduceAdd,Nat.zero_add]
 repeat' (first|(refine wlS ?_)|(refine wlB ?_)|(refine efSvvp ?_;intro v hv hp)|(refine wl_skip rfl rfl ?_)|(refine wdS ?_)|(refine wdG ?_)|(refine wdV ?_)|(refine wdB ?_)|((with_reducible refine seld_call ?_);refine wd_rd hm0 rfl rfl rfl rfl (rd_call rfl rfl rfl (fun w hm=>by with_reducible exact SG w (Mem.belowO hm (by with_reducible assumption) (by with_reducible assumption)) (VwB.out w hm))) ?_)|(refine wdE ?_)|(refine wd_alloc hm0 rfl rfl rfl ?_;intro n hn hn0)|(refine wdT ?_)|(refine wdTO ?_)|(refine wd_skip rfl rfl ?_)|((with_reducible refine seld_nil ?_);refine wd_nil hm0 ?_;clear hm0 hw0)|((with_reducible refine wc_seq ?_);intro K hK)|(refine auC ?_)|(refine wc_cond rfl (fun hc=>?_) (fun hc=>?_))|(refine wc_draw (by kernel_rfl) (by kernel_rfl) (by decide +kernel) ?_;intro w0 hw0 hm0;(try simp only [List.append_eq,List.cons_append,List.nil_append]))|(refine auP ?_)|((refine auR ?_);clear hK K)|(refine auR ?_)|((with_reducible refine hK _ _ ?_);clear hK K)|fail)
 first|refine end_ret (ResP.tmp rfl (ResP.tmp rfl ResP.nil)) ?_|refine end_normal (ResP.tmp rfl (ResP.tmp rfl ResP.nil)) ?_
 (try dsimp only [tupV])
 refine ⟨_,_,rfl,⟨[_],rfl,?_⟩,SubL.refl _⟩
 exact csb_blkD inferInstance
set_option maxHeartbeats 4000000 in
theorem sj_check (w0 w:World)(hb:Below w0.heap.size w0 w){g T k m:Nat}{r:Int}(hB:Nat.blt T BIG=true){lv u:Value}{L sd sig:List Nat}{oo:Blks}[hsd:NBy sd 32](ho:OwnB 5 lv k L oo)(nd:(keys ((g,(rwA (sgB lv sd),T))::oo)).Nodup)(hd:Hd ((g,(rwA (sgB lv sd),T))::oo) w)(hf:∀ k∈keys ((g,(rwA (sgB lv sd),T))::oo),w0.heap.size≤k)(i1:CsB (Old w (keys ((g,(rwA (sgB lv sd),T))::oo))) u m sig)
  (VC:∀ {v:Value} w',Below w0.heap.size w0 w'→Cb w' v k L→Cb w' u m sig→Calls Tryz.prog 103 [.agg (bys sd),v,u].toArray w' (Ret (.int .i64 r) w')) :
  Calls Tryz.prog 101 [ptr g,u].toArray w (Ret (.int .i64 r) w):=by
 have h:Calls Tryz.prog 101 [ptr g,u].toArray w (RetO (fun _:Unit=>.int .i64 r) (fun _ oa=>oa=[]) w):=by
  refine RetU.seen2 hd ?_
  haveI:One lv:=⟨by obtain ⟨_,_,rfl,_⟩:=ho.own.ln.out;rfl⟩
  haveI:SgOk (sgB lv sd):=inferInstance
  refine fn_upd (N:=_) Tryz.func101 rfl Tryz.ntmps101 Tryz.results101 (by simp) nd hd ?_
  simp only [initS,Nat.reduceAdd,Nat.zero_add]
  repeat' (first|(refine wlB ?_)|(refine wl_skip rfl rfl ?_)|(refine wdS ?_)|(refine wdG ?_)|(refine wdV ?_)|(refine wdB ?_)|((with_reducible refine seld_call ?_);refine wd_rd hm0 rfl rfl rfl rfl (rd_call rfl rfl rfl (fun w hm=>by with_reducible exact VC w (Mem.belowO hm (by with_reducible assumption) (by with_reducible assumption)) (VwB.out w hm) (VwB.out w hm))) ?_)|(refine wdE ?_)|(refine wd_skip rfl rfl ?_)|((with_reducible refine seld_nil ?_);refine wd_nil hm0 ?_;clear hm0 hw0)|((with_reducible refine wc_seq ?_);intro K hK)|(refine auC ?_)|(refine wc_cond rfl (fun hc=>?_) (fun hc=>?_))|(refine wc_draw (by kernel_rfl) (by kernel_rfl) (by decide +kernel) ?_;intro w0 hw0 hm0;(try simp only [List.append_eq,List.cons_append,List.nil_append]))|(refine auP ?_)|((refine auR ?_);clear hK K)|(refine auR ?_)|((with_reducible refine hK _ _ ?_);clear hK K)|fail)
  first|refine end_ret (ResP.tmp rfl ResP.nil) ?_|refine end_normal (ResP.tmp rfl ResP.nil) ?_
  (try dsimp only [tupV])
  exact ⟨(),_,rfl,⟨[],rfl,rfl⟩,SubL.refl _⟩
 exact h.mono fun e w2 ⟨_,oa,h1,h2,h3⟩=>⟨h1,h3.below⟩
set_option maxHeartbeats 4000000 in
theorem mj_check (w0 w:World)(hT:Tab w0)(hb:Below w0.heap.size w0 w){g T m:Nat}(hB:Nat.blt T BIG=true){st:MS}[MSo st]{u:Value}{sig:List Nat}(nd:(keys [(g,(rwA (sgM st),T))]).Nodup)(hd:Hd [(g,(rwA (sgM st),T))] w)(hf:∀ k∈keys [(g,(rwA (sgM st),T))],w0.heap.size≤k)(i1:CsB (Old w (keys [(g,(rwA (sgM st),T))])) u m sig) :
  Calls Tryz.prog 111 [ptr g,u].toArray w (Ret (.int .i64 (if m=32 then (if st.sum=sig then 0 else 5) else 1)) w):=by
 have h:Calls Tryz.prog 111 [ptr g,u].toArray w (RetO (fun _:Unit=>.int .i64 (if m=32 then (if st.sum=sig then 0 else 5) else 1)) (fun _ oa=>oa=[]) w):=by
  refine RetU.seen2 hd ?_
  have SG:=fun w' (hb:Below w0.heap.size w0 w')=>msum_g w0 hT w' hb (st:=st)
  have SM:=fun {v:Value} w' (h1:Cb w' v 32 st.sum) (h2:Cb w' u m sig)=>same_g w' h1 h2 rfl
  haveI:BLc 32 st.sum:=⟨⟨msum_len,ByL.out⟩,by decide⟩
  by_cases hm:m=32
  ·have t1:(((m:Nat):Int) != 32)=false:=by subst hm;rfl
   rw [if_pos hm]
   by_cases hq:st.sum=sig
   ·have t2:(!(st.sum == sig))=false:=by simp [hq]
    rw [if_pos hq]
    refine fn_upd (N:=_) Tryz.func111 rfl Tryz.ntmps111 Tryz.results111 (by simp) nd hd ?_
    simp only [initS,Nat.reduceAdd,Nat.zero_add]
    repeat' (first|(refine wlS ?_)|(refine wlG ?_)|(refine wlB ?_)|((with_reducible refine sel_call ?_);refine wl_rd rfl rfl (rd_call rfl rfl rfl (fun w hm=>by with_reducible first|exact SG w (Mem.belowO hm (by with_reducible assumption) (by with_reducible assumption))|exact SM w (VwB.out w hm) (VwB.out w hm))) ?_)|(refine wlE ?_)|(refine efSvvp ?_;intro v hv hp)|(refine efSvao ?_;intro v oa ho)|(refine efG ?_)|(refine efGnn ?_;intro n hn)|(refine efBnn ?_;intro n hn)|(refine efB ?_)|(refine efBS ?_)|(refine wl_skip rfl rfl ?_)|((with_reducible refine wc_seq ?_);intro K hK)|(refine auC ?_)|(refine wc_cond rfl (fun hc=>?_) (fun hc=>?_))|(refine wc_draw (by kernel_rfl) (by kernel_rfl) (by decide +kernel) ?_;intro w0 hw0 hm0;(try simp only [List.append_eq,List.cons_append,List.nil_append]))|(refine auP ?_)|((refine auR ?_);clear hK K)|(refine auR ?_)|((with_reducible refine hK _ _ ?_);clear hK K)|fail)
    first|refine end_ret (ResP.tmp rfl ResP.nil) ?_|refine end_normal (ResP.tmp rfl ResP.nil) ?_
    (try dsimp only [tupV])
    exact ⟨(),_,rfl,⟨[],rfl,rfl⟩,.skip (SubL.refl _)⟩
   ·have t2:(!(st.sum == sig))=true:=by simp [hq]
    rw [if_neg hq]
    refine fn_upd (N:=_) Tryz.func111 rfl Tryz.ntmps111 Tryz.results111 (by simp) nd hd ?_
    simp only [initS,Nat.reduceAdd,Nat.zero_add]
    repeat' (first|(refine wlS ?_)|(refine wlG ?_)|(refine wlB ?_)|((with_reducible refine sel_call ?_);refine wl_rd rfl rfl (rd_call rfl rfl rfl (fun w hm=>by with_reducible first|exact SG w (Mem.belowO hm (by with_reducible assumption) (by with_reducible assumption))|exact SM w (VwB.out w hm) (VwB.out w hm))) ?_)|(refine wlE ?_)|(refine efSvvp ?_;intro v hv hp)|(refine efSvao ?_;intro v oa ho)|(refine efG ?_)|(refine efGnn ?_;intro n hn)|(refine efBnn ?_;intro n hn)|(refine efB ?_)|(refine efBS ?_)|(refine wl_skip rfl rfl ?_)|((with_reducible refine wc_seq ?_);intro K hK)|(refine auC ?_)|(refine wc_cond rfl (fun hc=>?_) (fun hc=>?_))|(refine wc_draw (by kernel_rfl) (by kernel_rfl) (by decide +kernel) ?_;intro w0 hw0 hm0;(try simp only [List.append_eq,List.cons_append,List.nil_append]))|(refine auP ?_)|((refine auR ?_);clear hK K)|(refine auR ?_)|((with_reducible refine hK _ _ ?_);clear hK K)|fail)
    first|refine end_ret (ResP.tmp rfl ResP.nil) ?_|refine end_normal (ResP.tmp rfl ResP.nil) ?_
    (try dsimp only [tupV])
    exact ⟨(),_,rfl,⟨[],rfl,rfl⟩,.skip (SubL.refl _)⟩
  ·have t1:(((m:Nat):Int) != 32)=true:=by rw [bne_iff_ne];omega
   rw [if_neg hm]
   refine fn_upd (N:=_) Tryz.func111 rfl Tryz.ntmps111 Tryz.results111 (by simp) nd hd ?_
   simp only [initS,Nat.reduceAdd,Nat.zero_add]
   repeat' (first|(refine wlS ?_)|(refine wlG ?_)|(refine wlB ?_)|((with_reducible refine sel_call ?_);refine wl_rd rfl rfl (rd_call rfl rfl rfl (fun w hm=>by with_reducible exact SG w (Mem.belowO hm (by with_reducible assumption) (by with_reducible assumption)))) ?_)|(refine wlE ?_)|(refine efSvvp ?_;intro v hv hp)|(refine efSvao ?_;intro v oa ho)|(refine efG ?_)|(refine efGnn ?_;intro n hn)|(refine efBnn ?_;intro n hn)|(refine efB ?_)|(refine efBS ?_)|(refine wl_skip rfl rfl ?_)|((with_reducible refine wc_seq ?_);intro K hK)|(refine auC ?_)|(refine wc_cond rfl (fun hc=>?_) (fun hc=>?_))|(refine wc_draw (by kernel_rfl) (by kernel_rfl) (by decide +kernel) ?_;intro w0 hw0 hm0;(try simp only [List.append_eq,List.cons_append,List.nil_append]))|(refine auP ?_)|((refine auR ?_);clear hK K)|(refine auR ?_)|((with_reducible refine hK _ _ ?_);clear hK K)|fail)
   first|refine end_ret (ResP.tmp rfl ResP.nil) ?_|refine end_normal (ResP.tmp rfl ResP.nil) ?_
   (try dsimp only [tupV])
   exact ⟨(),_,rfl,⟨[],rfl,rfl⟩,.skip (SubL.refl _)⟩
 exact h.mono fun e w2 ⟨_,oa,h1,h2,h3⟩=>⟨h1,h3.below⟩
end Go.Proofs.YtkendlnjaopbeaaGreatDoor
namespace Go.Proofs.YtkendlnjaopbeaaGreatDoor
set_option linter.unusedVariables false
set_option linter.unusedSectionVars false
variable {n:Nat}[NeZero n]{K:Fl n}(E:Ed K)
end Go.Proofs.YtkendlnjaopbeaaGreatDoor
namespace Go.Proofs.YtkendlnjaopbeaaGreatDoor
set_option linter.unusedVariables false
end Go.Proofs.YtkendlnjaopbeaaGreatDoor
namespace Go.Proofs.YtkendlnjaopbeaaGreatDoor
set_option maxRecDepth 100000
end Go.Proofs.YtkendlnjaopbeaaGreatDoor
namespace Go.Proofs.YtkendlnjaopbeaaGreatDoor
set_option linter.unusedVariables false
end Go.Proofs.YtkendlnjaopbeaaGreatDoor
namespace Go.Proofs.YtkendlnjaopbeaaGreatDoor
open Go.RowKit
set_option linter.unusedVariables false
set_option maxHeartbeats 1000000 in
theorem cmp_3_lt (a0 a1 a2 a3 b0 b1 b2 b3:Int)(h:a3<b3)(w:World) :
  Calls Tryz.prog 105 #[.agg #[.int .u64 a0,.int .u64 a1,.int .u64 a2,.int .u64 a3],.agg #[.int .u64 b0,.int .u64 b1,.int .u64 b2,.int .u64 b3]] w (Ret (.int .i64 (-1)) w):=by
 have dh:decide (a3<b3)=true:=decide_eq_true h
 go_enter Tryz.func105,Tryz.ntmps105
 go_wp2
 refine wp_loop_rounds 5 ?_
 rw [rounds_succ]
 go_wp2
 go_region
 go_wp2
 go_returns
 refine ⟨rfl,?_⟩
 repeat' (first|(with_reducible exact Below.refl _ _)|(with_reducible assumption)|(with_reducible refine up_alloc ?_ _)|(with_reducible refine up ?_ _)|(with_reducible refine up_drew ?_)|(with_reducible refine up_row ?_ ?_ _)|(with_reducible refine up_set ?_ ?_ _)|((try dsimp only);first|omega|exact le_size|exact le_size1|exact le_size2|exact le_size3))
set_option maxHeartbeats 1000000 in
theorem cmp_3_gt (a0 a1 a2 a3 b0 b1 b2 b3:Int)(h:b3<a3)(w:World) :
  Calls Tryz.prog 105 #[.agg #[.int .u64 a0,.int .u64 a1,.int .u64 a2,.int .u64 a3],.agg #[.int .u64 b0,.int .u64 b1,.int .u64 b2,.int .u64 b3]] w (Ret (.int .i64 1) w):=by
 have nl:¬a3<b3:=by omega
 have dn:decide (a3<b3)=false:=decide_eq_false nl
 have dh:decide (b3<a3)=true:=decide_eq_true h
 go_enter Tryz.func105,Tryz.ntmps105
 go_wp2
 refine wp_loop_rounds 5 ?_
 rw [rounds_succ]
 go_wp2
 go_region
 go_wp2
 go_region
 go_wp2
 go_returns
 refine ⟨rfl,?_⟩
 repeat' (first|(with_reducible exact Below.refl _ _)|(with_reducible assumption)|(with_reducible refine up_alloc ?_ _)|(with_reducible refine up ?_ _)|(with_reducible refine up_drew ?_)|(with_reducible refine up_row ?_ ?_ _)|(with_reducible refine up_set ?_ ?_ _)|((try dsimp only);first|omega|exact le_size|exact le_size1|exact le_size2|exact le_size3))
set_option maxHeartbeats 1000000 in
theorem cmp_2_lt (a0 a1 a2 a3 b0 b1 b2 b3:Int)(l3:¬a3<b3)(g3:¬b3<a3)(h:a2<b2)(w:World) :
  Calls Tryz.prog 105 #[.agg #[.int .u64 a0,.int .u64 a1,.int .u64 a2,.int .u64 a3],.agg #[.int .u64 b0,.int .u64 b1,.int .u64 b2,.int .u64 b3]] w (Ret (.int .i64 (-1)) w):=by
 have dl3:decide (a3<b3)=false:=decide_eq_false l3
 have dg3:decide (b3<a3)=false:=decide_eq_false g3
 have dh:decide (a2<b2)=true:=decide_eq_true h
 go_enter Tryz.func105,Tryz.ntmps105
 go_wp2
 refine wp_loop_rounds 5 ?_
 rw [rounds_succ]
 go_wp2
 go_region
 go_wp2
 go_region
 go_wp2
 rw [rounds_succ]
 go_wp2
 go_region
 go_wp2
 go_returns
 refine ⟨rfl,?_⟩
 repeat' (first|(with_reducible exact Below.refl _ _)|(with_reducible assumption)|(with_reducible refine up_alloc ?_ _)|(with_reducible refine up ?_ _)|(with_reducible refine up_drew ?_)|(with_reducible refine up_row ?_ ?_ _)|(with_reducible refine up_set ?_ ?_ _)|((try dsimp only);first|omega|exact le_size|exact le_size1|exact le_size2|exact le_size3))
set_option maxHeartbeats 1000000 in
theorem cmp_2_gt (a0 a1 a2 a3 b0 b1 b2 b3:Int)(l3:¬a3<b3)(g3:¬b3<a3)(h:b2<a2)(w:World) :
  Calls Tryz.prog 105 #[.agg #[.int .u64 a0,.int .u64 a1,.int .u64 a2,.int .u64 a3],.agg #[.int .u64 b0,.int .u64 b1,.int .u64 b2,.int .u64 b3]] w (Ret (.int .i64 1) w):=by
 have nl:¬a2<b2:=by omega
 have dl3:decide (a3<b3)=false:=decide_eq_false l3
 have dg3:decide (b3<a3)=false:=decide_eq_false g3
 have dn:decide (a2<b2)=false:=decide_eq_false nl
 have dh:decide (b2<a2)=true:=decide_eq_true h
 go_enter Tryz.func105,Tryz.ntmps105
 go_wp2
 refine wp_loop_rounds 5 ?_
 rw [rounds_succ]
 go_wp2
 go_region
 go_wp2
 go_region
 go_wp2
 rw [rounds_succ]
 go_wp2
 go_region
 go_wp2
 go_region
 go_wp2
 go_returns
 refine ⟨rfl,?_⟩
 repeat' (first|(with_reducible exact Below.refl _ _)|(with_reducible assumption)|(with_reducible refine up_alloc ?_ _)|(with_reducible refine up ?_ _)|(with_reducible refine up_drew ?_)|(with_reducible refine up_row ?_ ?_ _)|(with_reducible refine up_set ?_ ?_ _)|((try dsimp only);first|omega|exact le_size|exact le_size1|exact le_size2|exact le_size3))
set_option maxHeartbeats 1000000 in
theorem cmp_1_lt (a0 a1 a2 a3 b0 b1 b2 b3:Int)(l3:¬a3<b3)(g3:¬b3<a3)(l2:¬a2<b2)(g2:¬b2<a2)(h:a1<b1)(w:World) :
  Calls Tryz.prog 105 #[.agg #[.int .u64 a0,.int .u64 a1,.int .u64 a2,.int .u64 a3],.agg #[.int .u64 b0,.int .u64 b1,.int .u64 b2,.int .u64 b3]] w (Ret (.int .i64 (-1)) w):=by
 have dl3:decide (a3<b3)=false:=decide_eq_false l3
 have dg3:decide (b3<a3)=false:=decide_eq_false g3
 have dl2:decide (a2<b2)=false:=decide_eq_false l2
 have dg2:decide (b2<a2)=false:=decide_eq_false g2
 have dh:decide (a1<b1)=true:=decide_eq_true h
 go_enter Tryz.func105,Tryz.ntmps105
 go_wp2
 refine wp_loop_rounds 5 ?_
 rw [rounds_succ]
 go_wp2
 go_region
 go_wp2
 go_region
 go_wp2
 rw [rounds_succ]
 go_wp2
 go_region
 go_wp2
 go_region
 go_wp2
 rw [rounds_succ]
 go_wp2
 go_region
 go_wp2
 go_returns
 refine ⟨rfl,?_⟩
 repeat' (first|(with_reducible exact Below.refl _ _)|(with_reducible assumption)|(with_reducible refine up_alloc ?_ _)|(with_reducible refine up ?_ _)|(with_reducible refine up_drew ?_)|(with_reducible refine up_row ?_ ?_ _)|(with_reducible refine up_set ?_ ?_ _)|((try dsimp only);first|omega|exact le_size|exact le_size1|exact le_size2|exact le_size3))
set_option maxHeartbeats 1000000 in
theorem cmp_1_gt (a0 a1 a2 a3 b0 b1 b2 b3:Int)(l3:¬a3<b3)(g3:¬b3<a3)(l2:¬a2<b2)(g2:¬b2<a2)(h:b1<a1)(w:World) :
  Calls Tryz.prog 105 #[.agg #[.int .u64 a0,.int .u64 a1,.int .u64 a2,.int .u64 a3],.agg #[.int .u64 b0,.int .u64 b1,.int .u64 b2,.int .u64 b3]] w (Ret (.int .i64 1) w):=by
 have nl:¬a1<b1:=by omega
 have dl3:decide (a3<b3)=false:=decide_eq_false l3
 have dg3:decide (b3<a3)=false:=decide_eq_false g3
 have dl2:decide (a2<b2)=false:=decide_eq_false l2
 have dg2:decide (b2<a2)=false:=decide_eq_false g2
 have dn:decide (a1<b1)=false:=decide_eq_false nl
 have dh:decide (b1<a1)=true:=decide_eq_true h
 go_enter Tryz.func105,Tryz.ntmps105
 go_wp2
 refine wp_loop_rounds 5 ?_
 rw [rounds_succ]
 go_wp2
 go_region
 go_wp2
 go_region
 go_wp2
 rw [rounds_succ]
 go_wp2
 go_region
 go_wp2
 go_region
 go_wp2
 rw [rounds_succ]
 go_wp2
 go_region
 go_wp2
 go_region
 go_wp2
 go_returns
 refine ⟨rfl,?_⟩
 repeat' (first|(with_reducible exact Below.refl _ _)|(with_reducible assumption)|(with_reducible refine up_alloc ?_ _)|(with_reducible refine up ?_ _)|(with_reducible refine up_drew ?_)|(with_reducible refine up_row ?_ ?_ _)|(with_reducible refine up_set ?_ ?_ _)|((try dsimp only);first|omega|exact le_size|exact le_size1|exact le_size2|exact le_size3))
set_option maxHeartbeats 1000000 in
theorem cmp_0_lt (a0 a1 a2 a3 b0 b1 b2 b3:Int)(l3:¬a3<b3)(g3:¬b3<a3)(l2:¬a2<b2)(g2:¬b2<a2)(l1:¬a1<b1)(g1:¬b1<a1)(h:a0<b0)(w:World) :
  Calls Tryz.prog 105 #[.agg #[.int .u64 a0,.int .u64 a1,.int .u64 a2,.int .u64 a3],.agg #[.int .u64 b0,.int .u64 b1,.int .u64 b2,.int .u64 b3]] w (Ret (.int .i64 (-1)) w):=by
 have dl3:decide (a3<b3)=false:=decide_eq_false l3
 have dg3:decide (b3<a3)=false:=decide_eq_false g3
 have dl2:decide (a2<b2)=false:=decide_eq_false l2
 have dg2:decide (b2<a2)=false:=decide_eq_false g2
 have dl1:decide (a1<b1)=false:=decide_eq_false l1
 have dg1:decide (b1<a1)=false:=decide_eq_false g1
 have dh:decide (a0<b0)=true:=decide_eq_true h
 go_enter Tryz.func105,Tryz.ntmps105
 go_wp2
 refine wp_loop_rounds 5 ?_
 rw [rounds_succ]
 go_wp2
 go_region
 go_wp2
 go_region
 go_wp2
 rw [rounds_succ]
 go_wp2
 go_region
 go_wp2
 go_region
 go_wp2
 rw [rounds_succ]
 go_wp2
 go_region
 go_wp2
 go_region
 go_wp2
 rw [rounds_succ]
 go_wp2
 go_region
 go_wp2
 go_returns
 refine ⟨rfl,?_⟩
 repeat' (first|(with_reducible exact Below.refl _ _)|(with_reducible assumption)|(with_reducible refine up_alloc ?_ _)|(with_reducible refine up ?_ _)|(with_reducible refine up_drew ?_)|(with_reducible refine up_row ?_ ?_ _)|(with_reducible refine up_set ?_ ?_ _)|((try dsimp only);first|omega|exact le_size|exact le_size1|exact le_size2|exact le_size3))
set_option maxHeartbeats 1000000 in
theorem cmp_0_gt (a0 a1 a2 a3 b0 b1 b2 b3:Int)(l3:¬a3<b3)(g3:¬b3<a3)(l2:¬a2<b2)(g2:¬b2<a2)(l1:¬a1<b1)(g1:¬b1<a1)(h:b0<a0)(w:World) :
  Calls Tryz.prog 105 #[.agg #[.int .u64 a0,.int .u64 a1,.int .u64 a2,.int .u64 a3],.agg #[.int .u64 b0,.int .u64 b1,.int .u64 b2,.int .u64 b3]] w (Ret (.int .i64 1) w):=by
 have nl:¬a0<b0:=by omega
 have dl3:decide (a3<b3)=false:=decide_eq_false l3
 have dg3:decide (b3<a3)=false:=decide_eq_false g3
 have dl2:decide (a2<b2)=false:=decide_eq_false l2
 have dg2:decide (b2<a2)=false:=decide_eq_false g2
 have dl1:decide (a1<b1)=false:=decide_eq_false l1
 have dg1:decide (b1<a1)=false:=decide_eq_false g1
 have dn:decide (a0<b0)=false:=decide_eq_false nl
 have dh:decide (b0<a0)=true:=decide_eq_true h
 go_enter Tryz.func105,Tryz.ntmps105
 go_wp2
 refine wp_loop_rounds 5 ?_
 rw [rounds_succ]
 go_wp2
 go_region
 go_wp2
 go_region
 go_wp2
 rw [rounds_succ]
 go_wp2
 go_region
 go_wp2
 go_region
 go_wp2
 rw [rounds_succ]
 go_wp2
 go_region
 go_wp2
 go_region
 go_wp2
 rw [rounds_succ]
 go_wp2
 go_region
 go_wp2
 go_region
 go_wp2
 go_returns
 refine ⟨rfl,?_⟩
 repeat' (first|(with_reducible exact Below.refl _ _)|(with_reducible assumption)|(with_reducible refine up_alloc ?_ _)|(with_reducible refine up ?_ _)|(with_reducible refine up_drew ?_)|(with_reducible refine up_row ?_ ?_ _)|(with_reducible refine up_set ?_ ?_ _)|((try dsimp only);first|omega|exact le_size|exact le_size1|exact le_size2|exact le_size3))
set_option maxHeartbeats 1000000 in
theorem cmp_eq (a0 a1 a2 a3 b0 b1 b2 b3:Int)(l3:¬a3<b3)(g3:¬b3<a3)(l2:¬a2<b2)(g2:¬b2<a2)(l1:¬a1<b1)(g1:¬b1<a1)(l0:¬a0<b0)(g0:¬b0<a0)(w:World) :
  Calls Tryz.prog 105 #[.agg #[.int .u64 a0,.int .u64 a1,.int .u64 a2,.int .u64 a3],.agg #[.int .u64 b0,.int .u64 b1,.int .u64 b2,.int .u64 b3]] w (Ret (.int .i64 0) w):=by
 have dl3:decide (a3<b3)=false:=decide_eq_false l3
 have dg3:decide (b3<a3)=false:=decide_eq_false g3
 have dl2:decide (a2<b2)=false:=decide_eq_false l2
 have dg2:decide (b2<a2)=false:=decide_eq_false g2
 have dl1:decide (a1<b1)=false:=decide_eq_false l1
 have dg1:decide (b1<a1)=false:=decide_eq_false g1
 have dl0:decide (a0<b0)=false:=decide_eq_false l0
 have dg0:decide (b0<a0)=false:=decide_eq_false g0
 go_enter Tryz.func105,Tryz.ntmps105
 go_wp2
 refine wp_loop_rounds 5 ?_
 rw [rounds_succ]
 go_wp2
 go_region
 go_wp2
 go_region
 go_wp2
 rw [rounds_succ]
 go_wp2
 go_region
 go_wp2
 go_region
 go_wp2
 rw [rounds_succ]
 go_wp2
 go_region
 go_wp2
 go_region
 go_wp2
 rw [rounds_succ]
 go_wp2
 go_region
 go_wp2
 go_region
 go_wp2
 rw [rounds_succ]
 go_wp2
 go_returns
 refine ⟨rfl,?_⟩
 repeat' (first|(with_reducible exact Below.refl _ _)|(with_reducible assumption)|(with_reducible refine up_alloc ?_ _)|(with_reducible refine up ?_ _)|(with_reducible refine up_drew ?_)|(with_reducible refine up_row ?_ ?_ _)|(with_reducible refine up_set ?_ ?_ _)|((try dsimp only);first|omega|exact le_size|exact le_size1|exact le_size2|exact le_size3))
def cmpI (a b:Nat):Int:=if a<b then -1 else if a=b then 0 else 1
theorem cmp_all (a b:Nat)(ha:a<T256)(hb:b<T256)(w:World):Calls Tryz.prog 105 #[num a,num b] w (Ret (.int .i64 (cmpI a b)) w):=by
 obtain ⟨a0,a1,a2,a3,k0,k1,k2,k3,rfl⟩:=four_of a ha
 obtain ⟨b0,b1,b2,b3,l0,l1,l2,l3,rfl⟩:=four_of b hb
 have k:=limb_four a0 a1 a2 a3 k0 k1 k2 k3
 have l:=limb_four b0 b1 b2 b3 l0 l1 l2 l3
 have lt (h:four a0 a1 a2 a3<four b0 b1 b2 b3):cmpI (four a0 a1 a2 a3) (four b0 b1 b2 b3) = -1:=by unfold cmpI;rw [if_pos h]
 have gt (h:four b0 b1 b2 b3<four a0 a1 a2 a3):cmpI (four a0 a1 a2 a3) (four b0 b1 b2 b3)=1:=by unfold cmpI;rw [if_neg (by omega),if_neg (by omega)]
 have eq (h:four a0 a1 a2 a3=four b0 b1 b2 b3):cmpI (four a0 a1 a2 a3) (four b0 b1 b2 b3)=0:=by unfold cmpI;rw [if_neg (by omega),if_pos h]
 simp only [num,k.1,k.2.1,k.2.2.1,k.2.2.2,l.1,l.2.1,l.2.2.1,l.2.2.2]
 clear k l ha hb
 by_cases p3:a3<b3
 ·rw [lt (by unfold four;omega)];exact cmp_3_lt _ _ _ _ _ _ _ _ (by omega) w
 by_cases q3:b3<a3
 ·rw [gt (by unfold four;omega)];exact cmp_3_gt _ _ _ _ _ _ _ _ (by omega) w
 by_cases p2:a2<b2
 ·rw [lt (by unfold four;omega)];exact cmp_2_lt _ _ _ _ _ _ _ _ (by omega) (by omega) (by omega) w
 by_cases q2:b2<a2
 ·rw [gt (by unfold four;omega)];exact cmp_2_gt _ _ _ _ _ _ _ _ (by omega) (by omega) (by omega) w
 by_cases p1:a1<b1
 ·rw [lt (by unfold four;omega)];exact cmp_1_lt _ _ _ _ _ _ _ _ (by omega) (by omega) (by omega) (by omega) (by omega) w
 by_cases q1:b1<a1
 ·rw [gt (by unfold four;omega)];exact cmp_1_gt _ _ _ _ _ _ _ _ (by omega) (by omega) (by omega) (by omega) (by omega) w
 by_cases p0:a0<b0
 ·rw [lt (by unfold four;omega)];exact cmp_0_lt _ _ _ _ _ _ _ _ (by omega) (by omega) (by omega) (by omega) (by omega) (by omega) (by omega) w
 by_cases q0:b0<a0
 ·rw [gt (by unfold four;omega)];exact cmp_0_gt _ _ _ _ _ _ _ _ (by omega) (by omega) (by omega) (by omega) (by omega) (by omega) (by omega) w
 rw [eq (by unfold four;omega)];exact cmp_eq _ _ _ _ _ _ _ _ (by omega) (by omega) (by omega) (by omega) (by omega) (by omega) (by omega) (by omega) w
end Go.Proofs.YtkendlnjaopbeaaGreatDoor
namespace Go.Proofs.YtkendlnjaopbeaaGreatDoor
open Go.RowKit
set_option linter.unusedVariables false
theorem cmp_nu (a b:Nat)(ha:a<T256)(hb:b<T256)(w:World):Calls Tryz.prog 105 #[nu a,nu b] w (Ret (.int .i64 (cmpI a b)) w):=by
 rw [←nu_num,←nu_num];exact cmp_all a b ha hb w
end Go.Proofs.YtkendlnjaopbeaaGreatDoor
