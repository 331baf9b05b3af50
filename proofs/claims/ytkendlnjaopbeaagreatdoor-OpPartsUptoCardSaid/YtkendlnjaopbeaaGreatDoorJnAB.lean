/- The walk over lists: regions that draw their order,in the order of the text. Slices: what is read of them while memory stands;slices that only this walk holds. New variables by their type's class. Slices: the walk's rules. Slices of bytes: the walk's rules. -/
import Derived.Test.YtkendlnjaopbeaaGreatDoorLwOps
import Derived.Laws.AppendOwn
import Derived.Laws.OwnMore
import Derived.Laws.BytesString
namespace Go.Proofs.YtkendlnjaopbeaaGreatDoor
open Go.RowKit
set_option linter.unusedVariables false
set_option linter.unusedSimpArgs false
structure Dr (X:Cx)(w0:World)(l0 lc:Blks)(μ:Mu)(clean:Bool):Prop where
 nd:(keys lc).Nodup
 ov:∀ k,(mu lc).f k=match μ.f k with|some x=>some x|none=>(mu l0).f k
 cl:clean=true→∀ k,k<w0.heap.size→μ.f k=none
 fr:∀ n∈keys lc,n<X.W.heap.size→n∈X.own
 tb:∀ k x,μ.f k=some x→Nat.blt x.2 BIG=true
structure Rg where
 w0:World
 l0:Blks
 sg:Oper→Bool
 wr:Wrt
def Wd (X:Cx)(G:Rg)(ops:Array Oper)(Q:Post)(r:List Oper)(s:Slots)(lc:Blks)(clean:Bool):Prop:=
 ∀ a μ,Env X.N s a→Dr X G.w0 G.l0 lc μ clean→wpM X.P G.w0 G.sg G.wr ops (fun a' μ'=>∀ w',Cls G.w0 μ' w'→lift X Q .normal a' w') r a μ
section
variable {X:Cx}{G:Rg}{w0:World}{l0 lc:Blks}{s:Slots}{o:Oper}{v:Value}{Q:Post}{ops:Array Oper}{r:List Oper}{clean:Bool}
theorem Dr.mem {μ:Mu}{w':World}(h:Dr X w0 l0 lc μ clean)(hm:Mem X l0 w0)(hc:Cls w0 μ w'):Mem X lc w':=by
 refine ⟨h.nd,⟨hc.os.trans hm.cls.os,hc.tape.trans hm.cls.tape,hc.output.trans hm.cls.output,Nat.le_trans hm.cls.size hc.size,fun k hk hx=>?_,fun k c t hx=>?_⟩,h.fr⟩
 ·cases hμ:μ.f k with
  | some x=>
   have h1:=h.ov k
   rw [hμ] at h1
   exact absurd (h.fr k (mu_mem h1) hk) hx
  | none=>
   rw [hc.old k (Nat.lt_of_lt_of_le hk hm.cls.size) hμ]
   exact hm.cls.old k hk hx
 ·rw [h.ov k] at hx
  cases hμ:μ.f k with
  | some x=>
   rw [hμ] at hx
   cases hx
   rw [toObj_cells (h.tb k _ hμ)]
   exact hc.now k c t hμ
  | none=>
   rw [hμ] at hx
   have h0:=hm.cls.now k c t hx
   rw [hc.old k (blk_lt h0) hμ]
   exact h0
theorem wc_draw {id:Nat}{l:Blks}(hm:X.P.follows .mixedOrders=true)(hB:textB .any r.toArray=true)(hP:passB sg0 .any r.toArray=true)
  (h:∀ w0,X.W.heap.size≤w0.heap.size→Mem X l w0→Wd X ⟨w0,l,sg0,Wr0⟩ r.toArray Q r s l true):Wc X (.region id r.toArray true) Q s l:=fun a w hs=>
 wp_region_mild hm hB hP (h w hs.mem.cls.size hs.mem a .empty hs.env ⟨hs.mem.nd,fun k=>rfl,fun _ _ _=>rfl,hs.mem.fresh,fun k x h=>by cases h⟩)
theorem wd_nil (hm:Mem X G.l0 G.w0)(h:Q .normal s lc):Wd X G ops Q [] s lc clean:=fun a μ he hd=>wpM_nil fun w' hc=>⟨s,lc,⟨he,hd.mem hm hc⟩,h⟩
theorem wd_skip {s':Slots}(hg:gd s ops o=some false)(hd:dOk X.N o.dst=true)(h:Wd X G ops Q r s' lc clean)(hs':sputO s o.dst undef=s':=by (try dsimp only [sputO,sput,Nat.reduceBEq,cond_true,cond_false,beq_self_eq_true]);first|done|exact rfl):Wd X G ops Q (o::r) s lc clean:=fun a μ he hdr=>by
 subst hs'
 exact wpM_skip (gd_wanted he hg) (h _ μ (he.put hd _) hdr)
theorem wd_move {s':Slots}{x:Operand}(hg:gd s ops o=some true)(hd:dOk X.N o.dst=true)(ho:o.op=.move x)(hx:val s x=some v)(h:Wd X G ops Q r s' lc clean)(hs':sputO s o.dst v=s':=by (try dsimp only [sputO,sput,Nat.reduceBEq,cond_true,cond_false,beq_self_eq_true]);first|done|exact rfl):Wd X G ops Q (o::r) s lc clean:=fun a μ he hdr=>by
 subst hs'
 exact wpM_plain (gd_wanted he hg) (by unfold opKind;rw [ho]) (by rw [ho];simp only [plainVal,he.eval hx]) (h _ μ (he.put hd _) hdr)
theorem wd_assign {s':Slots}{x:Operand}(hg:gd s ops o=some true)(hd:dOk X.N o.dst=true)(ho:o.op=.assign x)(hx:val s x=some v)(h:Wd X G ops Q r s' lc clean)(hs':sputO s o.dst v=s':=by (try dsimp only [sputO,sput,Nat.reduceBEq,cond_true,cond_false,beq_self_eq_true]);first|done|exact rfl):Wd X G ops Q (o::r) s lc clean:=fun a μ he hdr=>by
 subst hs'
 exact wpM_plain (gd_wanted he hg) (by unfold opKind;rw [ho]) (by rw [ho];simp only [plainVal,he.eval hx]) (h _ μ (he.put hd _) hdr)
theorem wd_extract {s':Slots}{x:Operand}{k:Nat}{vs:Array Value}(hg:gd s ops o=some true)(hd:dOk X.N o.dst=true)(ho:o.op=.extract x k)(hx:val s x=some (.tuple vs))(h:Wd X G ops Q r s' lc clean)(hv:vs[k]? = some v:=by first|(with_reducible assumption)|((try simp only [List.getElem?_toArray,List.getElem?_cons_zero,List.getElem?_cons_succ]);first|done|exact rfl))(hs':sputO s o.dst v=s':=by (try dsimp only [sputO,sput,Nat.reduceBEq,cond_true,cond_false,beq_self_eq_true]);first|done|exact rfl):Wd X G ops Q (o::r) s lc clean:=fun a μ he hdr=>by
 subst hs'
 exact wpM_plain (gd_wanted he hg) (by unfold opKind;rw [ho]) (by rw [ho];simp only [plainVal,he.eval hx];exact hv) (h _ μ (he.put hd _) hdr)
theorem wd_rd {s':Slots}(hm:Mem X G.l0 G.w0)(hcl:clean=true)(hk:opKind G.sg o=.mild)(hg:gd s ops o=some true)(hd:dOk X.N o.dst=true)(hr:Rd X s G.l0 o v)(h:Wd X G ops Q r s' lc clean)(hs':sputO s o.dst v=s':=by (try dsimp only [sputO,sput,Nat.reduceBEq,cond_true,cond_false,beq_self_eq_true]);first|done|exact rfl):Wd X G ops Q (o::r) s lc clean:=fun a μ he hdr=>by
 subst hs'
 exact wpM_mild' (gd_wanted he hg) hk (hdr.cl hcl) (fun x=>hr a x.to he (hm.grow x.below)) (h _ μ (he.put hd _) hdr)
theorem wdv {s':Slots}(hm:Mem X G.l0 G.w0)(hcl:clean=true)(hk:opKind G.sg o=.mild)(hg:gd s ops o=some true)(hd:dOk X.N o.dst=true)(hr:RdV X s G.l0 o v)(h:Wd X G ops Q r s' lc clean)(hs':sputO s o.dst v=s':=by (try dsimp only [sputO,sput,Nat.reduceBEq,cond_true,cond_false,beq_self_eq_true]);first|done|exact rfl):Wd X G ops Q (o::r) s lc clean:=wd_rd hm hcl hk hg hd (RdV.rd hr) h hs'
def blkOf (s:Slots)(t:Nat):Nat:=match look s t with
 | some (.pointer (some a))=>a.block
 | _=>0
def sgOf (o:Oper):Bool:=match o.op with
 | .call _=>false
 | _=>true
def mayT (ts:List Nat)(o:Oper)(t:Nat):Bool:=match o.op with
 | .store _ (.tmp u) _=>u == t || !ts.contains u
 | .store _ _ _=>true
 | _=>false
def waitsB (ops:Array Oper)(oj oi:Oper):Bool:=match oi.op with
 | .load _ _=>oj.after.any fun e=>Region.binds .any e && (match ops[e.on]? with|some q=>q.dst == oi.dst|none=>false)
 | _=>false
def lateB (ts:List Nat)(ops:Array Oper)(oi:Oper)(t:Nat):Bool:=ops.any fun oj=>mayT ts oj t && !waitsB ops oj oi
def wrT (ts:List Nat)(s:Slots)(ops:Array Oper):Wrt:=⟨fun o k=>k∈(ts.filter (lateB ts ops o)).map (blkOf s),fun o k=>k∈(ts.filter (mayT ts o)).map (blkOf s)⟩
def okW (ops:Array Oper):Bool:=(List.range ops.size).all fun i=>(List.range ops.size).all fun j=>match ops[i]?,ops[j]? with
 | some oi,some oj=>!waitsB ops oj oi || oj.after.any (fun e=>Region.binds .any e && e.on == i)
 | _,_=>true
theorem wrT_ok {sg:Oper→Bool}{ts:List Nat}(h:okW ops=true):WrOk sg (wrT ts s ops) .any ops:=by
 intro i j oi oj hi hj _ _ hno n hn
 simp only [okW,List.all_eq_true,List.mem_range] at h
 have h1:=h i (Array.getElem?_eq_some_iff.1 hi).1 j (Array.getElem?_eq_some_iff.1 hj).1
 simp only [hi,hj,Bool.or_eq_true,Bool.not_eq_true'] at h1
 have h2:waitsB ops oj oi=false:=by
  rcases h1 with h1|h1
  ·exact h1
  ·obtain ⟨e,he,hb⟩:=Array.any_eq_true'.1 h1
   simp only [Bool.and_eq_true,beq_iff_eq] at hb
   exact absurd hb.2 (hno e he hb.1)
 simp only [wrT,List.mem_map,List.mem_filter] at hn ⊢
 obtain ⟨t,⟨ht,hm⟩,rfl⟩:=hn
 exact ⟨t,⟨ht,Array.any_eq_true'.2 ⟨oj,Array.mem_of_getElem? hj,by rw [hm,h2];rfl⟩⟩,rfl⟩
theorem wrT_sub {ts:List Nat}{k:Nat}(h:(wrT ts s ops).r o k):k∈ts.map (blkOf s):=by
 simp only [wrT,List.mem_map,List.mem_filter] at h ⊢
 obtain ⟨t,⟨ht,_⟩,rfl⟩:=h
 exact ⟨t,ht,rfl⟩
def allT:List Nat→(Nat→Prop)→Prop
 | [],_=>True
 | t::l,p=>p t∧allT l p
def exT:List Nat→(Nat→Prop)→Prop
 | [],_=>False
 | t::l,p=>p t∨exT l p
theorem allT_nil {p:Nat→Prop}:allT [] p:=trivial
theorem allT_cons {p:Nat→Prop}{t:Nat}{l:List Nat}(h:p t)(k:allT l p):allT (t::l) p:=⟨h,k⟩
theorem allT_mem {p:Nat→Prop}:∀ {l:List Nat},allT l p→∀ t∈l,p t
 | [],_,t,ht=>by cases ht
 | u::l,h,t,ht=>by
  rcases List.mem_cons.1 ht with rfl|ht
  ·exact h.1
  ·exact allT_mem h.2 t ht
theorem exT_mem {p:Nat→Prop}:∀ {l:List Nat},exT l p→∃ t∈l,p t
 | [],h=>h.elim
 | u::l,h=>by
  rcases h with h|h
  ·exact ⟨u,List.mem_cons_self,h⟩
  ·obtain ⟨t,ht,hp⟩:=exT_mem h
   exact ⟨t,List.mem_cons_of_mem _ ht,hp⟩
class InC (l:Blks)(n:Nat):Prop where
 out:n∈keys l
instance InC.here {n:Nat}{x:Array Value×TypeId}{l:Blks}:InC ((n,x)::l) n:=⟨by simp [keys]⟩
instance (priority:=900) InC.there {n:Nat} {y:Nat×Array Value×TypeId} {l:Blks} [h:InC l n]:InC (y::l) n:=⟨by
 have:=h.out
 simp only [keys,List.map_cons,List.mem_cons]
 exact .inr this⟩
class Two (l:Blks)(a b:Nat):Prop where
 out:(keys l).Nodup→a≠b
instance Two.left {a b:Nat}{x:Array Value×TypeId}{l:Blks}[h:InC l b]:Two ((a,x)::l) a b:=⟨fun nd e=>by
 simp only [keys,List.map_cons,List.nodup_cons] at nd
 exact nd.1 (e ▸ h.out)⟩
instance Two.right {a b:Nat}{x:Array Value×TypeId}{l:Blks}[h:InC l a]:Two ((b,x)::l) a b:=⟨fun nd e=>by
 simp only [keys,List.map_cons,List.nodup_cons] at nd
 exact nd.1 (e ▸ h.out)⟩
instance (priority:=900) Two.skip {a b:Nat} {y:Nat×Array Value×TypeId} {l:Blks} [h:Two l a b]:Two (y::l) a b:=⟨fun nd=>by
 simp only [keys,List.map_cons,List.nodup_cons] at nd
 exact h.out nd.2⟩
theorem Two.ne {l:Blks}{a b:Nat}[h:Two l a b](nd:(keys l).Nodup):a≠b:=h.out nd
theorem not_late {ts:List Nat}{b:Nat}(h:allT ts fun t=>lateB ts ops o t=false∨blkOf s t≠b):¬(wrT ts s ops).r o b:=by
 intro h1
 simp only [wrT,List.mem_map,List.mem_filter] at h1
 obtain ⟨t,⟨ht,hl⟩,rfl⟩:=h1
 rcases allT_mem h t ht with h2|h2
 ·rw [h2] at hl;cases hl
 ·exact h2 rfl
theorem st_in {ts:List Nat}{b:Nat}(h:exT ts fun t=>mayT ts o t=true∧blkOf s t=b):(wrT ts s ops).s o b:=by
 obtain ⟨t,ht,hm,rfl⟩:=exT_mem h
 simp only [wrT,List.mem_map,List.mem_filter]
 exact ⟨t,⟨ht,hm⟩,rfl⟩
theorem wc_drawS {id:Nat}{l:Blks}(ts:List Nat)(hm:X.P.follows .mixedOrders=true)(hB:textB .any r.toArray=true)(hP:passB sgOf .any r.toArray=true)(hW:okW r.toArray=true)
  (h:∀ w0,X.W.heap.size≤w0.heap.size→Mem X l w0→Wd X ⟨w0,l,sgOf,wrT ts s r.toArray⟩ r.toArray Q r s l true):Wc X (.region id r.toArray true) Q s l:=fun a w hs=>
 wp_region_gen sgOf (wrT ts s r.toArray) (wrT_ok hW) hm hB hP (h w hs.mem.cls.size hs.mem a .empty hs.env ⟨hs.mem.nd,fun k=>rfl,fun _ _ _=>rfl,hs.mem.fresh,fun k x h=>by cases h⟩)
theorem Rch.mem {lp:Blks}{x:World}{W0:Nat→Prop}(hr:Rch G.w0 W0 x)(hm:Mem X G.l0 G.w0)(hfr:∀ k,W0 k→X.W.heap.size≤k)(hs:SubL lp G.l0)(ho:X.own=[])(hno:∀ k∈keys lp,¬W0 k):Mem X lp x:=by
 have h1:=hm.sub hs
 refine ⟨h1.nd,⟨hr.os.trans h1.cls.os,hr.tape.trans h1.cls.tape,hr.output.trans h1.cls.output,Nat.le_trans h1.cls.size hr.size,fun k hk hx=>?_,fun k c t hx=>?_⟩,h1.fresh⟩
 ·rw [hr.old k (Nat.lt_of_lt_of_le hk h1.cls.size) (fun hw=>by have:=hfr k hw;omega)]
  exact h1.cls.old k hk hx
 ·have h2:=h1.cls.now k c t hx
  rw [hr.old k (blk_lt h2) (hno k (mu_mem hx))]
  exact h2
theorem Inn.sub {l:Blks}{n:Nat}{x:Array Value×TypeId}(h:Inn l n x):SubL [(n,x)] l:=by
 induction h with
 | here=>exact .keep .nil
 | there _ ih=>exact .skip ih
theorem wd_pure {s':Slots}(hm:Mem X G.l0 G.w0)(ho:X.own=[])(hk:opKind G.sg o=.plain)(hg:gd s ops o=some true)(hd:dOk X.N o.dst=true)(hr:RdV X s [] o v)(h:Wd X G ops Q r s' lc clean)(hfr:∀ k,G.wr.r o k→X.W.heap.size≤k:=by intro k hk;replace hk:=wrT_sub hk;simp only [List.map_cons,List.map_nil,List.mem_cons,List.not_mem_nil,or_false] at hk;dsimp only [blkOf,look,Nat.reduceBEq,cond_true,cond_false,beq_self_eq_true] at hk;dsimp only;(try dsimp only at *);omega)(hs':sputO s o.dst v=s':=by (try dsimp only [sputO,sput,Nat.reduceBEq,cond_true,cond_false,beq_self_eq_true]);first|done|exact rfl):Wd X G ops Q (o::r) s lc clean:=fun a μ he hdr=>by
 subst hs'
 exact wpM_pv (gd_wanted he hg) hk (fun x hx=>hr a x he (hx.mem hm hfr .nil ho (fun k hk=>by simp at hk))) (h _ μ (he.put hd _) hdr)
theorem wd_ld {s':Slots}{t b off:Nat}{x:Operand}{y:Array Value×TypeId}(hm:Mem X G.l0 G.w0)(ho:X.own=[])(hk:opKind G.sg o=.plain)(hg:gd s ops o=some true)(hd:dOk X.N o.dst=true)(hop:o.op=.load t x)(hx:val s x=some (.pointer (some ⟨b,off,none⟩)))(hin:Inn G.l0 b y)
  (hr:Ld X [(b,y)] t b off v) (h:Wd X G ops Q r s' lc clean) (hfr:∀ k,G.wr.r o k→X.W.heap.size≤k:=by intro k hk;replace hk:=wrT_sub hk;simp only [List.map_cons,List.map_nil,List.mem_cons,List.not_mem_nil,or_false] at hk;dsimp only [blkOf,look,Nat.reduceBEq,cond_true,cond_false,beq_self_eq_true] at hk;dsimp only;(try dsimp only at *);omega) (hnw:¬G.wr.r o b:=by refine not_late ?_;repeat (first|exact allT_nil|refine allT_cons (by first|(refine Or.inr ?_;dsimp only [blkOf,look,Nat.reduceBEq,cond_true,cond_false,beq_self_eq_true];exact Two.ne hm0.nd)|(refine Or.inl ?_;kernel_rfl)) ?_)) (hs':sputO s o.dst v=s':=by (try dsimp only [sputO,sput,Nat.reduceBEq,cond_true,cond_false,beq_self_eq_true]);first|done|exact rfl):Wd X G ops Q (o::r) s lc clean:=fun a μ he hdr=>by
 subst hs'
 have hsub:SubL [(b,y)] G.l0:=hin.sub
 exact wpM_pv (gd_wanted he hg) hk (fun z hz=>rd_load hop hx hr a z he (hz.mem hm hfr hsub ho (fun k hk=>by simp at hk;subst hk;exact hnw))) (h _ μ (he.put hd _) hdr)
theorem wd_alloc {t:Nat}{z:Value}{c:Array Value}{s':Nat→Slots}(hm:Mem X G.l0 G.w0)(hg:gd s ops o=some true)(hd:dOk X.N o.dst=true)(ho:o.op=.alloc t)[hz:ZR X.P t z]
  (h:∀ n,X.W.heap.size≤n→G.w0.heap.size≤n→Wd X G ops Q r (s' n) ((n,(c,t))::lc) clean) (hc:z.cells=c:=by (try dsimp only [Value.cells]);first|done|exact rfl) (hs':∀ n,sputO s o.dst (ptr n)=s' n:=by intro _;(try dsimp only [sputO,sput,Nat.reduceBEq,cond_true,cond_false,beq_self_eq_true]);first|done|exact rfl) (hb:Nat.blt t BIG=true:=by first|rfl|assumption):Wd X G ops Q (o::r) s lc clean:=fun a μ he hdr=>by
 obtain rfl:(fun n=>sputO s o.dst (ptr n))=s':=funext hs'
 subst hc
 have hz':zeroCells X.P t=some z.cells:=by unfold zeroCells;rw [hz.out];rfl
 refine wpM_alloc (gd_wanted he hg) ho hz' (fun n hn hf=>h n (Nat.le_trans hm.cls.size hn) hn _ _ (he.put hd _) ?_)
 have h0:(mu G.l0).f n=none:=mu_none fun hk=>by have:=hm.lt hk;omega
 have hc0:(mu lc).f n=none:=by rw [hdr.ov n,hf];exact h0
 have hnk:n∉keys lc:=fun hk=>by obtain ⟨x,hx⟩:=mu_some hk;rw [hx] at hc0;cases hc0
 refine ⟨?_,fun k=>?_,fun hcl k hk=>?_,fun k hk hlt=>?_,fun k x hx=>?_⟩
 ·simp only [keys,List.map_cons,List.nodup_cons];exact ⟨hnk,hdr.nd⟩
 ·rw [mu,Mu.put_f,Mu.put_f]
  by_cases hk:k=n
  ·rw [if_pos hk,if_pos hk]
  ·rw [if_neg hk,if_neg hk];exact hdr.ov k
 ·rw [Mu.put_f,if_neg (by omega)];exact hdr.cl hcl k hk
 ·simp only [keys,List.map_cons,List.mem_cons] at hk
  rcases hk with rfl|hk
  ·have:=hm.cls.size;omega
  ·exact hdr.fr k hk hlt
 ·rw [Mu.put_f] at hx
  split at hx
  ·cases hx;exact hb
  ·exact hdr.tb k x hx
theorem Dr.cur {μ:Mu}{lc':Blks}{n:Nat}{x y:Array Value×TypeId}(h:Dr X w0 l0 lc μ clean)(hm:Mem X l0 w0)(ha:At lc n x y lc')(hb:Nat.blt x.2 BIG=true):cur w0 μ n=some x:=by
 have h1:=ha.now h.nd
 rw [h.ov n] at h1
 unfold Proofs.YtkendlnjaopbeaaGreatDoor.cur
 cases hμ:μ.f n with
 | some z=>rw [hμ] at h1;exact h1
 | none=>
  rw [hμ] at h1
  have:=hm.cls.now n x.1 x.2 h1
  dsimp only
  rw [this,toObj_cells hb]
  rfl
theorem Dr.put {μ:Mu}{lc':Blks}{n:Nat}{x y:Array Value×TypeId}(h:Dr X w0 l0 lc μ clean)(ha:At lc n x y lc')(clean':Bool)(hc:clean'=true→clean=true∧w0.heap.size≤n)(hb:Nat.blt y.2 BIG=true):Dr X w0 l0 lc' (μ.put n y) clean':=by
 refine ⟨by rw [ha.keys];exact h.nd,fun k=>?_,fun hcl k hk=>?_,fun k hk=>h.fr k (by rw [←ha.keys];exact hk),fun k z hz=>?_⟩
 ·rw [ha.put h.nd k,Mu.put_f]
  by_cases hk:k=n
  ·rw [if_pos hk,if_pos hk]
  ·rw [if_neg hk,if_neg hk];exact h.ov k
 ·obtain ⟨h1,h2⟩:=hc hcl
  rw [Mu.put_f,if_neg (by omega)]
  exact h.cl h1 k hk
 ·rw [Mu.put_f] at hz
  split at hz
  ·cases hz;exact hb
  ·exact h.tb k z hz
theorem wd_cell {s':Slots}{t:Nat}{x y:Operand}{b off:Nat}{c c':Array Value}{e:Nat}{lc':Blks}{clean':Bool}(hm:Mem X G.l0 G.w0)(hg:gd s ops o=some true)(hd:dOk X.N o.dst=true)(ho:o.op=.store t x y)(hx:val s x=some (.pointer (some ⟨b,off,none⟩)))(hy:val s y=some v)
  (h1:v.oneCell'=true) [hs:SZ X.P t 1] (hcl:clean'=true→clean=true∧G.w0.heap.size≤b) (h:Wd X G ops Q r s' lc' clean') (ha:At lc b (c,e) (c',e) lc':=by repeat (first|exact At.here|apply At.there)) (hc:putC c off v=c':=by first|(with_reducible assumption)|exact PutC.out|(dsimp only [putC,List.setIfInBounds_toArray,List.set_cons_zero,List.set_cons_succ];done)|rfl|(simp only [putC,List.setIfInBounds_toArray,List.set_cons_zero,List.set_cons_succ];rfl)) (hlt:off<c.size:=by simp only [Cells.size,List.size_toArray,List.length_cons,List.length_nil,Nat.reduceAdd];first|done|omega) (hfr:fresh ops o=true→G.w0.heap.size≤b:=by first|(intro _;assumption)|(exact notFresh (by kernel_rfl))) (hwr:b<G.w0.heap.size→G.wr.s o b:=by first|(intro _;trivial)|(intro hlt;exfalso;(try dsimp only at *);omega)|(intro _;refine st_in ?_;dsimp only [exT];repeat (first|exact Or.inl ⟨by decide +kernel,rfl⟩|refine Or.inr ?_))) (hs':sputO s o.dst undef=s':=by (try dsimp only [sputO,sput,Nat.reduceBEq,cond_true,cond_false,beq_self_eq_true]);first|done|exact rfl) (hb:Nat.blt e BIG=true:=by first|rfl|assumption):Wd X G ops Q (o::r) s lc clean:=fun a μ he hdr=>by
 subst hs'
 subst hc
 exact wpG_cell (gd_wanted he hg) ho (he.eval hx) (he.eval hy) (hdr.cur hm ha hb) hs.out h1 hlt hfr hwr (h _ _ (he.put hd _) (hdr.put ha clean' hcl hb))
theorem wd_row {s':Slots}{t k:Nat}{x y:Operand}{b:Nat}{c cs:Array Value}{e:Nat}{lc':Blks}{clean':Bool}(hm:Mem X G.l0 G.w0)(hg:gd s ops o=some true)(hd:dOk X.N o.dst=true)(ho:o.op=.store t x y)(hx:val s x=some (.pointer (some ⟨b,0,none⟩)))(hy:val s y=some (.agg cs))
 [hs:SZ X.P t k] (hcl:clean'=true→clean=true∧G.w0.heap.size≤b) (h:Wd X G ops Q r s' lc' clean') (h1:cs.all (·.oneCell')=true:=by first|exact Cells.one|rfl|(simp only [List.all_toArray,List.all_cons,List.all_nil,One.out,Bool.and_true];done)|(simp [Value.oneCell'];done)) (hk:cs.size=k:=by first|exact Cells.size|rfl) (ha:At lc b (c,e) (cs,e) lc':=by repeat (first|exact At.here|apply At.there)) (hlt:c.size=cs.size:=by first|rfl|(simp only [Cells.size];first|done|rfl)) (hfr:fresh ops o=true→G.w0.heap.size≤b:=by first|(intro _;assumption)|(exact notFresh (by kernel_rfl))) (hwr:b<G.w0.heap.size→G.wr.s o b:=by first|(intro _;trivial)|(intro hlt;exfalso;(try dsimp only at *);omega)|(intro _;refine st_in ?_;dsimp only [exT];repeat (first|exact Or.inl ⟨by decide +kernel,rfl⟩|refine Or.inr ?_))) (hs':sputO s o.dst undef=s':=by (try dsimp only [sputO,sput,Nat.reduceBEq,cond_true,cond_false,beq_self_eq_true]);first|done|exact rfl) (hb:Nat.blt e BIG=true:=by first|rfl|assumption):Wd X G ops Q (o::r) s lc clean:=fun a μ he hdr=>by
 subst hs'
 exact wpG_row (gd_wanted he hg) ho (he.eval hx) (he.eval hy) (hdr.cur hm ha hb) (by rw [hs.out,hk]) hlt h1 hfr hwr (h _ _ (he.put hd _) (hdr.put ha clean' hcl hb))
end
section
variable {X:Cx}{G:Rg}{lc:Blks}{clean:Bool}{s:Slots}{Q:Post}{ops:Array Oper}{r:List Oper}{d:Option Tmp}{ty:TypeId}{p:String}{af:Array Edge}{g:Option (Nat×Bool)}
theorem seld_nil (h:Wd X G ops Q [] s lc clean):Wd X G ops Q [] s lc clean:=h
theorem seld_move {x:Operand}(h:Wd X G ops Q (⟨d,.move x,ty,p,af,g⟩::r) s lc clean):Wd X G ops Q (⟨d,.move x,ty,p,af,g⟩::r) s lc clean:=h
theorem seld_assign {x:Operand}(h:Wd X G ops Q (⟨d,.assign x,ty,p,af,g⟩::r) s lc clean):Wd X G ops Q (⟨d,.assign x,ty,p,af,g⟩::r) s lc clean:=h
theorem seld_pick {x y z:Operand}(h:Wd X G ops Q (⟨d,.pick x y z,ty,p,af,g⟩::r) s lc clean):Wd X G ops Q (⟨d,.pick x y z,ty,p,af,g⟩::r) s lc clean:=h
theorem seld_build {t:Nat}{ps:Array (Nat×Operand)}(h:Wd X G ops Q (⟨d,.build t ps,ty,p,af,g⟩::r) s lc clean):Wd X G ops Q (⟨d,.build t ps,ty,p,af,g⟩::r) s lc clean:=h
theorem seld_load {t:Nat}{x:Operand}(h:Wd X G ops Q (⟨d,.load t x,ty,p,af,g⟩::r) s lc clean):Wd X G ops Q (⟨d,.load t x,ty,p,af,g⟩::r) s lc clean:=h
theorem seld_store {t:Nat}{x y:Operand}(h:Wd X G ops Q (⟨d,.store t x y,ty,p,af,g⟩::r) s lc clean):Wd X G ops Q (⟨d,.store t x y,ty,p,af,g⟩::r) s lc clean:=h
theorem seld_nilc {x:Operand}(h:Wd X G ops Q (⟨d,.nilCheck x,ty,p,af,g⟩::r) s lc clean):Wd X G ops Q (⟨d,.nilCheck x,ty,p,af,g⟩::r) s lc clean:=h
theorem seld_unop {o:UnOp}{t:Nat}{x:Operand}(h:Wd X G ops Q (⟨d,.unOp o t x,ty,p,af,g⟩::r) s lc clean):Wd X G ops Q (⟨d,.unOp o t x,ty,p,af,g⟩::r) s lc clean:=h
theorem seld_conv {a b:Nat}{x:Operand}(h:Wd X G ops Q (⟨d,.convert a b x,ty,p,af,g⟩::r) s lc clean):Wd X G ops Q (⟨d,.convert a b x,ty,p,af,g⟩::r) s lc clean:=h
theorem seld_fieldA {t f:Nat}{x:Operand}(h:Wd X G ops Q (⟨d,.fieldAddr t x f,ty,p,af,g⟩::r) s lc clean):Wd X G ops Q (⟨d,.fieldAddr t x f,ty,p,af,g⟩::r) s lc clean:=h
theorem seld_field {t f:Nat}{x:Operand}(h:Wd X G ops Q (⟨d,.field t x f,ty,p,af,g⟩::r) s lc clean):Wd X G ops Q (⟨d,.field t x f,ty,p,af,g⟩::r) s lc clean:=h
theorem seld_indexA {t:Nat}{x y:Operand}(h:Wd X G ops Q (⟨d,.indexAddr t x y,ty,p,af,g⟩::r) s lc clean):Wd X G ops Q (⟨d,.indexAddr t x y,ty,p,af,g⟩::r) s lc clean:=h
theorem seld_index {t:Nat}{x y:Operand}(h:Wd X G ops Q (⟨d,.index t x y,ty,p,af,g⟩::r) s lc clean):Wd X G ops Q (⟨d,.index t x y,ty,p,af,g⟩::r) s lc clean:=h
theorem seld_extract {x:Operand}{k:Nat}(h:Wd X G ops Q (⟨d,.extract x k,ty,p,af,g⟩::r) s lc clean):Wd X G ops Q (⟨d,.extract x k,ty,p,af,g⟩::r) s lc clean:=h
theorem seld_call {c:Call}(h:Wd X G ops Q (⟨d,.call c,ty,p,af,g⟩::r) s lc clean):Wd X G ops Q (⟨d,.call c,ty,p,af,g⟩::r) s lc clean:=h
theorem seld_slice {t:Nat}{x:Operand}{a b c:Option Operand}(h:Wd X G ops Q (⟨d,.slice t x a b c,ty,p,af,g⟩::r) s lc clean):Wd X G ops Q (⟨d,.slice t x a b c,ty,p,af,g⟩::r) s lc clean:=h
theorem seld_b_add {t yt:Nat}{x y:Operand}(h:Wd X G ops Q (⟨d,.binOp .add t x y yt,ty,p,af,g⟩::r) s lc clean):Wd X G ops Q (⟨d,.binOp .add t x y yt,ty,p,af,g⟩::r) s lc clean:=h
theorem seld_b_sub {t yt:Nat}{x y:Operand}(h:Wd X G ops Q (⟨d,.binOp .sub t x y yt,ty,p,af,g⟩::r) s lc clean):Wd X G ops Q (⟨d,.binOp .sub t x y yt,ty,p,af,g⟩::r) s lc clean:=h
theorem seld_b_mul {t yt:Nat}{x y:Operand}(h:Wd X G ops Q (⟨d,.binOp .mul t x y yt,ty,p,af,g⟩::r) s lc clean):Wd X G ops Q (⟨d,.binOp .mul t x y yt,ty,p,af,g⟩::r) s lc clean:=h
theorem seld_b_quo {t yt:Nat}{x y:Operand}(h:Wd X G ops Q (⟨d,.binOp .quo t x y yt,ty,p,af,g⟩::r) s lc clean):Wd X G ops Q (⟨d,.binOp .quo t x y yt,ty,p,af,g⟩::r) s lc clean:=h
theorem seld_b_rem {t yt:Nat}{x y:Operand}(h:Wd X G ops Q (⟨d,.binOp .rem t x y yt,ty,p,af,g⟩::r) s lc clean):Wd X G ops Q (⟨d,.binOp .rem t x y yt,ty,p,af,g⟩::r) s lc clean:=h
theorem seld_b_and {t yt:Nat}{x y:Operand}(h:Wd X G ops Q (⟨d,.binOp .and t x y yt,ty,p,af,g⟩::r) s lc clean):Wd X G ops Q (⟨d,.binOp .and t x y yt,ty,p,af,g⟩::r) s lc clean:=h
theorem seld_b_or {t yt:Nat}{x y:Operand}(h:Wd X G ops Q (⟨d,.binOp .or t x y yt,ty,p,af,g⟩::r) s lc clean):Wd X G ops Q (⟨d,.binOp .or t x y yt,ty,p,af,g⟩::r) s lc clean:=h
theorem seld_b_xor {t yt:Nat}{x y:Operand}(h:Wd X G ops Q (⟨d,.binOp .xor t x y yt,ty,p,af,g⟩::r) s lc clean):Wd X G ops Q (⟨d,.binOp .xor t x y yt,ty,p,af,g⟩::r) s lc clean:=h
theorem seld_b_andNot {t yt:Nat}{x y:Operand}(h:Wd X G ops Q (⟨d,.binOp .andNot t x y yt,ty,p,af,g⟩::r) s lc clean):Wd X G ops Q (⟨d,.binOp .andNot t x y yt,ty,p,af,g⟩::r) s lc clean:=h
theorem seld_b_shl {t yt:Nat}{x y:Operand}(h:Wd X G ops Q (⟨d,.binOp .shl t x y yt,ty,p,af,g⟩::r) s lc clean):Wd X G ops Q (⟨d,.binOp .shl t x y yt,ty,p,af,g⟩::r) s lc clean:=h
theorem seld_b_shr {t yt:Nat}{x y:Operand}(h:Wd X G ops Q (⟨d,.binOp .shr t x y yt,ty,p,af,g⟩::r) s lc clean):Wd X G ops Q (⟨d,.binOp .shr t x y yt,ty,p,af,g⟩::r) s lc clean:=h
theorem seld_b_eql {t yt:Nat}{x y:Operand}(h:Wd X G ops Q (⟨d,.binOp .eql t x y yt,ty,p,af,g⟩::r) s lc clean):Wd X G ops Q (⟨d,.binOp .eql t x y yt,ty,p,af,g⟩::r) s lc clean:=h
theorem seld_b_neq {t yt:Nat}{x y:Operand}(h:Wd X G ops Q (⟨d,.binOp .neq t x y yt,ty,p,af,g⟩::r) s lc clean):Wd X G ops Q (⟨d,.binOp .neq t x y yt,ty,p,af,g⟩::r) s lc clean:=h
theorem seld_b_lss {t yt:Nat}{x y:Operand}(h:Wd X G ops Q (⟨d,.binOp .lss t x y yt,ty,p,af,g⟩::r) s lc clean):Wd X G ops Q (⟨d,.binOp .lss t x y yt,ty,p,af,g⟩::r) s lc clean:=h
theorem seld_b_leq {t yt:Nat}{x y:Operand}(h:Wd X G ops Q (⟨d,.binOp .leq t x y yt,ty,p,af,g⟩::r) s lc clean):Wd X G ops Q (⟨d,.binOp .leq t x y yt,ty,p,af,g⟩::r) s lc clean:=h
theorem seld_b_gtr {t yt:Nat}{x y:Operand}(h:Wd X G ops Q (⟨d,.binOp .gtr t x y yt,ty,p,af,g⟩::r) s lc clean):Wd X G ops Q (⟨d,.binOp .gtr t x y yt,ty,p,af,g⟩::r) s lc clean:=h
theorem seld_b_geq {t yt:Nat}{x y:Operand}(h:Wd X G ops Q (⟨d,.binOp .geq t x y yt,ty,p,af,g⟩::r) s lc clean):Wd X G ops Q (⟨d,.binOp .geq t x y yt,ty,p,af,g⟩::r) s lc clean:=h
end
theorem wdT {p q:Prop}(k:q)(h:Box q→p:=by refine fun k=>?_;(with_reducible refine seld_store ?_);first|(refine wd_row (clean':=true) (by assumption) rfl rfl rfl rfl rfl (fun _=>⟨rfl,by assumption⟩) ?_;exact k.out)|(refine wd_cell (clean':=true) (by assumption) rfl rfl rfl rfl rfl rfl (fun _=>⟨rfl,by assumption⟩) ?_;exact k.out)|(refine wd_row (clean':=false) (by assumption) rfl rfl rfl rfl rfl (by intro h;cases h) ?_;exact k.out)|(refine wd_cell (clean':=false) (by assumption) rfl rfl rfl rfl rfl rfl (by intro h;cases h) ?_;exact k.out)|fail):p:=h ⟨k⟩
theorem wdTO {p q:Prop}(k:q)(h:Box q→p:=by refine fun k=>?_;(with_reducible refine seld_store ?_);first|(refine wd_cell (clean':=true) (by assumption) rfl rfl rfl rfl rfl One.out (fun _=>⟨rfl,by assumption⟩) ?_;exact k.out)|(refine wd_cell (clean':=false) (by assumption) rfl rfl rfl rfl rfl One.out (by intro h;cases h) ?_;exact k.out)|fail):p:=h ⟨k⟩
theorem wdV {p q:Prop}(k:q)(h:Box q→p:=by refine fun k=>?_;first|((with_reducible refine seld_move ?_);refine wd_move rfl rfl rfl rfl ?_;exact k.out)|((with_reducible refine seld_assign ?_);refine wd_assign rfl rfl rfl rfl ?_;exact k.out)|((with_reducible refine seld_extract ?_);refine wd_extract rfl rfl rfl rfl ?_;exact k.out)|fail):p:=h ⟨k⟩
theorem wdS {p q:Prop}(k:q)(h:Box q→p:=by refine fun k=>?_;first|((with_reducible refine seld_indexA ?_);refine wdv (by assumption) rfl rfl rfl rfl (rd_ixO rfl rfl rfl) ?_;exact k.out)|((with_reducible refine seld_fieldA ?_);refine wdv (by assumption) rfl rfl rfl rfl (rd_fdO rfl rfl) ?_;exact k.out)|((with_reducible refine seld_load ?_);first|(refine wdv (by assumption) rfl rfl rfl rfl (rd_load rfl rfl ld_O) ?_;exact k.out)|(refine wdv (by assumption) rfl rfl rfl rfl (rd_load rfl rfl ld_OR) ?_;exact k.out))|((with_reducible refine seld_call ?_);refine wdv (by assumption) rfl rfl rfl rfl (rd_lenO rfl rfl rfl rfl rfl) ?_;exact k.out)|((with_reducible refine seld_build ?_);refine wdv (by assumption) rfl rfl rfl rfl (rd_buildO rfl rfl rfl rfl rfl) ?_;exact k.out)|((with_reducible refine seld_slice ?_);first|(refine wdv (by assumption) rfl rfl rfl rfl (rd_slA (lo:=0) rfl rfl rfl rfl rfl rfl) ?_;exact k.out)|(refine wdv (by assumption) rfl rfl rfl rfl (rd_slA rfl rfl rfl rfl rfl rfl) ?_;exact k.out))|((with_reducible refine seld_conv ?_);refine wdv (by assumption) rfl rfl rfl rfl (rd_convS rfl rfl) ?_;exact k.out)|((with_reducible refine seld_b_eql ?_);refine wdv (by assumption) rfl rfl rfl rfl (rd_eqlS rfl rfl rfl) ?_;exact k.out)|fail):p:=h ⟨k⟩
theorem wdG {p q:Prop}(k:q)(h:Box q→p:=by refine fun k=>?_;first|((with_reducible refine seld_load ?_);first|(refine wdv (by assumption) rfl rfl rfl rfl (rd_load rfl rfl ld_wholeG) ?_;exact k.out)|(refine wdv (by assumption) rfl rfl rfl rfl (rd_load rfl rfl ld_sg) ?_;exact k.out)|(refine wdv (by assumption) rfl rfl rfl rfl (rd_load rfl rfl ld_sg1) ?_;exact k.out))|((with_reducible refine seld_field ?_);first|(refine wdv (by assumption) rfl rfl rfl rfl (rd_fieldG rfl rfl) ?_;exact k.out)|(refine wdv (by assumption) rfl rfl rfl rfl (rd_fieldG1 rfl rfl) ?_;exact k.out))|((with_reducible refine seld_build ?_);refine wdv (by assumption) rfl rfl rfl rfl (rd_buildH rfl rfl) ?_;exact k.out)|fail):p:=h ⟨k⟩
theorem wdR {p q:Prop}(k:q)(h:Box q→p:=by refine fun k=>?_;first|((with_reducible refine seld_load ?_);refine wdv (by assumption) rfl rfl rfl rfl (rd_load rfl rfl ld_num) ?_;exact k.out)|((with_reducible refine seld_build ?_);first|(refine wdv (by assumption) rfl rfl rfl rfl (rd_build2 rfl rfl) ?_;exact k.out)|(refine wdv (by assumption) rfl rfl rfl rfl (rd_build2y rfl rfl) ?_;exact k.out)|(refine wdv (by assumption) rfl rfl rfl rfl (rd_build2x rfl rfl) ?_;exact k.out)|(refine wdv (by assumption) rfl rfl rfl rfl (rd_build20 rfl rfl) ?_;exact k.out)|(refine wdv (by assumption) rfl rfl rfl rfl (rd_build4 rfl rfl) ?_;exact k.out))|fail):p:=h ⟨k⟩
theorem wdB {p q:Prop}(k:q)(h:Box q→p:=by refine fun k=>?_;first|((with_reducible refine seld_load ?_);first|(refine wdv (by assumption) rfl rfl rfl rfl (rd_load rfl rfl (ld_whole)) ?_;exact k.out)|(refine wdv (by assumption) rfl rfl rfl rfl (rd_load rfl rfl (ld_cell)) ?_;exact k.out)|(refine wdv (by assumption) rfl rfl rfl rfl (rd_load rfl rfl (ld_row)) ?_;exact k.out))|((with_reducible refine seld_indexA ?_);first|(refine wdv (by assumption) rfl rfl rfl rfl (rd_ixA rfl rfl rfl) ?_;exact k.out)|(refine wdv (by assumption) rfl rfl rfl rfl (rd_ixS rfl rfl rfl) ?_;exact k.out))|((with_reducible refine seld_fieldA ?_);refine wdv (by assumption) rfl rfl rfl rfl (rd_fdA rfl rfl) ?_;exact k.out)|((with_reducible refine seld_nilc ?_);refine wdv (by assumption) rfl rfl rfl rfl (rd_nilP rfl rfl) ?_;exact k.out)|((with_reducible refine seld_pick ?_);refine wdv (by assumption) rfl rfl rfl rfl (rd_pick rfl rfl rfl rfl rfl) ?_;exact k.out)|((with_reducible refine seld_b_lss ?_);refine wdv (by assumption) rfl rfl rfl rfl (rd_cm rfl rfl rfl rfl) ?_;exact k.out)|((with_reducible refine seld_b_leq ?_);refine wdv (by assumption) rfl rfl rfl rfl (rd_cm rfl rfl rfl rfl) ?_;exact k.out)|((with_reducible refine seld_b_gtr ?_);refine wdv (by assumption) rfl rfl rfl rfl (rd_cm rfl rfl rfl rfl) ?_;exact k.out)|((with_reducible refine seld_b_geq ?_);refine wdv (by assumption) rfl rfl rfl rfl (rd_cm rfl rfl rfl rfl) ?_;exact k.out)|((with_reducible refine seld_b_eql ?_);first|(refine wdv (by assumption) rfl rfl rfl rfl (rd_cm rfl rfl rfl rfl) ?_;exact k.out)|(refine wdv (by assumption) rfl rfl rfl rfl (rd_eqlB rfl rfl rfl (by first|with_reducible assumption|rfl)) ?_;exact k.out))|((with_reducible refine seld_b_neq ?_);refine wdv (by assumption) rfl rfl rfl rfl (rd_cm rfl rfl rfl rfl) ?_;exact k.out)|((with_reducible refine seld_b_add ?_);refine wdv (by assumption) rfl rfl rfl rfl (rd_ar rfl rfl rfl rfl) ?_;exact k.out)|((with_reducible refine seld_b_sub ?_);refine wdv (by assumption) rfl rfl rfl rfl (rd_ar rfl rfl rfl rfl) ?_;exact k.out)|((with_reducible refine seld_b_mul ?_);refine wdv (by assumption) rfl rfl rfl rfl (rd_ar rfl rfl rfl rfl) ?_;exact k.out)|((with_reducible refine seld_b_and ?_);refine wdv (by assumption) rfl rfl rfl rfl (rd_bw rfl rfl rfl rfl) ?_;exact k.out)|((with_reducible refine seld_b_or ?_);refine wdv (by assumption) rfl rfl rfl rfl (rd_bw rfl rfl rfl rfl) ?_;exact k.out)|((with_reducible refine seld_b_xor ?_);refine wdv (by assumption) rfl rfl rfl rfl (rd_bw rfl rfl rfl rfl) ?_;exact k.out)|((with_reducible refine seld_b_andNot ?_);refine wdv (by assumption) rfl rfl rfl rfl (rd_bw rfl rfl rfl rfl) ?_;exact k.out)|((with_reducible refine seld_b_shl ?_);refine wdv (by assumption) rfl rfl rfl rfl (rd_shl rfl rfl rfl) ?_;exact k.out)|((with_reducible refine seld_b_shr ?_);refine wdv (by assumption) rfl rfl rfl rfl (rd_shr rfl rfl rfl) ?_;exact k.out)|((with_reducible refine seld_b_quo ?_);refine wdv (by assumption) rfl rfl rfl rfl (rd_quo rfl rfl rfl) ?_;exact k.out)|((with_reducible refine seld_b_rem ?_);refine wdv (by assumption) rfl rfl rfl rfl (rd_rem rfl rfl rfl) ?_;exact k.out)|((with_reducible refine seld_index ?_);refine wdv (by assumption) rfl rfl rfl rfl (rd_index (k:=0) rfl rfl rfl) ?_;exact k.out)|((with_reducible refine seld_conv ?_);refine wdv (by assumption) rfl rfl rfl rfl (rd_conv rfl rfl) ?_;exact k.out)|((with_reducible refine seld_unop ?_);first|(refine wdv (by assumption) rfl rfl rfl rfl (rd_not rfl rfl) ?_;exact k.out)|(refine wdv (by assumption) rfl rfl rfl rfl (rd_neg rfl rfl) ?_;exact k.out)|(refine wdv (by assumption) rfl rfl rfl rfl (rd_inv rfl rfl) ?_;exact k.out))|fail):p:=h ⟨k⟩
theorem wdEQ {p q:Prop}(k:q)(h:Box q→p:=by refine fun k=>?_;first|((with_reducible refine seld_b_eql ?_);refine wdv (by assumption) rfl rfl rfl rfl (rd_eqlV rfl rfl rfl (eqNu (by first|with_reducible assumption|with_reducible exact decide_eq_true rfl) (by first|(with_reducible assumption)|(with_reducible exact SmT.out)|decide) (by first|(with_reducible assumption)|(with_reducible exact SmT.out)|decide))) ?_;exact k.out)|((with_reducible refine seld_b_neq ?_);refine wdv (by assumption) rfl rfl rfl rfl (rd_neqV rfl rfl rfl (eqNu (by first|with_reducible assumption|with_reducible exact decide_eq_true rfl) (by first|(with_reducible assumption)|(with_reducible exact SmT.out)|decide) (by first|(with_reducible assumption)|(with_reducible exact SmT.out)|decide))) ?_;exact k.out)|fail):p:=h ⟨k⟩
theorem wdNL {p q:Prop}(k:q)(h:Box q→p:=by refine fun k=>?_;first|((with_reducible refine seld_build ?_);refine wdv (by assumption) rfl rfl rfl rfl (rd_cast (rd_buildA rfl rfl) (by first|exact nu_l0|exact nu_l1|exact nu_l2|exact nu_l3|exact nu_l5|exact nu_l7|exact nu_l8|exact nu_l9|exact nu_l19|exact nu_l38|exact nu_l121665|exact wi_l0|exact wi_l3|exact wi_l7|exact wi_l15)) ?_;exact k.out)|fail):p:=h ⟨k⟩
theorem wdO {p q:Prop}(k:q)(h:Box q→p:=by refine fun k=>?_;first|((with_reducible refine seld_load ?_);refine wdv (by assumption) rfl rfl rfl rfl (rd_load rfl rfl (ld_old (by with_reducible assumption))) ?_;exact k.out)|fail):p:=h ⟨k⟩
theorem wdNB {p q:Prop}(k:q)(h:Box q→p:=by refine fun k=>?_;first|((with_reducible refine seld_b_neq ?_);refine wdv (by assumption) rfl rfl rfl rfl (rd_neqB rfl rfl rfl (by with_reducible assumption)) ?_;exact k.out)|fail):p:=h ⟨k⟩
theorem wdE {p q:Prop}(k:q)(h:Box q→p:=by refine fun k=>?_;first|((with_reducible refine seld_build ?_);first|(refine wdv (by assumption) rfl rfl rfl rfl (rd_buildA rfl rfl) ?_;exact k.out)|(refine wdv (by assumption) rfl rfl rfl rfl (rd_buildS rfl rfl) ?_;exact k.out))|((with_reducible refine seld_call ?_);refine wdv (by assumption) rfl rfl rfl rfl (rd_lenS rfl rfl rfl rfl rfl) ?_;exact k.out)|fail):p:=h ⟨k⟩
end Go.Proofs.YtkendlnjaopbeaaGreatDoor
namespace Go.Proofs.YtkendlnjaopbeaaGreatDoor
open Go.RowKit
set_option linter.unusedVariables false
set_option linter.unusedSimpArgs false
class Ln (v:Value)(n:outParam Nat):Prop where
 out:∃ p cap,v=.slice p n cap∧n≤cap∧cap≤maxLen∧(0<n→∃ b off,p=some ⟨b,off,none⟩)
instance {v:Value}{n:Nat}[h:Ln v n]:One v:=⟨by obtain ⟨p,cap,rfl,_⟩:=h.out;rfl⟩
structure Cs (w:World)(v:Value)(n:Nat)(xs:List Value):Prop where
 ln:Ln v n
 cell:∀ j u,xs[j]? = some u→∃ b off cap,v=.slice (some ⟨b,off,none⟩) n cap∧w.cell? ⟨b,off+j,none⟩=some u
def elB:Value→Nat
 | .slice (some a) _ _=>a.block
 | _=>0
def elO:Value→Nat
 | .slice (some a) _ _=>a.off
 | _=>0
class CsF (Φ:outParam (World→Prop))(v:Value)(n:outParam Nat)(xs:outParam (List Value)):Prop where
 ln:Ln v n
 out:∀ w,Φ w→Cs w v n xs
instance {Φ:World→Prop}{v:Value}{n:Nat}{xs:List Value}[h:CsF Φ v n xs]:Ln v n:=h.ln
def Old (W:World)(own:List Nat)(w:World):Prop:=∀ k,k<W.heap.size→k∉own→w.heap[k]? = W.heap[k]?
def Hd (od:Blks)(w:World):Prop:=∀ p∈od,w.heap[p.1]? = some (toObj p.2)
class SubB (od l:Blks):Prop where
 out:∀ p∈od,p∈l
instance {od:Blks}:SubB od od:=⟨fun _ h=>h⟩
instance {l:Blks}:SubB [] l:=⟨fun _ h=>by cases h⟩
instance {od r:Blks}:SubB od (od++r):=⟨fun _ h=>List.mem_append_left _ h⟩
instance (priority:=900){od l:Blks}{p:Nat×(Array Value×TypeId)}[h:SubB od l]:SubB od (p::l):=⟨fun q hq=>List.mem_cons_of_mem _ (h.out q hq)⟩
instance (priority:=900){od l ob:Blks}[h:SubB od l]:SubB od (ob++l):=⟨fun q hq=>List.mem_append_right _ (h.out q hq)⟩
instance (priority:=800){oa ob l:Blks}[h:SubB oa l][h':SubB ob l]:SubB (oa++ob) l:=⟨fun q hq=>(List.mem_append.1 hq).elim (h.out q) (h'.out q)⟩
instance (priority:=1100){l r:Blks}{p:Nat×(Array Value×TypeId)}[h:SubB r (p::l)]:SubB (p::r) (p::l):=⟨fun q hq=>(List.mem_cons.1 hq).elim (fun e=>e ▸ List.mem_cons_self) (h.out q)⟩
class Hold (X:Cx)(l:Blks)(Φ:World→Prop):Prop where
 out:∀ w,Mem X l w→Φ w
instance {P:Program}{W:World}{N:Nat}{own:List Nat}{l:Blks}:Hold ⟨P,W,N,own⟩ l (Old W own):=⟨fun w hm=>hm.cls.old⟩
instance {X:Cx}{l od:Blks}[h:SubB od l]:Hold X l (Hd od):=⟨fun w hm p hp=>hm.cls.now p.1 p.2.1 p.2.2 (mu_mem_of (h.out p hp) hm.nd)⟩
class Vw (X:Cx)(l:Blks)(v:Value)(n:outParam Nat)(xs:outParam (List Value)):Prop where
 out:∀ w,Mem X l w→Cs w v n xs
instance {X:Cx}{l:Blks}{Φ:World→Prop}{v:Value}{n:Nat}{xs:List Value}[h:CsF Φ v n xs][h':Hold X l Φ]:Vw X l v n xs:=⟨fun w hm=>h.out w (h'.out w hm)⟩
instance:CsF (Hd []) (.slice none 0 0) 0 []:=⟨⟨none,0,rfl,Nat.le_refl _,Nat.zero_le _,fun h=>absurd h (by omega)⟩,fun w _=>⟨⟨none,0,rfl,Nat.le_refl _,Nat.zero_le _,fun h=>absurd h (by omega)⟩,fun j u h=>by simp at h⟩⟩
theorem Cs.stay {w w':World}{v:Value}{n:Nat}{xs:List Value}(h:Cs w v n xs)(hb:∀ b off cap,v=.slice (some ⟨b,off,none⟩) n cap→b<w.heap.size→w'.heap[b]? = w.heap[b]?):Cs w' v n xs:=
 ⟨h.ln,fun j u hj=>by
  obtain ⟨b,off,cap,hv,hc⟩:=h.cell j u hj
  exact ⟨b,off,cap,hv,(World.cell?_of_block (a:=⟨b,off+j,none⟩) (hb b off cap hv (World.block_lt_of_cell? _ _ hc))).trans hc⟩⟩
theorem Cs.below {w w':World}{v:Value}{n:Nat}{xs:List Value}(h:Cs w v n xs)(hb:Below w.heap.size w w'):Cs w' v n xs:=h.stay fun b _ _ _ hlt=>hb.block b hlt
theorem Cs.old {W:World}{v:Value}{n:Nat}{xs:List Value}(h:Cs W v n xs):CsF (Old W []) v n xs:=⟨h.ln,fun w ho=>h.stay fun b _ _ _ hlt=>ho b hlt (by simp)⟩
class OwnL (e size:semiOutParam Nat)(v:Value)(n:outParam Nat)(xs:outParam (List Value))(oa:outParam Blks):Prop where
 len:xs.length=n * size
 out:(v=.slice none 0 0∧n=0∧oa=[])∨
  ∃ g cap cur,v=.slice (some ⟨g,0,none⟩) n cap∧n≤cap∧cap≤maxLen∧cur.size=cap * size∧cur.toList.take (n * size)=xs∧oa=[(g,(cur,e))]
 tb:oa=[]∨Nat.blt e BIG=true
theorem OwnL.big {e size:Nat}{v:Value}{n:Nat}{xs:List Value}{p:Nat×(Array Value×TypeId)}(h:OwnL e size v n xs [p]):Nat.blt e BIG=true:=by
 rcases h.tb with h|h
 ·cases h
 ·exact h
theorem OwnL.row {e size:Nat}{v:Value}{n:Nat}{xs:List Value}{oa:Blks}(h:OwnL e size v n xs oa){w:World}(hd:Hd oa w):w.ownsRow 0 e size v n xs:=by
 refine ⟨h.len,?_⟩
 rcases h.out with ⟨rfl,rfl,rfl⟩ | ⟨g,cap,cur,rfl,hnc,hcm,hcs,htake,rfl⟩
 ·exact .inl ⟨rfl,rfl⟩
 ·exact .inr ⟨g,cap,cur,rfl,Nat.zero_le _,(hd (g,(cur,e)) (by simp)).trans (congrArg some (toObj_cells h.big)),hnc,hcm,hcs,htake⟩
theorem OwnL.ln {e size:Nat}{v:Value}{n:Nat}{xs:List Value}{oa:Blks}(h:OwnL e size v n xs oa):Ln v n:=by
 rcases h.out with ⟨rfl,rfl,rfl⟩ | ⟨g,cap,cur,rfl,hnc,hcm,hcs,htake,rfl⟩
 ·exact ⟨none,0,rfl,Nat.le_refl _,Nat.zero_le _,fun h=>absurd h (by omega)⟩
 ·exact ⟨some ⟨g,0,none⟩,cap,rfl,hnc,hcm,fun _=>⟨g,0,rfl⟩⟩
instance OwnL.cs {e size:Nat}{v:Value}{n:Nat}{xs:List Value}{oa:Blks}[h:OwnL e size v n xs oa]:CsF (Hd oa) v n xs:=⟨h.ln,fun w hd=>⟨h.ln,fun j u hj=>by
 have hr:=h.row hd
 rcases h.out with ⟨rfl,rfl,rfl⟩ | ⟨g,cap,cur,rfl,hnc,hcm,hcs,htake,rfl⟩
 ·have:=h.len
  have hx:xs=[]:=List.eq_nil_of_length_eq_zero (by simpa using this)
  subst hx
  simp at hj
 ·refine ⟨g,0,cap,rfl,?_⟩
  have:=hr.cells (g:=g) rfl j u hj
  rwa [Addr.add_mid] at this⟩⟩
theorem OwnL.nil (e size:Nat):OwnL e size (.slice none 0 0) 0 [] []:=⟨by simp,.inl ⟨rfl,rfl,rfl⟩,.inl rfl⟩
class Snoc (l:Blks)(f:outParam (Blks→Blks)):Prop where
 out:∀ o,f o=l++o
instance:Snoc [] (fun o=>o):=⟨fun _=>rfl⟩
instance {p:Nat×(Array Value×TypeId)}{l:Blks}{f:Blks→Blks}[h:Snoc l f]:Snoc (p::l) (fun o=>p::f o):=⟨fun o=>by rw [h.out];rfl⟩
instance {ob l:Blks}{f:Blks→Blks}[h:Snoc l f]:Snoc (ob++l) (fun o=>ob++f o):=⟨fun o=>by rw [h.out,List.append_assoc]⟩
instance (priority:=800){ob:Blks}:Snoc ob (fun o=>ob++o):=⟨fun o=>rfl⟩
class Seg (l oa:Blks)(f:outParam (Blks→Blks)):Prop where
 out:∃ pre post,l=pre++(oa++post)∧∀ o,f o=pre++(o++post)
instance {oa r:Blks}:Seg (oa++r) oa (fun o=>o++r):=⟨[],r,rfl,fun _=>rfl⟩
instance {oa:Blks}:Seg oa oa (fun o=>o):=⟨[],[],by simp,fun _=>by simp⟩
instance (priority:=900){p:Nat×(Array Value×TypeId)}{l oa:Blks}{f:Blks→Blks}[h:Seg l oa f]:Seg (p::l) oa (fun o=>p::f o):=by
 obtain ⟨pre,post,h1,h2⟩:=h.out
 exact ⟨p::pre,post,by rw [h1];rfl,fun o=>by rw [h2];rfl⟩
instance (priority:=900){ob l oa:Blks}{f:Blks→Blks}[h:Seg l oa f]:Seg (ob++l) oa (fun o=>ob++f o):=by
 obtain ⟨pre,post,h1,h2⟩:=h.out
 exact ⟨ob++pre,post,by rw [h1,List.append_assoc],fun o=>by rw [h2,List.append_assoc]⟩
instance (priority:=950){l:Blks}{f:Blks→Blks}[h:Snoc l f]:Seg l [] f:=⟨l,[],by simp,fun o=>by rw [h.out,List.append_nil]⟩
section
variable {X:Cx}
theorem Mem.drew {l:Blks}{w:World}(h:Mem X l w):Mem X l w.drew:=h.grow ⟨rfl,rfl,rfl,Nat.le_refl _,fun _ _=>rfl⟩
structure Upd (w:World)(oa:Blks)(w':World)(oa':Blks):Prop where
 os:w'.os=w.os
 tape:w'.tape=w.tape
 output:w'.output=w.output
 size:w.heap.size≤w'.heap.size
 old:∀ k,k<w.heap.size→k∉keys oa→w'.heap[k]? = w.heap[k]?
 nd:(keys oa').Nodup
 now:Hd oa' w'
 fresh:∀ n∈keys oa',n∈keys oa∨w.heap.size≤n
theorem keys_app (a b:Blks):keys (a++b)=keys a++keys b:=by simp [keys]
theorem Upd.mem {w w':World}{oa oa' l:Blks}{f:Blks→Blks}(hm:Mem X l w)[hs:Seg l oa f](h:Upd w oa w' oa'):Mem X (f oa') w':=by
 obtain ⟨pre,post,rfl,h2⟩:=hs.out
 rw [h2]
 have nd:=hm.nd
 have lt:∀ n∈keys (pre++(oa++post)),n<w.heap.size:=fun n hn=>hm.lt hn
 simp only [keys_app,List.mem_append] at lt nd
 have nd':(keys (pre++(oa'++post))).Nodup:=by
  simp only [keys_app,List.nodup_append,List.mem_append] at nd ⊢
  obtain ⟨n1,⟨n2,n3,n4⟩,n5⟩:=nd
  refine ⟨n1,⟨h.nd,n3,fun a ha b hb e=>?_⟩,fun a ha b hb e=>?_⟩
  ·subst e
   rcases h.fresh a ha with h1|h1
   ·exact n4 a h1 a hb rfl
   ·have:=lt a (.inr (.inr hb));omega
  ·subst e
   rcases hb with hb|hb
   ·rcases h.fresh a hb with h1|h1
    ·exact n5 a ha a (.inl h1) rfl
    ·have:=lt a (.inl ha);omega
   ·exact n5 a ha a (.inr hb) rfl
 have other:∀ p,p∈pre++post→w'.heap[p.1]? = some (toObj p.2):=fun p hp=>by
  have hin:p∈pre++(oa++post):=by
   simp only [List.mem_append] at hp ⊢
   rcases hp with hp|hp
   ·exact .inl hp
   ·exact .inr (.inr hp)
  have hnow:=hm.cls.now p.1 p.2.1 p.2.2 (mu_mem_of hin hm.nd)
  rw [h.old p.1 (blk_lt hnow) (fun hk=>?_)]
  ·exact hnow
  ·simp only [List.nodup_append,List.mem_append] at nd
   obtain ⟨n1,⟨n2,n3,n4⟩,n5⟩:=nd
   have hp1:∀ q:Blks,p∈q→p.1∈keys q:=fun q hq=>List.mem_map.2 ⟨p,hq,rfl⟩
   simp only [List.mem_append] at hp
   rcases hp with hp|hp
   ·exact n5 _ (hp1 _ hp) _ (.inl hk) rfl
   ·exact n4 _ hk _ (hp1 _ hp) rfl
 refine ⟨nd',⟨h.os.trans hm.cls.os,h.tape.trans hm.cls.tape,h.output.trans hm.cls.output,Nat.le_trans hm.cls.size h.size,fun k hk ho=>?_,fun k c t hx=>?_⟩,fun n hn hlt=>?_⟩
 ·rw [h.old k (Nat.lt_of_lt_of_le hk hm.cls.size) (fun hin=>ho (hm.fresh k (by simp only [keys_app,List.mem_append];exact .inr (.inl hin)) hk))]
  exact hm.cls.old k hk ho
 ·have hin:=mu_in hx
  simp only [List.mem_append] at hin
  rcases hin with hin|hin|hin
  ·exact other (k,(c,t)) (by simp [hin])
  ·exact h.now (k,(c,t)) hin
  ·exact other (k,(c,t)) (by simp [hin])
 ·simp only [keys_app,List.mem_append] at hn
  rcases hn with hn|hn|hn
  ·exact hm.fresh n (by simp only [keys_app,List.mem_append];exact .inl hn) hlt
  ·rcases h.fresh n hn with h1|h1
   ·exact hm.fresh n (by simp only [keys_app,List.mem_append];exact .inr (.inl h1)) hlt
   ·have:=hm.cls.size;omega
  ·exact hm.fresh n (by simp only [keys_app,List.mem_append];exact .inr (.inr hn)) hlt
theorem Upd.of_below {w w':World}{oa:Blks}(h:Below w.heap.size w w')(nd:(keys oa).Nodup)(fr:∀ n∈keys oa,w.heap.size≤n)(now:Hd oa w'):Upd w [] w' oa:=
 ⟨h.os,h.tape,h.output,h.size,fun k hk _=>h.block k hk,nd,now,fun n hn=>.inr (fr n hn)⟩
theorem Upd.below {w w':World}{oa:Blks}(h:Upd w [] w' oa):Below w.heap.size w w':=⟨h.os,h.tape,h.output,h.size,fun k hk=>h.old k hk (by simp [keys])⟩
end
class EI (P:Program)(e:Nat)(size bytes:outParam Nat)(z:outParam (Array Value)):Prop where
 out:∃ i zv,P.info? e=some i∧i.size=size∧i.bytes=bytes∧i.zero=some zv∧zv.cells=z∧z.size=size
 tb:Nat.blt e BIG=true
theorem hd_one {g:Nat}{x:Array Value×TypeId}{w:World}(h:w.heap[g]? = some (toObj x)):Hd [(g,x)] w:=fun p hp=>by
 simp only [List.mem_singleton] at hp
 subst hp
 exact h
theorem upd_new {w w1:World}(h1:w1.os=w.os)(h2:w1.tape=w.tape)(h3:w1.output=w.output)(h4:w1.heap=w.heap)(oa:Blks)(c:Array Value)(e:Nat)(hb:Nat.blt e BIG=true:=by first|rfl|assumption):Upd w oa (w1.alloc (.cells c e)) [(w.heap.size,(c,e))]:=by
 refine ⟨h1,h2,h3,by simp [h4],fun k hk _=>?_,by simp [keys],hd_one ?_,fun n hn=>?_⟩
 ·show (w1.heap.push _)[k]? = _
  rw [h4,Array.getElem?_push,if_neg (by omega)]
 ·show (w1.heap.push _)[w.heap.size]? = _
  rw [h4,Array.getElem?_push,if_pos rfl,toObj_cells hb]
 ·simp only [keys,List.map_cons,List.map_nil,List.mem_singleton] at hn
  subst hn;exact .inr (Nat.le_refl _)
theorem append_own {P:Program}{oa:Blks}{w:World}{t ty e size bytes:Nat}{z:Array Value}{u v:Value}{n m:Nat}{xs ys:List Value}
  (ht:P.underlying t=some (.slice e)) (hei:EI P e size bytes z) (hown:OwnL e size v n xs oa) (hd:Hd oa w) (hu:Cs w u m ys) (hl:ys.length=m * size) (h1:∀ y∈ys,y.oneCell'=true)
  (h63:n+m≤maxLen) (hb:(n+m) * bytes≤140737488355328) :
  ∃ v' w' oa',(Builtin.append_ #[t,t] ty #[v,u]).run P w=.ok v' w'∧OwnL e size v' (n+m) (xs++ys) oa'∧Upd w oa w' oa':=by
 have hbig:=hei.tb
 obtain ⟨i,zv,hi,rfl,rfl,hz,rfl,hzs⟩:=hei.out
 clear hei
 have hxl:=hown.len
 have hnd:(keys oa).Nodup:=by rcases hown.out with ⟨_,_,rfl⟩ | ⟨g,cap,cur,_,_,_,_,_,rfl⟩ <;> simp [keys]
 have hlen:(xs++ys).length=(n+m) * i.size:=by rw [List.length_append,hxl,hl,Nat.add_mul]
 obtain ⟨p,c,rfl,hmc,hcm',hp⟩:=hu.ln.out
 by_cases h0:m=0
 ·subst h0
  have hn:ys=[]:=List.eq_nil_of_length_eq_zero (by simpa using hl)
  subst hn
  refine ⟨v,w,oa,?_,by simpa using hown,rfl,rfl,rfl,Nat.le_refl _,fun _ _ _=>rfl,hnd,hd,fun n hn=>.inl hn⟩
  rcases hown.out with ⟨rfl,rfl,rfl⟩ | ⟨g,cap,cur,rfl,hnc,hcm,hcs,htake,rfl⟩
  ·cases p <;> simp [Builtin.append_,run_underlying ht,sizeOf,typeInfo,hi,Builtin.lenOf,Builtin.firstCells,loadCells,loadCellsFrom]
  ·cases p <;> simp [Builtin.append_,run_underlying ht,sizeOf,typeInfo,hi,Builtin.lenOf,Builtin.firstCells,loadCells,loadCellsFrom,hnc,storeCells]
 obtain ⟨b,off,rfl⟩:=hp (by omega)
 have hnews:∀ j y,ys[j]? = some y→w.cell? ((⟨b,off,none⟩:Addr).add j)=some y:=fun j y hj=>by
  obtain ⟨b',off',cap',hv,hc⟩:=hu.cell j y hj
  injection hv with hv
  injection hv with hv
  injection hv with hb' ho'
  subst hb';subst ho'
  rw [Addr.add_mid];exact hc
 have size_new:∀ k,n+m≤k→(xs.toArray++ys.toArray++Builtin.zeroCells zv.cells (k - (n+m))).size=k * i.size:=fun k hk=>by
  simp only [Array.size_append,List.size_toArray,size_zeroCells,hzs]
  rw [hxl,hl,←Nat.add_mul,←Nat.add_mul]
  congr 1
  omega
 have take_new:∀ k,(xs.toArray++ys.toArray++Builtin.zeroCells zv.cells (k - (n+m))).toList.take ((n+m) * i.size)=xs++ys:=fun k=>by
  simp only [Array.toList_append,List.append_assoc]
  rw [←List.append_assoc,←hlen]
  exact List.take_left
 rcases hown.out with ⟨rfl,rfl,rfl⟩ | ⟨g,cap,cur,rfl,hnc,hcm,hcs,htake,rfl⟩
 ·have hx:xs=[]:=List.eq_nil_of_length_eq_zero (by simpa using hxl)
  subst hx
  have hr:=run_append_nil (P:=P) w t ty e i zv ht hi hz ⟨b,off,none⟩ m c ys hl hnews (by omega) (by simp only [maxLen] at h63;omega) (by rw [Nat.zero_add] at hb;omega)
  have hge:=grownCap_ge w m 0 e
  have hcl:=grownCap_le_maxLen w m 0 e (by omega)
  have hs:=size_new (grownCap w m 0 e) (by omega)
  have htk:=take_new (grownCap w m 0 e)
  simp only [Nat.zero_add,List.nil_append,Array.empty_append] at hs htk hlen ⊢
  exact ⟨_,_,[(w.heap.size,(_,e))],hr,⟨hlen,.inr ⟨w.heap.size,_,_,rfl,hge,hcl,hs,htk,rfl⟩,.inr hbig⟩,upd_new (w:=w) (w1:=w.drew) rfl rfl rfl rfl [] _ e⟩
 ·have hg:w.heap[g]? = some (.cells cur e (0,0)):=(hd (g,(cur,e)) (by simp)).trans (congrArg some (toObj_cells hbig))
  by_cases hroom:n+m≤cap
  ·have hfit:n * i.size+ys.length≤cur.size:=by rw [hl,hcs,←Nat.add_mul];exact Nat.mul_le_mul_right _ hroom
   have hr:=run_append_room (P:=P) w t ty e i ht hi g n cap cur hg ⟨b,off,none⟩ m c ys hl hnews h1 hroom hfit
   refine ⟨_,_,[(g,(_,e))],hr,⟨hlen,.inr ⟨g,cap,_,rfl,hroom,hcm,?_,?_,rfl⟩,.inr hbig⟩,rfl,rfl,rfl,by simp,fun k hk hne=>setRow_other w g k _ (fun e=>hne (by simp [keys,e])),by simp [keys],hd_one ((setRow_heap w g cur _ e _ hg).trans (congrArg some (toObj_cells hbig).symm)),fun n hn=>.inl (by simpa [keys] using hn)⟩
   ·simp only [List.size_toArray,List.length_append,List.length_take,List.length_drop,Array.length_toList]
    omega
   ·rw [htake,←hlen]
    exact List.take_left
  ·have holds:∀ j y,xs[j]? = some y→w.cell? ((⟨g,0,none⟩:Addr).add j)=some y:=(hown.row hd).cells (g:=g) rfl
   have hr:=run_append_grow (P:=P) w t ty e i zv ht hi hz ⟨g,0,none⟩ n cap xs hxl holds ⟨b,off,none⟩ m c ys hl hnews (by omega) (by simp only [maxLen] at h63;omega) (growslice_fits (by omega) hb)
   have hge:=grownCap_ge w (n+m) cap e
   have hcl:=grownCap_le_maxLen w (n+m) cap e h63
   exact ⟨_,_,[(w.heap.size,(_,e))],hr,⟨hlen,.inr ⟨w.heap.size,_,_,rfl,hge,hcl,size_new _ hge,take_new _,rfl⟩,.inr hbig⟩,upd_new (w:=w) (w1:=w.drew) rfl rfl rfl rfl _ _ e⟩
def bl (l:List Nat):List Value:=l.map fun (k:Nat)=>Value.int .u8 (k:Int)
theorem bl_len (l:List Nat):(bl l).length=l.length:=by simp [bl]
theorem bl_app (a b:List Nat):bl (a++b)=bl a++bl b:=by simp [bl]
theorem bl_get {l:List Nat}{i:Nat}(h:i<l.length):(bl l)[i]? = some (.int .u8 ((l.getD i 0:Nat):Int)):=by simp [bl,h,List.getD]
theorem bl_one (l:List Nat):∀ y∈bl l,y.oneCell'=true:=fun y hy=>by
 obtain ⟨k,_,rfl⟩:=List.mem_map.1 hy
 rfl
theorem bl_drop (l:List Nat)(k:Nat):(bl l).drop k=bl (l.drop k):=by simp [bl]
theorem bl_take (l:List Nat)(k:Nat):(bl l).take k=bl (l.take k):=by simp [bl]
theorem bl_set (l:List Nat)(i k:Nat):(bl l).set i (.int .u8 (k:Int))=bl (l.set i k):=by simp [bl]
end Go.Proofs.YtkendlnjaopbeaaGreatDoor
namespace Go.Proofs.YtkendlnjaopbeaaGreatDoor
open Go.RowKit
set_option linter.unusedVariables false
set_option linter.unusedSimpArgs false
class ZC (P:Program)(t:Nat)(c:outParam (Array Value)):Prop where
 out:((P.info? t).bind (·.zero)).map (·.cells)=some c
theorem ZC.zr {P:Program}{t:Nat}{c:Array Value}(h:ZC P t c):∃ z,ZR P t z∧z.cells=c:=by
 have h:=h.out
 cases hz:(P.info? t).bind (·.zero) with
 | none=>simp [hz] at h
 | some z=>exact ⟨z,⟨hz⟩,by simpa [hz] using h⟩
theorem mk_allocC {X:Cx}{s:Slots}{o:Oper}{t:Nat}{c:Array Value}(ho:o.op=.alloc t)[hz:ZC X.P t c]:Mk X s o c t ptr:=by
 obtain ⟨z,h1,h2⟩:=hz.zr
 exact mk_alloc ho h2
theorem wd_allocC {X:Cx}{G:Rg}{lc:Blks}{s:Slots}{o:Oper}{Q:Post}{ops:Array Oper}{r:List Oper}{clean:Bool}{t:Nat}{c:Array Value}{s':Nat→Slots}(hm:Mem X G.l0 G.w0)(hg:gd s ops o=some true)(hd:dOk X.N o.dst=true)(ho:o.op=.alloc t)[hz:ZC X.P t c]
  (h:∀ n,X.W.heap.size≤n→G.w0.heap.size≤n→Wd X G ops Q r (s' n) ((n,(c,t))::lc) clean) (hs':∀ n,sputO s o.dst (ptr n)=s' n:=by intro _;(try dsimp only [sputO,sput,Nat.reduceBEq,cond_true,cond_false,beq_self_eq_true]);first|done|exact rfl) (hb:Nat.blt t BIG=true:=by first|rfl|assumption):Wd X G ops Q (o::r) s lc clean:=by
 obtain ⟨z,h1,h2⟩:=hz.zr
 exact wd_alloc hm hg hd ho h h2 hs'
theorem rd_cast {X:Cx}{s:Slots}{l:Blks}{o:Oper}{v v':Value}(h:RdV X s l o v)(e:v=v'):RdV X s l o v':=e ▸ h
end Go.Proofs.YtkendlnjaopbeaaGreatDoor
namespace Go.Proofs.YtkendlnjaopbeaaGreatDoor
open Go.RowKit
set_option linter.unusedVariables false
set_option linter.unusedSimpArgs false
section
variable {X:Cx}{s:Slots}{l:Blks}{o:Oper}{v:Value}
theorem Ln.shape {n:Nat}(h:Ln v n)(hn:0<n):∃ cap,v=.slice (some ⟨elB v,elO v,none⟩) n cap∧n≤cap∧cap≤maxLen:=by
 obtain ⟨p,cap,rfl,h1,h2,h3⟩:=h.out
 obtain ⟨b,off,rfl⟩:=h3 hn
 exact ⟨cap,rfl,h1,h2⟩
theorem rd_lenO {c:Call}{x:Operand}{n t e:Nat}(ho:o.op=.call c)(hc:c.callee=.builtin .len)(ha:c.args=#[x])(ht:c.argTypes=#[t])(hx:val s x=some v)[hu:UT X.P t (.slice e)][hl:Ln v n]:RdV X s l o (.int .i64 n):=by
 obtain ⟨p,cap,rfl,_⟩:=hl.out
 exact rd_lenS ho hc ha ht hx
theorem rd_ixO {t e k n j:Nat}{x ix:Operand}{ki:IntKind}{i:Int}(ho:o.op=.indexAddr t x ix)(hx:val s x=some v)(hi:val s ix=some (.int ki i))
  [ht:UT X.P t (.slice e)] [hs:SZ X.P e k] [hl:Ln v n] (h0:0≤i:=by first|(with_reducible assumption)|omega|decide) (h1:i<n:=by first|(with_reducible assumption)|omega|decide) (hj:i.toNat * k=j:=by first|(with_reducible assumption)|((try simp only [Int.toNat_natCast,Nat.mul_one,Int.reduceToNat,Nat.reduceMul]);first|done|exact rfl)):RdV X s l o (.pointer (some ⟨elB v,elO v+j,none⟩)):=
 rd_val fun a w he hm=>by
  subst hj
  obtain ⟨cap,hv,_,_⟩:=hl.shape (by omega)
  have hx':=he.eval hx
  rw [hv] at hx'
  simp [execOp,ho,hx',he.eval hi,Instr.indexAt,asIntOf,Sem.run_bind,run_underlying ht.out,hs.run,h0,h1,Instr.sureAddr,Addr.add_mid]
theorem rd_fdO {t f k ty fo j j':Nat}{x:Operand}{b q:Nat}(ho:o.op=.fieldAddr t x f)(hx:val s x=some (.pointer (some ⟨b,q+j,none⟩)))
  [hf:FD X.P t f fo ty (k+1)] (hj:j+fo=j':=by first|(with_reducible assumption)|((try simp only [Nat.add_zero,Nat.zero_add,Nat.reduceAdd]);first|done|exact rfl)):RdV X s l o (.pointer (some ⟨b,q+j',none⟩)):=
 rd_fdA ho hx (by omega)
theorem ld_O {t n j:Nat}{u y:Value}{xs:List Value}[hu:KD X.P t false][hv:Vw X l u n xs](hj:xs[j]? = some y:=by first|(with_reducible assumption)|((try simp only [List.getElem?_cons_zero,List.getElem?_cons_succ]);first|done|exact rfl)):Ld X l t (elB u) (elO u+j) y:=fun w hm=>by
 obtain ⟨b,off,cap,rfl,hc⟩:=(hv.out w hm).cell j y hj
 have hc':w.cell? ⟨elB (.slice (some ⟨b,off,none⟩) n cap),elO (.slice (some ⟨b,off,none⟩) n cap)+j,none⟩=some y:=hc
 simp [loadVar,Sem.run_bind,hu.agg,run_load,hc']
theorem ld_OR {t n j k:Nat}{u:Value}{xs cs:List Value}[hu:KD X.P t true][hs:SZ X.P t k][hv:Vw X l u n xs](hj:(xs.drop j).take k=cs:=by first|(with_reducible assumption)|((try simp only [List.drop_zero,List.drop_succ_cons,List.take_succ_cons,List.take_zero]);first|done|exact rfl))(hk:cs.length=k:=by first|(with_reducible assumption)|rfl)(hpos:cs≠[]:=by first|(with_reducible assumption)|(simp;done)):Ld X l t (elB u) (elO u+j) (.agg cs.toArray):=fun w hm=>by
 have h:=hu.out
 have hlt:0<cs.length:=List.length_pos_iff.2 hpos
 have hgo:∀ i y,cs[i]? = some y→∃ cap,u=.slice (some ⟨elB u,elO u,none⟩) n cap∧w.cell? ⟨elB u,elO u+(j+i),none⟩=some y:=fun i y hi=>by
  have hi':i<cs.length:=(List.getElem?_eq_some_iff.1 hi).1
  subst hj
  have hlt':i<k:=by rw [←hk];exact hi'
  rw [List.getElem?_take_of_lt hlt',List.getElem?_drop] at hi
  obtain ⟨b,off,cap,rfl,hc⟩:=(hv.out w hm).cell (j+i) y hi
  exact ⟨cap,rfl,hc⟩
 cases hd:X.P.underlying t with
 | none=>simp [hd] at h
 | some d=>
  simp only [hd,Option.map_some,Option.some.injEq] at h
  refine run_loadVar_mid w (elB u) (elO u+j) t cs d (fun i y hi=>?_) hd h (by rw [hs.out,hk])
  obtain ⟨cap,_,hc⟩:=hgo i y hi
  rw [Nat.add_assoc]
  exact hc
def loV (s:Slots):Option Operand→Option Int
 | none=>some 0
 | some x=>match val s x with
  | some (.int _ i)=>some i
  | _=>none
def hiV (s:Slots)(n:Nat):Option Operand→Option Int
 | none=>some n
 | some x=>match val s x with
  | some (.int _ i)=>some i
  | _=>none
class Part (v v':Value)(j:outParam Nat)(m:outParam Nat):Prop where
 out:∀ b off n cap,v=.slice (some ⟨b,off,none⟩) n cap→0<m→∃ cap',v'=.slice (some ⟨b,off+j,none⟩) m cap'
theorem run_sub {P:Program}{w:World}{t e k n lo hi:Nat}{p:Option Addr}{cap:Nat}{a:Act}{N:Nat}(he:Env N s a){ol oh:Option Operand}(ht:P.underlying t=some (.slice e))(hs:SZ P e k)(hl:loV s ol=some (lo:Int))(hh:hiV s n oh=some (hi:Int))
  (h1:lo≤hi) (h2:hi≤n) (h3:n≤cap):(Instr.sliceAt t (.slice p n cap) (ol.map a.eval) (oh.map a.eval) none).run P w=.ok (sliced p lo hi cap k) w:=by
 have hsz:∀ w,(sizeOf e).run P w=.ok k w:=hs.run
 have ho:∀ {x:Operand} {i:Int},(match val s x with|some (.int _ i)=>some i|_=>none)=some i→∃ k,a.eval x=.int k i:=fun {x i} h=>by
  cases hv:val s x with
  | none=>simp [hv] at h
  | some u=>
   cases u <;> simp [hv] at h
   subst h
   exact ⟨_,he.eval hv⟩
 have e0:Instr.sliceAt t (.slice p n cap) (ol.map a.eval) (oh.map a.eval) none=(do
   match ← underlying t with
   | .array n elem=>
    let a' ← Instr.sureAddr (.slice p n cap)
    let (l,h,m) ← Instr.sliceBounds false n n (ol.map a.eval) (oh.map a.eval) none
    let size ← sizeOf elem
    pure (.slice (some (if m=l then a' else a'.add (l * size))) (h - l) (m - l))
   | _=>Instr.slice t (.slice p n cap) (ol.map a.eval) (oh.map a.eval) none):=rfl
 rw [e0,Sem.run_bind,run_underlying ht]
 simp only [Result.andThen_ok,Instr.slice,Sem.run_bind,run_underlying ht]
 have hb:(Instr.sliceBounds true n cap (ol.map a.eval) (oh.map a.eval) none).run P w=.ok (lo,hi,cap) w:=by
  cases ol with
  | none=>
   obtain rfl:lo=0:=by simp [loV] at hl;omega
   cases oh with
   | none=>
    obtain rfl:hi=n:=by simp [hiV] at hh;omega
    simp [Instr.sliceBounds]
   | some y=>
    obtain ⟨ky,hy⟩:=ho hh
    simp [Instr.sliceBounds,hy,run_sliceBound,(by omega:hi≤cap)]
  | some x=>
   obtain ⟨kx,hx⟩:=ho hl
   cases oh with
   | none=>
    obtain rfl:hi=n:=by simp [hiV] at hh;omega
    simp [Instr.sliceBounds,hx,run_sliceBound,(by omega:lo≤hi)]
   | some y=>
    obtain ⟨ky,hy⟩:=ho hh
    simp [Instr.sliceBounds,hx,hy,run_sliceBound,(by omega:hi≤cap),(by omega:lo≤hi)]
 simp only [hb,Result.andThen_ok,hsz,Sem.run_pure]
 rfl
theorem sliced_cs {w:World}{n lo hi k cap:Nat}{p:Option Addr}{xs:List Value}(h:Cs w (.slice p n cap) n xs)(h1:lo≤hi)(h2:hi≤n):Cs w (sliced p lo hi cap k) (hi - lo) ((xs.drop (lo * k)).take ((hi - lo) * k)):=by
 obtain ⟨q,c,hq,h3,h4,h5⟩:=h.ln.out
 injection hq with hq1 hq2 hq3
 subst hq1;subst hq3
 refine ⟨⟨_,_,rfl,by omega,by omega,fun hpos=>?_⟩,fun j u hj=>?_⟩
 ·obtain ⟨b,off,rfl⟩:=h5 (by omega)
  rw [if_neg (by omega)]
  exact ⟨b,off+lo * k,by rw [Option.map_some,Addr.add_mid]⟩
 ·have hlt:j<(hi - lo) * k:=by
   have:=(List.getElem?_eq_some_iff.1 hj).1
   rw [List.length_take] at this;omega
  rw [List.getElem?_take_of_lt hlt,List.getElem?_drop] at hj
  obtain ⟨b,off,c',hv,hc⟩:=h.cell _ _ hj
  injection hv with hv1 hv2 hv3
  subst hv1
  have hpos:lo<hi:=by
   rcases Nat.lt_or_ge lo hi with h|h
   ·exact h
   ·rw [Nat.sub_eq_zero_of_le h,Nat.zero_mul] at hlt;omega
  refine ⟨b,off+lo * k,cap - lo,?_,by rw [Nat.add_assoc];exact hc⟩
  unfold sliced
  rw [if_neg (by omega),Option.map_some,Addr.add_mid]
end
section
variable {X:Cx}{s:Slots}{l:Blks}{o:Oper}{v:Value}{Q:Post}{ops:Array Oper}{r:List Oper}
theorem sub_ex {t e k n n' lo hi:Nat}{x:Operand}{ol oh:Option Operand}{Φ:World→Prop}{xs xs':List Value}(ho:o.op=.slice t x ol oh none)(hx:val s x=some v)
  (ht:UT X.P t (.slice e)) (hs:SZ X.P e k) {la ha:Int} (hv:CsF Φ v n xs) (hl:loV s ol=some la) (hh:hiV s n oh=some ha) (hnl:la=(lo:Int)) (hnh:ha=(hi:Int))
  (h1:lo≤hi) (h2:hi≤n) (hn:hi - lo=n') (hxs:(xs.drop (lo * k)).take ((hi - lo) * k)=xs'):∃ v',RdV X s [] o v'∧CsF Φ v' n' xs'∧Part v v' (lo * k) n':=by
 subst hn;subst hxs
 rw [hnl] at hl
 rw [hnh] at hh
 obtain ⟨p,cap,rfl,h3,h4,h5⟩:=hv.ln.out
 refine ⟨sliced p lo hi cap k,fun ac w he hm=>?_,⟨?_,fun w' hw'=>sliced_cs (hv.out w' hw') h1 h2⟩,⟨fun b off n2 cap2 he hpos=>?_⟩⟩
 ·have hr:=run_sub (P:=X.P) (w:=w) he (p:=p) ht.out hs hl hh h1 h2 h3
  simp only [execOp,ho,he.eval hx,Sem.run_bind,Option.map_none]
  rw [show (Instr.sliceAt t (Value.slice p n cap) (Option.map ac.eval ol) (Option.map ac.eval oh) none).run X.P w=_ from hr]
  simp
 ·refine ⟨_,_,rfl,by omega,by omega,fun hpos=>?_⟩
  obtain ⟨b,off,rfl⟩:=h5 (by omega)
  rw [if_neg (by omega)]
  exact ⟨b,off+lo * k,by rw [Option.map_some,Addr.add_mid]⟩
 ·injection he with he1 he2 he3
  subst he1
  refine ⟨cap - lo,?_⟩
  unfold sliced
  rw [if_neg (by omega),Option.map_some,Addr.add_mid]
theorem wl_sub {t e k n n' lo hi:Nat}{x:Operand}{ol oh:Option Operand}{Φ:World→Prop}{xs xs':List Value}{s':Value→Slots}(hg:gd s ops o=some true)(hd:dOk X.N o.dst=true)(ho:o.op=.slice t x ol oh none)(hx:val s x=some v)
  [ht:UT X.P t (.slice e)] [hs:SZ X.P e k] {la ha:Int} [hv:CsF Φ v n xs] (hl:loV s ol=some la) (hh:hiV s n oh=some ha) (hnl:la=(lo:Int)) (hnh:ha=(hi:Int))
  (h:∀ v',CsF Φ v' n' xs'→Part v v' (lo * k) n'→Wl X ops Q r (s' v') l)
  (h1:lo≤hi:=by first|(with_reducible assumption)|omega) (h2:hi≤n:=by first|(with_reducible assumption)|omega)
  (hn:hi - lo=n':=by first|(with_reducible assumption)|rfl) (hxs:(xs.drop (lo * k)).take ((hi - lo) * k)=xs':=by first|(with_reducible assumption)|rfl)
  (hs':∀ v',sputO s o.dst v'=s' v':=by intro _;(try dsimp only [sputO,sput,Nat.reduceBEq,cond_true,cond_false,beq_self_eq_true]);first|done|exact rfl):Wl X ops Q (o::r) s l:=by
 obtain rfl:(fun v'=>sputO s o.dst v')=s':=funext hs'
 obtain ⟨v',h3,h4,h5⟩:=sub_ex ho hx ht hs hv hl hh hnl hnh h1 h2 hn hxs
 exact wl_rd hg hd (RdV.rd fun a w he hm=>h3 a w he (hm.sub .nil)) (h v' h4 h5) rfl
theorem rd_slA {t n e k lo hi p:Nat}{x:Operand}{ol oh:Option Operand}{b off:Nat}{la ha:Int}(ho:o.op=.slice t x ol oh none)(hx:val s x=some (.pointer (some ⟨b,off,none⟩)))[ht:UT X.P t (.array n e)][hs:SZ X.P e k]
  (hl:loV s ol=some la) (hh:hiV s n oh=some ha) (hnl:la=(lo:Int)) (hnh:ha=(hi:Int)) (h1:lo≤hi:=by first|(with_reducible assumption)|omega|decide) (h2:hi≤n:=by first|(with_reducible assumption)|omega|decide) (h0:lo<n:=by first|(with_reducible assumption)|omega|decide) {q m:Nat} (hp:off+lo * k=p:=by first|(with_reducible assumption)|((try simp only [Nat.add_zero,Nat.zero_add,Nat.mul_one,Nat.zero_mul,Nat.reduceAdd,Nat.reduceMul]);first|done|exact rfl)) (hq:hi - lo=q:=by first|(with_reducible assumption)|((try simp only [Nat.sub_zero,Nat.reduceSub]);first|done|exact rfl)) (hm:n - lo=m:=by first|(with_reducible assumption)|((try simp only [Nat.sub_zero,Nat.reduceSub]);first|done|exact rfl)):RdV X s l o (.slice (some ⟨b,p,none⟩) q m):=by
 subst hp;subst hq;subst hm
 rw [hnl] at hl
 rw [hnh] at hh
 refine rd_val fun a w he hmem=>?_
 have hsz:∀ w,(sizeOf e).run X.P w=.ok k w:=hs.run
 have hi':∀ {x:Operand} {i:Int},(match val s x with|some (.int _ i)=>some i|_=>none)=some i→∃ k,a.eval x=.int k i:=fun {x i} h=>by
  cases hv:val s x with
  | none=>simp [hv] at h
  | some u=>
   cases u <;> simp [hv] at h
   subst h
   exact ⟨_,he.eval hv⟩
 have hb:(Instr.sliceBounds false n n (ol.map a.eval) (oh.map a.eval) none).run X.P w=.ok (lo,hi,n) w:=by
  cases ol with
  | none=>
   obtain rfl:lo=0:=by simp [loV] at hl;omega
   cases oh with
   | none=>
    obtain rfl:hi=n:=by simp [hiV] at hh;omega
    simp [Instr.sliceBounds]
   | some y=>
    obtain ⟨ky,hy⟩:=hi' hh
    simp [Instr.sliceBounds,hy,run_sliceBound,h2]
  | some z=>
   obtain ⟨kx,hx'⟩:=hi' hl
   cases oh with
   | none=>
    obtain rfl:hi=n:=by simp [hiV] at hh;omega
    simp [Instr.sliceBounds,hx',run_sliceBound,h1]
   | some y=>
    obtain ⟨ky,hy⟩:=hi' hh
    simp [Instr.sliceBounds,hx',hy,run_sliceBound,h2,h1]
 have hne:¬n=lo:=by omega
 simp only [execOp,ho,he.eval hx,Sem.run_bind,Option.map_none,Instr.sliceAt,run_underlying ht.out,Result.andThen_ok,Instr.sureAddr,Sem.run_pure,hb,hsz]
 simp [hne,Addr.add_mid]
theorem wl_appendO {x y:Operand}{t e k bytes n m:Nat}{z:Array Value}{u:Value}{xs ys zs:List Value}{oa:Blks}{f:Blks→Blks}{s':Value→Slots}
  (hg:gd s ops o=some true) (hd:dOk X.N o.dst=true) (hop:o.op=.call {callee:=.builtin .append,args:=#[x,y],argTypes:=#[t,t]})
  (hx:val s x=some v) (hy:val s y=some u) [ht:UT X.P t (.slice e)] [hei:EI X.P e k bytes z] [hown:OwnL e k v n xs oa] [hseg:Seg l oa f] [hu:Vw X l u m ys]
  (h:∀ v' oa',OwnL e k v' (n+m) zs oa'→Wl X ops Q r (s' v') (f oa'))
  (hl:ys.length=m * k:=by first|(with_reducible assumption)|(simp only [bl_len,List.length_cons,List.length_nil,Nat.mul_one];done)|rfl) (h1:∀ y∈ys,y.oneCell'=true:=by first|(with_reducible assumption)|exact bl_one _|(simp only [List.forall_mem_cons,List.not_mem_nil,false_imp_iff,implies_true,and_true,One.out];done)|simp [Value.oneCell'])
  (h63:(n+m) * bytes≤1152921504606846976∧n+m≤1152921504606846976∧(n+m) * bytes≤140737488355328:=by (refine ⟨?_,?_,?_⟩ <;> omega))
  (hzs:xs++ys=zs:=by first|(with_reducible assumption)|exact (bl_app _ _).symm|rfl)
  (hs':∀ v',sputO s o.dst v'=s' v':=by intro _;(try dsimp only [sputO,sput,Nat.reduceBEq,cond_true,cond_false,beq_self_eq_true]);first|done|exact rfl):Wl X ops Q (o::r) s l:=fun ac w hst=>by
 obtain rfl:(fun v'=>sputO s o.dst v')=s':=funext hs'
 subst hzs
 have hw:=gd_wanted hst.env hg
 have hd0:Hd oa w:=by
  obtain ⟨pre,post,rfl,_⟩:=hseg.out
  exact fun p hp=>hst.mem.cls.now p.1 p.2.1 p.2.2 (mu_mem_of (by simp [hp]) hst.mem.nd)
 obtain ⟨v',w',oa',hr,hv',hup⟩:=append_own (ty:=o.type) ht.out hei hown hd0 (hu.out w hst.mem) hl h1 (by simp only [maxLen];omega) h63.2.2
 unfold wpList
 rw [if_pos hw]
 refine .inl ?_
 unfold Oper.wp execOp
 simp only [hop,resolve,invoke,builtin,Sem.run_bind,Sem.run_pure,Result.andThen_ok,List.map_toArray,List.map_cons,List.map_nil,hst.env.eval hx,hst.env.eval hy,hr]
 exact h v' oa' hv' _ _ ⟨hst.env.put hd _,hup.mem hst.mem⟩
def RetO {T:Type}(mk:T→Value)(Φ:T→Blks→Prop)(w:World)(e:Ending)(w':World):Prop:=∃ x oa,e=.returned (mk x)∧Φ x oa∧Upd w [] w' oa
theorem fn_own {T:Type}{mk:T→Value}{Φ:T→Blks→Prop}{P:Program}{f:Nat}{fn:Func}{c:Code}{vs:List Value}{W:World}{N:Nat}(hf:P.funcs[f]? = some fn)(hb:fn.body=some c)(hN:fn.ntmps=N){rs:List ResultVar}(hrs:fn.results=rs.toArray)(hl:vs.length≤N)
  (h:Wc ⟨P,W,N,[]⟩ c (endP ⟨P,W,N,[]⟩ rs fun u l=>∃ x oa,u=mk x∧Φ x oa∧SubL oa l) (initS vs 0) []):Calls P f vs.toArray W (RetO mk Φ W):=
 (fn_calls hf hb hN hrs hl Mem.init h).mono fun e w' ⟨u,l,he,⟨x,oa,hu,hφ,hs⟩,hm⟩=>by
  have hm':=hm.sub hs
  refine ⟨x,oa,by rw [he,hu],hφ,Upd.of_below (hm.below rfl) hm'.nd (fun n hn=>?_) (fun p hp=>hm'.cls.now p.1 p.2.1 p.2.2 (mu_mem_of hp hm'.nd))⟩
  rcases Nat.lt_or_ge n W.heap.size with h|h
  ·exact absurd (hm'.fresh n hn h) (by simp)
  ·exact h
theorem wl_newO {T:Type}{mk:T→Value}{Φ:T→Blks→Prop}{c:Call}{fi:Nat}{vs:List Value}{f:Blks→Blks}{s':T→Slots}(hg:gd s ops o=some true)(hd:dOk X.N o.dst=true)(ho:o.op=.call c)(hc:c.callee=.value (.func fi))(ha:vals s c.args.toList=some vs)
  (hC:∀ w,Mem X l w→Calls X.P fi vs.toArray w (RetO mk Φ w)) [hf:Snoc l f] (h:∀ x oa,Φ x oa→Wl X ops Q r (s' x) (f oa)) (hk:callOk X.P fi=true:=by kernel_rfl)
  (hs':∀ x,sputO s o.dst (mk x)=s' x:=by intro _;(try dsimp only [sputO,sput,Nat.reduceBEq,cond_true,cond_false,beq_self_eq_true]);first|done|exact rfl):Wl X ops Q (o::r) s l:=fun a w hst=>by
 obtain rfl:(fun x=>sputO s o.dst (mk x))=s':=funext hs'
 have hw:=gd_wanted hst.env hg
 unfold wpList
 rw [if_pos hw]
 refine .inl ?_
 unfold Oper.wp
 rw [run_op_call ho hc hst.env ha,run_enter hk]
 refine (hC w hst.mem).mono fun e w' ⟨x,oa,he,hφ,hup⟩=>?_
 subst he
 haveI:Seg l [] f:=⟨l,[],by simp,fun o=>by rw [hf.out,List.append_nil]⟩
 exact h x oa hφ _ _ ⟨hst.env.put hd _,hup.mem hst.mem⟩
theorem fillC_all {k:Nat}:∀ (vs:List (Nat×Value)) (i:Nat) (z:List Value),vs.map (·.1)=List.range' i vs.length→(∀ p∈vs,p.2.cells.size=k)→z.length=(i+vs.length) * k→
  fillC (fun i=>some (i * k,k)) z vs=some (z.take (i * k)++(vs.map fun p=>p.2.cells.toList).flatten)
 | [],i,z,_,_,hz=>by
  simp only [fillC,List.map_nil,List.flatten_nil,List.append_nil,Option.some.injEq]
  rw [List.take_of_length_le (by rw [hz];simp)]
 | (j,v)::r,i,z,hi,hk,hz=>by
  simp only [List.map_cons,List.length_cons,List.range'_succ,List.cons.injEq] at hi hz
  obtain ⟨rfl,hi⟩:=hi
  have hv:v.cells.size=k:=hk (j,v) (by simp)
  have hle:j * k+k≤z.length:=by rw [hz,show j+(r.length+1)=(j+1)+r.length by omega,Nat.add_mul,Nat.succ_mul];omega
  unfold fillC
  have hb:(v.cells.size == k && Nat.ble (j * k+k) z.length)=true:=by simp [hv,hle]
  simp only [hb,cond_true]
  have hp:(putR z (j * k) v.cells.toList).length=z.length:=by
   unfold putR
   simp only [List.length_append,List.length_take,List.length_drop,Array.length_toList,hv]
   omega
  rw [fillC_all r (j+1) _ hi (fun p hp=>hk p (by simp [hp])) (by rw [hp,hz];congr 1;omega)]
  congr 1
  rw [List.map_cons,List.flatten_cons,←List.append_assoc]
  congr 1
  unfold putR
  rw [Nat.succ_mul,List.take_append_of_le_length (by simp [hv];omega),List.take_of_length_le (by simp [hv];omega)]
theorem flat_len {k:Nat}:∀ (l:List (Nat×Value)),(∀ p∈l,p.2.cells.size=k)→((l.map fun p=>p.2.cells.toList).flatten).length=l.length * k
 | [],_=>by simp
 | p::r,h=>by
  rw [List.map_cons,List.flatten_cons,List.length_append,flat_len r (fun q hq=>h q (by simp [hq])),Array.length_toList,h p (by simp),List.length_cons,Nat.succ_mul,Nat.add_comm]
theorem run_bslice {P:Program}{w:World}{t e k bytes len:Nat}{z:Array Value}{pm:Array (Nat×Value)}{vs:List (Nat×Value)}(ht:P.underlying t=some (.slice e))(hei:EI P e k bytes z)(hp:pm.toList=vs)
  (hi:vs.map (·.1)=List.range' 0 vs.length) (hk:∀ p∈vs,p.2.cells.size=k) (hlen:vs.length=len) (hbig:len * k≤16777216) :
  (Instr.buildSlice t len pm).run P w=.ok (.slice (some ⟨w.heap.size,0,none⟩) len len) (w.alloc (.cells ((vs.map fun p=>p.2.cells.toList).flatten).toArray e)):=by
 obtain ⟨i,zv,hinfo,rfl,rfl,hz,hzc,hzs⟩:=hei.out
 have hzl:∀ zc:Array Value,((Array.range (len * i.size)).map (zc[· % zc.size]!)).toList.length=(0+vs.length) * i.size:=fun zc=>by simp [hlen]
 have hfl:∀ zc:Array Value,Instr.fill (fun j=>some (j * i.size,i.size)) ((Array.range (len * i.size)).map (zc[· % zc.size]!)) pm.toList=some ((vs.map fun p=>p.2.cells.toList).flatten).toArray:=fun zc=>by
  have h1:=fillC_all vs 0 _ hi hk (hzl zc)
  simp only [Nat.zero_mul,List.take_zero,List.nil_append] at h1
  have h2:=fill_of h1
  rw [Array.toArray_toList] at h2
  rw [hp];exact h2
 have hb':¬(len * i.size>2 ^ 24):=by omega
 have hsz:∀ w,(sizeOf e).run P w=.ok i.size w:=fun w=>by simp [sizeOf,typeInfo,hinfo]
 have hzv:∀ w,(zeroValue e).run P w=.ok zv w:=fun w=>by simp [zeroValue,typeInfo,hinfo,hz]
 unfold Instr.buildSlice
 simp only [Sem.run_bind,run_underlying ht,Result.andThen_ok,hsz]
 rw [if_neg hb']
 by_cases h0:len * i.size=0
 ·rw [if_pos h0]
  simp only [Sem.run_pure,Result.andThen_ok,hfl]
  simp [newRow,go_sem]
 ·rw [if_neg h0]
  simp only [Sem.run_bind,hzv,Sem.run_pure,Result.andThen_ok,hfl]
  simp [newRow,go_sem]
theorem wl_bslice {t e k bytes len:Nat}{z:Array Value}{ps:Array (Nat×Operand)}{vs:List (Nat×Value)}{xs:List Value}{f:Blks→Blks}{s':Value→Slots}
  (hg:gd s ops o=some true) (hd:dOk X.N o.dst=true) (hop:o.op=.buildSlice t len ps) (hx:valsP s ps.toList=some vs) [ht:UT X.P t (.slice e)] [hei:EI X.P e k bytes z] [hf:Snoc l f]
  (h:∀ v' oa',OwnL e k v' len xs oa'→Wl X ops Q r (s' v') (f oa'))
  (hi:vs.map (·.1)=List.range' 0 vs.length:=by rfl) (hk:(vs.all fun p=>p.2.cells.size == k)=true:=by rfl) (hlen:vs.length=len:=by rfl) (hbig:len * k≤16777216∧len≤16777216:=by decide)
  (hxs:(vs.map fun p=>p.2.cells.toList).flatten=xs:=by (try simp only [List.map_cons,List.map_nil,List.flatten_cons,List.flatten_nil,Value.cells,List.cons_append,List.nil_append,List.append_nil]);first|done|rfl)
  (hs':∀ v',sputO s o.dst v'=s' v':=by intro _;(try dsimp only [sputO,sput,Nat.reduceBEq,cond_true,cond_false,beq_self_eq_true]);first|done|exact rfl):Wl X ops Q (o::r) s l:=fun ac w hst=>by
 obtain rfl:(fun v'=>sputO s o.dst v')=s':=funext hs'
 have hw:=gd_wanted hst.env hg
 have hcl:∀ p∈vs,p.2.cells.size=k:=by simpa using hk
 have h2:(ps.map fun (j,x)=>(j,ac.eval x)).toList=vs:=by rw [Array.toList_map];exact hst.env.valsP hx
 have hr:=run_bslice (w:=w) ht.out hei h2 hi hcl hlen hbig.1
 have hxl:=flat_len vs hcl
 rw [hxs] at hr hxl
 rw [hlen] at hxl
 unfold wpList
 rw [if_pos hw]
 refine .inl ?_
 unfold Oper.wp
 have:(execOp ac.eval o).run X.P w=.ok (.value (.slice (some ⟨w.heap.size,0,none⟩) len len)) (w.alloc (.cells xs.toArray e)):=by
  simp only [execOp,hop,Sem.run_bind,hr,Result.andThen_ok,Sem.run_pure]
 rw [this]
 haveI:Seg l [] f:=⟨l,[],by simp,fun o=>by rw [hf.out,List.append_nil]⟩
 refine h _ [(w.heap.size,(xs.toArray,e))] ⟨hxl,.inr ⟨w.heap.size,len,xs.toArray,rfl,Nat.le_refl _,?_,by simpa using hxl,by rw [←hxl];simp,rfl⟩,.inr hei.tb⟩ _ _ ⟨hst.env.put hd _,(upd_new (w:=w) (w1:=w) rfl rfl rfl rfl [] _ e hei.tb).mem hst.mem⟩
 have:=hbig.2
 simp only [maxLen]
 omega
theorem fillC_congr {f g:Nat→Option (Nat×Nat)}:∀ {vs:List (Nat×Value)} {z:List Value},(∀ p∈vs,f p.1=g p.1)→fillC f z vs=fillC g z vs
 | [],_,_=>rfl
 | (i,v)::r,z,h=>by
  have h0:f i=g i:=h (i,v) (by simp)
  unfold fillC
  rw [h0]
  cases g i with
  | none=>rfl
  | some q=>
   obtain ⟨off,size⟩:=q
   dsimp only
   rw [fillC_congr (vs:=r) fun p hp=>h p (by simp [hp])]
theorem one_cells {v:Value}(h:v.oneCell'=true):v.cells=#[v]:=by cases v <;> simp_all [Value.oneCell',Value.cells]
theorem rd_buildO {t:Nat}{ps:Array (Nat×Operand)}{vs:List (Nat×Value)}{pl:List (Nat×Nat)}{z:Array Value}{c:Array Value}(ho:o.op=.build t ps)(hx:valsP s ps.toList=some vs)
  [ht:SP X.P t pl] [hz:ZR X.P t (.agg z)] (hp:pl=(List.range' 0 vs.length).map fun i=>(i,1)) (hzs:z.size=vs.length) (hi:vs.map (·.1)=List.range' 0 vs.length) (h1:∀ p∈vs,p.2.oneCell'=true:=by simp only [List.forall_mem_cons,List.not_mem_nil,false_imp_iff,implies_true,and_true,One.out])
  (hc:(vs.map (·.2)).toArray=c:=by (try simp only [List.map_cons,List.map_nil]);first|done|rfl):RdV X s l o (.agg c):=by
 subst hc
 refine rd_buildS ho hx ?_
 have hfl:∀ us:List (Nat×Value),(∀ q∈us,q.2.oneCell'=true)→(us.map fun p=>p.2.cells.toList).flatten=us.map (·.2):=fun us=>by
  induction us with
  | nil=>simp
  | cons a r ih=>intro h;rw [List.map_cons,List.flatten_cons,one_cells (h a (by simp)),ih fun q hq=>h q (by simp [hq])];rfl
 have h2:=fillC_all (k:=1) vs 0 z.toList hi (fun p hp=>by rw [one_cells (h1 p hp)];rfl) (by rw [Array.length_toList,hzs];omega)
 rw [hfl vs h1] at h2
 simp only [Nat.zero_mul,List.take_zero,List.nil_append] at h2
 rw [←h2]
 refine fillC_congr fun p hp'=>?_
 have:p.1<vs.length:=by
  have:p.1∈List.range' 0 vs.length:=hi ▸ List.mem_map.2 ⟨p,hp',rfl⟩
  simpa using this
 rw [hp]
 simp [this]
theorem wl_bsliceO {t e bytes len:Nat}{z:Array Value}{ps:Array (Nat×Operand)}{vs:List (Nat×Value)}{xs:List Value}{f:Blks→Blks}{s':Value→Slots}
  (hg:gd s ops o=some true) (hd:dOk X.N o.dst=true) (hop:o.op=.buildSlice t len ps) (hx:valsP s ps.toList=some vs) [ht:UT X.P t (.slice e)] [hei:EI X.P e 1 bytes z] [hf:Snoc l f]
  (h:∀ v' oa',OwnL e 1 v' len xs oa'→Wl X ops Q r (s' v') (f oa'))
  (h1:∀ v∈vs.map (·.2),v.oneCell'=true:=by simp only [List.map_cons,List.map_nil,List.forall_mem_cons,List.not_mem_nil,false_imp_iff,implies_true,and_true,One.out])
  (hi:vs.map (·.1)=List.range' 0 vs.length:=by rfl) (hlen:vs.length=len:=by rfl) (hbig:len * 1≤16777216∧len≤16777216:=by decide)
  (hxs:vs.map (·.2)=xs:=by (try simp only [List.map_cons,List.map_nil]);first|done|rfl)
  (hs':∀ v',sputO s o.dst v'=s' v':=by intro _;(try dsimp only [sputO,sput,Nat.reduceBEq,cond_true,cond_false,beq_self_eq_true]);first|done|exact rfl):Wl X ops Q (o::r) s l:=by
 have h1':∀ p∈vs,p.2.oneCell'=true:=fun p hp=>h1 p.2 (List.mem_map.2 ⟨p,hp,rfl⟩)
 have hfl:∀ us:List (Nat×Value),(∀ q∈us,q.2.oneCell'=true)→(us.map fun p=>p.2.cells.toList).flatten=us.map (·.2):=fun us=>by
  induction us with
  | nil=>simp
  | cons a r ih=>intro h;rw [List.map_cons,List.flatten_cons,one_cells (h a (by simp)),ih fun q hq=>h q (by simp [hq])];rfl
 refine wl_bslice (k:=1) hg hd hop hx h hi ?_ hlen hbig (by rw [hfl vs h1',hxs]) hs'
 rw [List.all_eq_true]
 intro q hq
 simp [one_cells (h1' q hq)]
end
end Go.Proofs.YtkendlnjaopbeaaGreatDoor
namespace Go.Proofs.YtkendlnjaopbeaaGreatDoor
open Go.RowKit
set_option linter.unusedVariables false
set_option linter.unusedSimpArgs false
structure BL (n:Nat)(l:List Nat):Prop where
 len:l.length=n
 by':∀ x∈l,x<256
theorem BL.nil:BL 0 []:=⟨rfl,by simp⟩
theorem BL.app {n m:Nat}{p q:List Nat}(h:BL n p)(h':BL m q):BL (n+m) (p++q):=⟨by rw [List.length_append,h.len,h'.len],fun x hx=>(List.mem_append.1 hx).elim (h.by' x) (h'.by' x)⟩
theorem BL.sub {n lo hi:Nat}{p:List Nat}(h:BL n p)(h1:lo≤hi)(h2:hi≤n):BL (hi - lo) ((p.drop lo).take (hi - lo)):=
 ⟨by rw [List.length_take,List.length_drop,h.len];omega,fun x hx=>h.by' x (List.mem_of_mem_drop (List.mem_of_mem_take hx))⟩
theorem BL.rep (n x:Nat)(hx:x<256):BL n (List.replicate n x):=⟨by simp,fun y hy=>by rw [(List.mem_replicate.1 hy).2];exact hx⟩
theorem BL.set {n i x:Nat}{p:List Nat}(h:BL n p)(hx:x<256):BL n (p.set i x):=⟨by rw [List.length_set,h.len],fun y hy=>by
 rcases List.mem_or_eq_of_mem_set hy with h1|h1
 ·exact h.by' y h1
 ·rw [h1];exact hx⟩
structure Cb (w:World)(v:Value)(n:Nat)(p:List Nat):Prop where
 cs:Cs w v n (bl p)
 ok:BL n p
class CsB (Φ:outParam (World→Prop))(v:Value)(n:outParam Nat)(p:outParam (List Nat)):Prop where
 cs:CsF Φ v n (bl p)
 ok:BL n p
instance CsB.csf {Φ:World→Prop}{v:Value}{n:Nat}{p:List Nat}[h:CsB Φ v n p]:CsF Φ v n (bl p):=h.cs
class OwnB (e:semiOutParam Nat)(v:Value)(n:outParam Nat)(p:outParam (List Nat))(oa:outParam Blks):Prop where
 own:OwnL e 1 v n (bl p) oa
 ok:BL n p
instance OwnB.csb {e:Nat}{v:Value}{n:Nat}{p:List Nat}{oa:Blks}[h:OwnB e v n p oa]:CsB (Hd oa) v n p:=⟨h.own.cs,h.ok⟩
instance CsB.nil:CsB (Hd []) (.slice none 0 0) 0 []:=⟨inferInstance,BL.nil⟩
theorem Cb.old {W:World}{v:Value}{n:Nat}{p:List Nat}(h:Cb W v n p):CsB (Old W []) v n p:=⟨h.cs.old,h.ok⟩
theorem Cb.below {w w':World}{v:Value}{n:Nat}{p:List Nat}(h:Cb w v n p)(hb:Below w.heap.size w w'):Cb w' v n p:=⟨h.cs.below hb,h.ok⟩
class VwB (X:Cx)(l:Blks)(v:Value)(n:outParam Nat)(p:outParam (List Nat)):Prop where
 out:∀ w,Mem X l w→Cb w v n p
instance {X:Cx}{l:Blks}{Φ:World→Prop}{v:Value}{n:Nat}{p:List Nat}[h:CsB Φ v n p][h':Hold X l Φ]:VwB X l v n p:=⟨fun w hm=>⟨h.cs.out w (h'.out w hm),h.ok⟩⟩
def byteOf:Value→Nat
 | .int _ z=>z.toNat
 | _=>0
def isByte:Value→Prop
 | .int .u8 z=>0≤z∧z<256
 | _=>False
theorem bytes_of:∀ {vs:List Value},(∀ v∈vs,isByte v)→vs=bl (vs.map byteOf)
 | [],_=>rfl
 | v::r,h=>by
  have hv:=h v (by simp)
  rw [List.map_cons,bl,List.map_cons]
  have ih:=bytes_of (vs:=r) fun u hu=>h u (by simp [hu])
  unfold bl at ih
  rw [←ih]
  congr 1
  unfold isByte at hv
  split at hv
  ·rename_i z
   simp only [byteOf]
   rw [Int.toNat_of_nonneg hv.1]
  ·exact hv.elim
theorem isByte_one {v:Value}(h:isByte v):v.cells.size=1∧v.cells.toList=[v]:=by
 unfold isByte at h
 split at h
 ·simp [Value.cells]
 ·exact h.elim
section
variable {X:Cx}{s:Slots}{l:Blks}{o:Oper}{v:Value}{Q:Post}{ops:Array Oper}{r:List Oper}
theorem wl_subB {t e n n' lo hi:Nat}{x:Operand}{ol oh:Option Operand}{Φ:World→Prop}{p p':List Nat}{s':Value→Slots}(hg:gd s ops o=some true)(hd:dOk X.N o.dst=true)(ho:o.op=.slice t x ol oh none)(hx:val s x=some v)
  [ht:UT X.P t (.slice e)] [hs:SZ X.P e 1] {la ha:Int} [hv:CsB Φ v n p] (hl:loV s ol=some la) (hh:hiV s n oh=some ha) (hnl:la=(lo:Int)) (hnh:ha=(hi:Int))
  (h:∀ v',CsB Φ v' n' p'→Part v v' lo n'→Wl X ops Q r (s' v') l)
  (h1:lo≤hi:=by first|(with_reducible assumption)|omega) (h2:hi≤n:=by first|(with_reducible assumption)|omega)
  (hn:hi - lo=n':=by first|(with_reducible assumption)|rfl) (hxs:(p.drop lo).take (hi - lo)=p':=by first|(with_reducible assumption)|rfl)
  (hs':∀ v',sputO s o.dst v'=s' v':=by intro _;(try dsimp only [sputO,sput,Nat.reduceBEq,cond_true,cond_false,beq_self_eq_true]);first|done|exact rfl):Wl X ops Q (o::r) s l:=by
 haveI:=hv.cs
 subst hn;subst hxs
 refine wl_sub (xs':=bl ((p.drop lo).take (hi - lo))) hg hd ho hx hl hh hnl hnh (fun v' h3 h4=>h v' ⟨h3,hv.ok.sub h1 h2⟩ (by rw [Nat.mul_one] at h4;exact h4)) h1 h2 rfl (by rw [Nat.mul_one,Nat.mul_one,bl_drop,bl_take]) hs'
theorem wl_appendB {x y:Operand}{t e bytes n m:Nat}{z:Array Value}{u:Value}{p q:List Nat}{oa:Blks}{f:Blks→Blks}{s':Value→Slots}
  (hg:gd s ops o=some true) (hd:dOk X.N o.dst=true) (hop:o.op=.call {callee:=.builtin .append,args:=#[x,y],argTypes:=#[t,t]})
  (hx:val s x=some v) (hy:val s y=some u) [ht:UT X.P t (.slice e)] [hei:EI X.P e 1 bytes z] [hown:OwnB e v n p oa] [hseg:Seg l oa f] [hu:VwB X l u m q]
  (h:∀ v' oa',OwnB e v' (n+m) (p++q) oa'→Wl X ops Q r (s' v') (f oa'))
  (h63:(n+m) * bytes≤1152921504606846976∧n+m≤1152921504606846976∧(n+m) * bytes≤140737488355328:=by (refine ⟨?_,?_,?_⟩ <;> omega))
  (hs':∀ v',sputO s o.dst v'=s' v':=by intro _;(try dsimp only [sputO,sput,Nat.reduceBEq,cond_true,cond_false,beq_self_eq_true]);first|done|exact rfl):Wl X ops Q (o::r) s l:=fun ac w hst=>by
 haveI:=hown.own
 have hq:=(hu.out w hst.mem).ok
 haveI:Vw X l u m (bl q):=⟨fun w hm=>(hu.out w hm).cs⟩
 exact wl_appendO (ys:=bl q) hg hd hop hx hy (fun v' oa' ho=>h v' oa' ⟨ho,hown.ok.app hq⟩) (by rw [bl_len,hq.len,Nat.mul_one]) (bl_one _) h63 (bl_app _ _).symm hs' ac w hst
theorem wl_bsliceB {t e bytes len:Nat}{z:Array Value}{ps:Array (Nat×Operand)}{vs:List (Nat×Value)}{p:List Nat}{f:Blks→Blks}{s':Value→Slots}
  (hg:gd s ops o=some true) (hd:dOk X.N o.dst=true) (hop:o.op=.buildSlice t len ps) (hx:valsP s ps.toList=some vs) [ht:UT X.P t (.slice e)] [hei:EI X.P e 1 bytes z] [hf:Snoc l f]
  (h:∀ v' oa',OwnB e v' len p oa'→Wl X ops Q r (s' v') (f oa'))
  (hb:∀ v∈vs.map (·.2),isByte v:=by (simp only [List.map_cons,List.map_nil,List.forall_mem_cons,List.not_mem_nil,false_imp_iff,implies_true,and_true,isByte];(repeat' apply And.intro) <;> first|decide|omega))
  (hi:vs.map (·.1)=List.range' 0 vs.length:=by rfl) (hlen:vs.length=len:=by rfl) (hbig:len * 1≤16777216∧len≤16777216:=by decide)
  (hxs:(vs.map fun p=>byteOf p.2)=p:=by (try simp only [List.map_cons,List.map_nil,byteOf,Int.toNat_natCast,Int.reduceToNat]);first|done|rfl)
  (hs':∀ v',sputO s o.dst v'=s' v':=by intro _;(try dsimp only [sputO,sput,Nat.reduceBEq,cond_true,cond_false,beq_self_eq_true]);first|done|exact rfl):Wl X ops Q (o::r) s l:=by
 have hmem:∀ q∈vs,isByte q.2:=fun q hq=>hb q.2 (List.mem_map.2 ⟨q,hq,rfl⟩)
 have hfl:∀ us:List (Nat×Value),(∀ q∈us,isByte q.2)→(us.map fun p=>p.2.cells.toList).flatten=us.map (·.2):=fun us=>by
  induction us with
  | nil=>simp
  | cons a r ih=>intro h;rw [List.map_cons,List.flatten_cons,(isByte_one (h a (by simp))).2,ih fun q hq=>h q (by simp [hq])];rfl
 have hxs':(vs.map fun p=>p.2.cells.toList).flatten=bl p:=by
  rw [hfl vs hmem,bytes_of hb,List.map_map]
  exact congrArg bl hxs
 refine wl_bslice (k:=1) hg hd hop hx (fun v' oa' ho=>h v' oa' ⟨ho,?_⟩) hi ?_ hlen hbig hxs' hs'
 ·subst hxs
  refine ⟨by rw [List.length_map,hlen],fun x hx=>?_⟩
  obtain ⟨q,hq,rfl⟩:=List.mem_map.1 hx
  have:=hmem q hq
  unfold isByte at this
  split at this
  ·rename_i z hz
   rw [hz];simp only [byteOf];omega
  ·exact this.elim
 ·rw [List.all_eq_true]
  intro q hq
  simp [(isByte_one (hmem q hq)).1]
end
end Go.Proofs.YtkendlnjaopbeaaGreatDoor
