/- How the worlds hang together from call to call: blocks known whole. A region that draws its order of evaluation,with reads,calls that only add to memory,new variables and stores: one walk,in the order of the text,serves every order. The walk over lists: what is known of slots and of blocks,with no world in sight. The core. -/
import Derived.WalkKit
import Derived.Handy
import Derived.ProofKit
import Derived.ChangeKeysEq
import Derived.Deep.QuietTactic
import Derived.BigQuiet
import Derived.Lib.Hide
import Derived.Laws.Tables
import Derived.Still
import Derived.Deep.MidRow
namespace Go.Proofs.YtkendlnjaopbeaaGreatDoor
open Go.RowKit
def Ret (v:Value)(w:World)(e:Ending)(w':World):Prop:=e=.returned v∧Below w.heap.size w w'
theorem blk_lt {w:World}{n:Nat}{o:Obj}(h:w.heap[n]? = some o):n<w.heap.size:=by
 by_cases hlt:n<w.heap.size
 ·exact hlt
 ·have hn:w.heap[n]? = none:=by simp;omega
  simp [hn] at h
theorem ho {w:World}{n:Nat}{o o':Obj}(h:w.heap[n]? = some o):(w.alloc o').heap[n]? = some o:=
 by rw [World.alloc];show (w.heap.push o')[n]? = _;rw [Array.getElem?_push,if_neg (Nat.ne_of_lt (blk_lt h))];exact h
theorem hdr {w:World}{n:Nat}{o:Obj}(h:w.heap[n]? = some o):w.drew.heap[n]? = some o:=h
theorem nw {w:World}{o:Obj}:(w.alloc o).heap[w.heap.size]? = some o:=by show (w.heap.push o)[w.heap.size]? = some o;simp
theorem nw1 {w:World}{o1 o:Obj}:((w.alloc o1).alloc o).heap[w.heap.size+1]? = some o:=by
 have h:=nw (w:=w.alloc o1) (o:=o)
 rwa [World.size_alloc] at h
theorem nw2 {w:World}{o1 o2 o:Obj}:(((w.alloc o1).alloc o2).alloc o).heap[w.heap.size+1+1]? = some o:=by
 have h:=nw (w:=(w.alloc o1).alloc o2) (o:=o)
 rwa [World.size_alloc,World.size_alloc] at h
theorem nw3 {w:World}{o1 o2 o3 o:Obj}:((((w.alloc o1).alloc o2).alloc o3).alloc o).heap[w.heap.size+1+1+1]? = some o:=by
 have h:=nw (w:=((w.alloc o1).alloc o2).alloc o3) (o:=o)
 rwa [World.size_alloc,World.size_alloc,World.size_alloc] at h
theorem nw4 {w:World}{o1 o2 o3 o4 o:Obj}:(((((w.alloc o1).alloc o2).alloc o3).alloc o4).alloc o).heap[w.heap.size+1+1+1+1]? = some o:=by
 have h:=nw (w:=(((w.alloc o1).alloc o2).alloc o3).alloc o4) (o:=o)
 rwa [World.size_alloc,World.size_alloc,World.size_alloc,World.size_alloc] at h
theorem nw5 {w:World}{o1 o2 o3 o4 o5 o:Obj}:((((((w.alloc o1).alloc o2).alloc o3).alloc o4).alloc o5).alloc o).heap[w.heap.size+1+1+1+1+1]? = some o:=by
 have h:=nw (w:=((((w.alloc o1).alloc o2).alloc o3).alloc o4).alloc o5) (o:=o)
 rwa [World.size_alloc,World.size_alloc,World.size_alloc,World.size_alloc,World.size_alloc] at h
theorem rules {w:World}{n:Nat}{cs:Array Value}{t:TypeId}(h:w.heap[n]? = some (.cells cs t)) :
  (∀ i,w.cell? ⟨n,i,none⟩=cs[i]?)∧(∀ i,w.frozen? ⟨n,i,none⟩=false)∧n<w.heap.size:=
 ⟨fun i=>cell_of_row w n i cs t _ h,fun i=>frozen_of_row w n i cs t h,blk_lt h⟩
structure Grow (w:World) where
 to:World
 below:Below w.heap.size w to
theorem Grow.size {w:World}(x:Grow w):w.heap.size≤x.to.heap.size:=x.below.size
class LeSize (b:Nat)(w:World):Prop where
 out:b≤w.heap.size
class LtSize (b:Nat)(w:World):Prop where
 out:b<w.heap.size
instance LeSize.self (w:World):LeSize w.heap.size w:=⟨Nat.le_refl _⟩
instance LeSize.alloc (b:Nat)(w:World)(o:Obj)[h:LeSize b w]:LeSize b (w.alloc o):=⟨by have:=h.out;simp;omega⟩
instance LeSize.alloc1 (b:Nat)(w:World)(o:Obj)[h:LeSize b w]:LeSize (b+1) (w.alloc o):=⟨by have:=h.out;simp;omega⟩
instance LtSize.alloc (b:Nat)(w:World)(o:Obj)[h:LeSize b w]:LtSize b (w.alloc o):=⟨by have:=h.out;simp;omega⟩
instance LtSize.set (b:Nat)(w:World)(a:Addr)(v:Value)[h:LtSize b w]:LtSize b (w.setCell a v):=⟨by have:=h.out;simpa using this⟩
instance LtSize.grow (b:Nat)(w:World)(x:Grow w)[h:LtSize b w]:LtSize b x.to:=⟨Nat.lt_of_lt_of_le h.out x.size⟩
theorem le_size {b:Nat}{w:World}[h:LeSize b w]:b≤w.heap.size:=h.out
theorem le_size1 {b:Nat}{w:World}[h:LeSize b w]:b≤w.heap.size+1:=Nat.le_trans h.out (by omega)
theorem le_size2 {b:Nat}{w:World}[h:LeSize b w]:b≤w.heap.size+1+1:=Nat.le_trans h.out (by omega)
theorem le_size3 {b:Nat}{w:World}[h:LeSize b w]:b≤w.heap.size+1+1+1:=Nat.le_trans h.out (by omega)
@[go_sem] theorem Grow.cell {w:World}(x:Grow w)(b o:Nat)[h:LtSize b w]:x.to.cell? ⟨b,o,none⟩=w.cell? ⟨b,o,none⟩:=x.below.cell (p:=⟨b,o,none⟩) h.out
@[go_sem] theorem Grow.frozen {w:World}(x:Grow w)(b o:Nat)[h:LtSize b w]:x.to.frozen? ⟨b,o,none⟩=w.frozen? ⟨b,o,none⟩:=x.below.frozen (p:=⟨b,o,none⟩) h.out
@[go_sem] theorem ne_up2 (n:Nat):(n=n+1+1)=False:=eq_false (by omega)
@[go_sem] theorem up2_ne (n:Nat):(n+1+1=n)=False:=eq_false (by omega)
@[go_sem] theorem ne_up3 (n:Nat):(n=n+1+1+1)=False:=eq_false (by omega)
@[go_sem] theorem up4_ne (n:Nat):(n+1+1+1+1=n)=False:=eq_false (by omega)
@[go_sem] theorem up8_ne (n:Nat):(n+1+1+1+1+1+1+1+1=n)=False:=eq_false (by omega)
theorem Grow.heap {w:World}(x:Grow w){n:Nat}{o:Obj}(h:w.heap[n]? = some o):x.to.heap[n]? = some o:=(x.below.block _ (blk_lt h)).trans h
theorem grow {P:Program}{f:FuncId}{args:Array Value}{W:World}{v:Value}(h:Calls P f args W (Ret v W)):Calls P f args W fun e w'=>∃ x:Grow W,e=.returned v∧w'=x.to:=
 h.mono fun _ w' ⟨he,hb⟩=>⟨⟨w',hb⟩,he,rfl⟩
theorem up {a w:World}(h:Below a.heap.size a w)(x:Grow w):Below a.heap.size a x.to:=h.trans (x.below.mono h.size)
theorem up_alloc {a w:World}(h:Below a.heap.size a w)(o:Obj):Below a.heap.size a (w.alloc o):=h.alloc h.size o
theorem up_drew {a w:World}(h:Below a.heap.size a w):Below a.heap.size a w.drew:=h.drew
theorem up_set {a w:World}(h:Below a.heap.size a w){p:Addr}(hp:a.heap.size≤p.block)(v:Value):Below a.heap.size a (w.setCell p v):=h.setCell hp v
theorem eqItems_ints {P:Program}(w:World)(d:Nat){e:TypeId}{k k':IntKind}(he:P.plainKey e=true)(hk:P.underlying e=some (.int k'))(zs us:List Int) :
  ∀ (n m:Nat),zs.length=m+n→us.length=m+n→
  (Op.eqItems (d+1) e 1 (zs.map (Value.int k)).toArray (us.map (Value.int k)).toArray (List.range' m n)).run P w=.ok (zs.drop m == us.drop m) w
 | 0,m,hz,hu=>by
  rw [List.drop_of_length_le (by omega),List.drop_of_length_le (by omega)]
  simp [Op.eqItems]
 | n+1,m,hz,hu=>by
  have ih:=eqItems_ints w d (k:=k) he hk zs us n (m+1) (by omega) (by omega)
  have lz:m<zs.length:=by omega
  have lu:m<us.length:=by omega
  have p1:=run_part_plain (P:=P) w he (xs:=(zs.map (Value.int k)).toArray) (off:=m) (v:=.int k zs[m]) (by simp [lz])
  have p2:=run_part_plain (P:=P) w he (xs:=(us.map (Value.int k)).toArray) (off:=m) (v:=.int k us[m]) (by simp [lu])
  rw [List.range'_succ]
  simp only [Op.eqItems,Sem.run_bind,Nat.mul_one,p1,p2,Result.andThen_ok,run_equalIn_int w d e k k' _ _ hk]
  rw [List.drop_eq_getElem_cons lz,List.drop_eq_getElem_cons lu]
  by_cases h:zs[m]=us[m]
  ·simp only [h,beq_self_eq_true,Bool.not_true,Bool.false_eq_true,if_false,ih,List.cons_beq_cons,Bool.true_and]
  ·have hb:(zs[m] == us[m])=false:=by simpa using h
   simp only [hb,Bool.not_false,if_true,Sem.run_pure,List.cons_beq_cons,Bool.false_and]
theorem eql_ints {P:Program}(w:World)(d:Nat){t e:TypeId}{k k':IntKind}(n:Nat)(zs us:List Int)(ht:P.underlying t=some (.array n e))(h1:P.cellsOf e=1)(hi:(P.info? e).isSome=true)
  (he:P.plainKey e=true) (hk:P.underlying e=some (.int k')) (hz:zs.length=n) (hu:us.length=n) :
  (Op.equalIn (d+2) t (.agg (zs.map (Value.int k)).toArray) (.agg (us.map (Value.int k)).toArray)).run P w=.ok (zs == us) w:=by
 obtain ⟨i,hi⟩:=Option.isSome_iff_exists.1 hi
 rw [run_equalIn_array w (d+1) _ _ ht hi,h1,List.range_eq_range']
 exact eqItems_ints w d he hk zs us n 0 (by omega) (by omega)
end Go.Proofs.YtkendlnjaopbeaaGreatDoor
namespace Go.Proofs.YtkendlnjaopbeaaGreatDoor
open Go.RowKit
structure Mu where
 f:Nat→Option (Array Value×TypeId)
 b:Nat
 fin:∀ k,b≤k→f k=none
def Mu.empty:Mu:=⟨fun _=>none,0,fun _ _=>rfl⟩
def Mu.put (μ:Mu)(n:Nat)(x:Array Value×TypeId):Mu:=
 ⟨fun k=>if k=n then some x else μ.f k,max μ.b (n+1),fun k hk=>by
  rw [if_neg (by omega)];exact μ.fin k (by omega)⟩
theorem Mu.put_f (μ:Mu)(n:Nat)(x:Array Value×TypeId)(k:Nat):(μ.put n x).f k=if k=n then some x else μ.f k:=rfl
theorem Mu.ext' {μ ν:Mu}(h:μ.f=ν.f)(h':μ.b=ν.b):μ=ν:=by
 cases μ;cases ν;cases h;cases h';rfl
theorem Mu.put_comm (μ:Mu){n m:Nat}(h:n≠m)(x y:Array Value×TypeId):(μ.put n x).put m y=(μ.put m y).put n x:=by
 apply Mu.ext'
 ·funext k
  simp only [Mu.put_f]
  by_cases h1:k=n
  ·subst h1;simp [h]
  ·simp [h1]
 ·simp only [Mu.put];omega
theorem Mu.fresh (μ:Mu)(lo n:Nat):∃ m,lo≤m∧μ.f m=none∧m≠n:=⟨max lo (max μ.b (n+1)),by omega,μ.fin _ (by omega),by omega⟩
structure Cls (W:World)(μ:Mu)(w:World):Prop where
 os:w.os=W.os
 tape:w.tape=W.tape
 output:w.output=W.output
 size:W.heap.size≤w.heap.size
 old:∀ k,k<W.heap.size→μ.f k=none→w.heap[k]? = W.heap[k]?
 now:∀ k c t,μ.f k=some (c,t)→w.heap[k]? = some (.cells c t)
def cur (W:World)(μ:Mu)(n:Nat):Option (Array Value×TypeId):=
 match μ.f n with
 | some x=>some x
 | none=>match W.heap[n]? with
  | some (.cells c t (0,0))=>some (c,t)
  | _=>none
theorem cur_put (W:World)(μ:Mu)(n m:Nat)(x:Array Value×TypeId)(h:m≠n):cur W (μ.put n x) m=cur W μ m:=by
 unfold cur;rw [Mu.put_f,if_neg h]
theorem cur_now {W w:World}{μ:Mu}{n:Nat}{c:Array Value}{t:TypeId}(h:cur W μ n=some (c,t))(hc:Cls W μ w):w.heap[n]? = some (.cells c t):=by
 unfold cur at h
 cases hm:μ.f n with
 | some x=>rw [hm] at h;cases h;exact hc.now n c t hm
 | none=>
  rw [hm] at h
  cases hw:W.heap[n]? with
  | none=>rw [hw] at h;cases h
  | some o=>
   have hlt:=blk_lt hw
   rw [hc.old n hlt hm,hw]
   rw [hw] at h
   cases o with
   | cells c' t' fr=>
    obtain ⟨f1,f2⟩:=fr
    dsimp only at h
    split at h
    ·rename_i heq;cases h;cases heq;rfl
    ·cases h
   | _=>simp at h
def splice (c:Array Value)(off:Nat):Value→Array Value
 | .agg cs=>cs
 | v=>c.setIfInBounds off v
def StoreOk (P:Program)(ty:TypeId)(off:Nat)(c:Array Value)(v:Value):Prop:=
 (∃ cs,v=.agg cs∧off=0∧(P.info? ty).map (·.size)=some cs.size∧c.size=cs.size∧cs.all (·.oneCell')=true)∨
 (v.oneCell'=true∧(P.info? ty).map (·.size)=some 1∧off<c.size)
theorem store_run {P:Program}{ty:TypeId}{off n:Nat}{c:Array Value}{v:Value}{t:TypeId}{w:World}(h:StoreOk P ty off c v)(hg:w.heap[n]? = some (.cells c t)) :
  (storeVar ty ⟨n,off,none⟩ v).run P w=.ok () (w.setRow n (splice c off v)):=by
 rcases h with ⟨cs,rfl,rfl,hi,hs,h1⟩ | ⟨h1,hi,ho⟩
 ·exact run_storeVar_row w n t ty c cs hg hi hs h1
 ·have hc:v.cells=#[v]:=by cases v <;> simp_all [Value.oneCell',Value.cells]
  have hsp:splice c off v=c.setIfInBounds off v:=by cases v <;> simp_all [Value.oneCell',splice]
  cases hq:P.info? ty with
  | none=>simp [hq] at hi
  | some i=>
   have hs:i.size=1:=by simpa [hq] using hi
   have hcell:w.cell? ⟨n,off,none⟩=some c[off]:=by rw [cell_of_row w n off c t _ hg];simp [ho]
   have hfr:w.frozen? ⟨n,off,none⟩=false:=frozen_of_row w n off c t hg
   have hst:=run_store P w ⟨n,off,none⟩ v .plain h1
   rw [hcell] at hst
   simp only [hfr,Bool.false_eq_true,if_false] at hst
   rw [hsp,←setCell_eq_setRow w n off c t _ v hg]
   simp [storeVar,sizeOf,typeInfo,hq,hc,hs,storeCells,Addr.add,hst]
inductive OpKind where
 | alloc|store|plain|mild
 deriving DecidableEq
def opKind (sg:Oper→Bool)(o:Oper):OpKind:=
 match o.op with
 | .alloc _=>.alloc
 | .store _ _ _=>.store
 | .move _ | .assign _ | .extract _ _=>.plain
 | _=>bif sg o then .plain else .mild
def fresh (ops:Array Oper)(o:Oper):Bool:=
 match o.op with
 | .store _ (.tmp t) _=>ops.any fun q=>q.dst == some t && (match q.op with | .alloc _=>true|_=>false)
 | _=>false
def zeroCells (P:Program)(t:TypeId):Option (Array Value):=((P.info? t).bind (·.zero)).map (·.cells)
def plainVal (a:Act):Op→Option Value
 | .move x=>some (a.eval x)
 | .assign x=>some (a.eval x)
 | .extract x k=>match a.eval x with
  | .tuple vs=>vs[k]?
  | _=>none
 | _=>none
def mildUpon (P:Program)(w:World)(v:Value):Result Next→Prop
 | .ok (.value u) w'=>w'=w∧u=v
 | .ok (.enter f args) w'=>w'=w∧Calls P f args w (Ret v w)
 | _=>False
def Mild (P:Program)(W:World)(o:Oper)(a:Act)(v:Value):Prop:=∀ x:Grow W,mildUpon P x.to v ((execOp a.eval o).run P x.to)
structure Rch (W:World)(Wr:Nat→Prop)(x:World):Prop where
 os:x.os=W.os
 tape:x.tape=W.tape
 output:x.output=W.output
 size:W.heap.size≤x.heap.size
 old:∀ k,k<W.heap.size→¬Wr k→x.heap[k]? = W.heap[k]?
def PV (P:Program)(W:World)(Wr:Nat→Prop)(a:Act)(o:Oper)(v:Value):Prop:=∀ x,Rch W Wr x→(execOp a.eval o).run P x=.ok (.value v) x
theorem PV.unique {P:Program}{W:World}{Wr:Nat→Prop}{a:Act}{o:Oper}{v u:Value}(h:PV P W Wr a o v)(h':PV P W Wr a o u):v=u:=by
 have r:Rch W Wr W:=⟨rfl,rfl,rfl,Nat.le_refl _,fun _ _ _=>rfl⟩
 have:=(h W r).symm.trans (h' W r)
 simpa using this
theorem PV.of_plain {P:Program}{W:World}{Wr:Nat→Prop}{a:Act}{o:Oper}{v:Value}(h1:plainVal a o.op=some v):PV P W Wr a o v:=fun w _=>by
 unfold plainVal at h1
 split at h1
 ·rename_i he;cases h1;simp [execOp,he]
 ·rename_i he;cases h1;simp [execOp,he]
 ·rename_i x k he
  split at h1
  ·rename_i vs hv;simp [execOp,he,Instr.extract,hv,h1]
  ·cases h1
 ·cases h1
structure Wrt where
 r:Oper→Nat→Prop
 s:Oper→Nat→Prop
def mAct (P:Program)(W:World)(sg:Oper→Bool)(Wr:Wrt)(ops:Array Oper)(o:Oper)(K:Act→Mu→Prop)(a:Act)(μ:Mu):Prop:=
 match opKind sg o with
 | .alloc=>∃ t zs,o.op=.alloc t∧zeroCells P t=some zs∧∀ n,W.heap.size≤n→μ.f n=none→K (a.put o.dst (.pointer (some ⟨n,0,none⟩))) (μ.put n (zs,t))
 | .store=>∃ ty p x n off c t,o.op=.store ty p x∧a.eval p=.pointer (some ⟨n,off,none⟩)∧cur W μ n=some (c,t)∧(StoreOk P ty off c (a.eval x)∧(fresh ops o=true→W.heap.size≤n)∧(n<W.heap.size→Wr.s o n))∧
   K (a.put o.dst undef) (μ.put n (splice c off (a.eval x),t))
 | .plain=>∃ v,PV P W (Wr.r o) a o v∧K (a.put o.dst v) μ
 | .mild=>(∀ k,k<W.heap.size→μ.f k=none)∧∃ v,Mild P W o a v∧K (a.put o.dst v) μ
section
variable {P:Program}{ops:Array Oper}{md:Region.Mode}{W:World}{sg:Oper→Bool}{Wr:Wrt}
def mOp (P:Program)(W:World)(sg:Oper→Bool)(Wr:Wrt)(ops:Array Oper)(i:Nat)(K:Act→Mu→Prop)(a:Act)(μ:Mu):Prop:=
 match ops[i]? with
 | none=>K a μ
 | some o=>if Region.wanted o (yielded ops a.tmps) then mAct P W sg Wr ops o K a μ else K (a.put o.dst undef) μ
theorem mAct_mono {o:Oper}{a:Act}{μ:Mu}{K K':Act→Mu→Prop}(h:∀ a μ,K a μ→K' a μ)(hh:mAct P W sg Wr ops o K a μ):mAct P W sg Wr ops o K' a μ:=by
 unfold mAct at *
 cases hk:opKind sg o <;> simp only [hk] at hh ⊢
 ·obtain ⟨t,zs,h1,h2,h3⟩:=hh;exact ⟨t,zs,h1,h2,fun n hn hm=>h _ _ (h3 n hn hm)⟩
 ·obtain ⟨ty,p,x,n,off,c,t,h1,h2,h3,h4,h5⟩:=hh;exact ⟨ty,p,x,n,off,c,t,h1,h2,h3,h4,h _ _ h5⟩
 ·obtain ⟨v,h1,h2⟩:=hh;exact ⟨v,h1,h _ _ h2⟩
 ·obtain ⟨h0,v,h1,h2⟩:=hh;exact ⟨h0,v,h1,h _ _ h2⟩
theorem mOp_mono {i:Nat}{a:Act}{μ:Mu}{K K':Act→Mu→Prop}(h:∀ a μ,K a μ→K' a μ)(hh:mOp P W sg Wr ops i K a μ):mOp P W sg Wr ops i K' a μ:=by
 unfold mOp at *
 split
 ·exact h _ _ (by simpa [*] using hh)
 ·rename_i o ho
  simp only [ho] at hh
  split
  ·rename_i hw;simp only [hw,if_true] at hh;exact mAct_mono h hh
  ·rename_i hw;simp only [hw] at hh;exact h _ _ hh
def wpAnyM (P:Program)(W:World)(sg:Oper→Bool)(Wr:Wrt)(md:Region.Mode)(ops:Array Oper)(Q:Act→Mu→Prop):Nat→Array Bool→Act→Mu→Prop
 | 0,listed,a,μ=>Region.ready md ops listed=[]∧Q a μ
 | fuel+1,listed,a,μ=>
  (Region.ready md ops listed=[]→Q a μ)∧
  ∀ i∈Region.ready md ops listed,mOp P W sg Wr ops i (wpAnyM P W sg Wr md ops Q fuel (listed.setIfInBounds i true)) a μ
theorem cls_put {w:World}{μ:Mu}{n:Nat}{c c':Array Value}{t:TypeId}(hc:Cls W μ w)(h:w.heap[n]? = some (.cells c t)):Cls W (μ.put n (c',t)) (w.setRow n c'):=by
 refine ⟨hc.os,hc.tape,hc.output,by simpa using hc.size,fun k hk hm=>?_,fun k d u hm=>?_⟩
 ·rw [Mu.put_f] at hm
  split at hm
  ·cases hm
  ·rename_i hne
   rw [setRow_other w n k c' hne];exact hc.old k hk hm
 ·rw [Mu.put_f] at hm
  split at hm
  ·rename_i he;cases hm;subst he;exact setRow_heap w _ c c' t _ h
  ·rename_i hne
   rw [setRow_other w n k c' hne];exact hc.now k d u hm
theorem cls_alloc {w:World}{μ:Mu}{zs:Array Value}{t:TypeId}(hc:Cls W μ w):W.heap.size≤w.heap.size∧μ.f w.heap.size=none∧Cls W (μ.put w.heap.size (zs,t)) (w.alloc (.cells zs t)):=by
 have hn:μ.f w.heap.size=none:=by
  cases hm:μ.f w.heap.size with
  | none=>rfl
  | some x=>exact absurd (blk_lt (hc.now _ x.1 x.2 hm)) (Nat.lt_irrefl _)
 refine ⟨hc.size,hn,hc.os,hc.tape,hc.output,by simp;have:=hc.size;omega,fun k hk hm=>?_,fun k d u hm=>?_⟩
 ·rw [Mu.put_f] at hm
  split at hm
  ·cases hm
  ·have hlt:k<w.heap.size:=Nat.lt_of_lt_of_le hk hc.size
   rw [←hc.old k hk hm]
   show (w.heap.push _)[k]? = _
   rw [Array.getElem?_push,if_neg (Nat.ne_of_lt hlt)]
 ·rw [Mu.put_f] at hm
  split at hm
  ·rename_i he;cases hm;subst he;exact nw
  ·exact ho (hc.now k d u hm)
theorem cls_grow {w w':World}{μ:Mu}(hc:Cls W μ w)(h:Below w.heap.size w w'):Cls W μ w':=
 ⟨h.os.trans hc.os,h.tape.trans hc.tape,h.output.trans hc.output,Nat.le_trans hc.size h.size,
  fun k hk hm=>(h.block k (Nat.lt_of_lt_of_le hk hc.size)).trans (hc.old k hk hm),
  fun k c t hm=>(h.block k (blk_lt (hc.now k c t hm))).trans (hc.now k c t hm)⟩
theorem run_alloc {o:Oper}{a:Act}{t:TypeId}{zs:Array Value}{w:World}(ho:o.op=.alloc t)(hz:zeroCells P t=some zs) :
  (execOp a.eval o).run P w=.ok (.value (.pointer (some ⟨w.heap.size,0,none⟩))) (w.alloc (.cells zs t)):=by
 unfold zeroCells at hz
 cases hi:P.info? t with
 | none=>simp [hi] at hz
 | some i=>
  cases hz0:i.zero with
  | none=>simp [hi,hz0] at hz
  | some z=>
   have:z.cells=zs:=by simpa [hi,hz0] using hz
   subst this
   simp [execOp,ho,Instr.alloc,zeroValue,typeInfo,hi,hz0,newVar,newRow,Sem.run_bind,go_sem]
theorem mAct_sound {o:Oper}{a:Act}{μ:Mu}{w:World}{K:Act→Mu→Prop}{K':Act→World→Prop}{Q':Exit→Act→World→Prop}(hc:Cls W μ w)(hi:opKind sg o=.plain→∀ k,k<W.heap.size→¬Wr.r o k→μ.f k=none)
  (hK:∀ a' μ' w',Cls W μ' w'→(∀ k,k<W.heap.size→μ.f k=none→¬(opKind sg o=.store∧Wr.s o k)→μ'.f k=none)→K a' μ'→K' a' w') (hh:mAct P W sg Wr ops o K a μ):o.wp P a w K' Q':=by
 unfold mAct at hh
 cases hko:opKind sg o <;> simp only [hko] at hh
 ·obtain ⟨t,zs,h1,h2,h3⟩:=hh
  unfold Oper.wp
  rw [run_alloc h1 h2]
  obtain ⟨c1,c2,c3⟩:=cls_alloc (zs:=zs) (t:=t) hc
  exact hK _ _ _ c3 (fun k hk hm _=>by rw [Mu.put_f,if_neg (by omega)];exact hm) (h3 _ c1 c2)
 ·obtain ⟨ty,p,x,n,off,c,t,h1,h2,h3,h4,h5⟩:=hh
  have hg:=cur_now h3 hc
  have hr:=store_run h4.1 hg
  unfold Oper.wp
  have:(execOp a.eval o).run P w=.ok .skip (w.setRow n (splice c off (a.eval x))):=by
   simp only [execOp,h1,h2,Instr.storeAt,Instr.sureAddr,Sem.run_bind,Sem.run_pure,Result.andThen_ok,hr]
  rw [this]
  exact hK _ _ _ (cls_put hc hg) (fun k hk hm hn=>by rw [Mu.put_f,if_neg (fun e=>by subst e;exact hn ⟨hko,h4.2.2 hk⟩)];exact hm) h5
 ·obtain ⟨v,h1,h2⟩:=hh
  unfold Oper.wp
  have:(execOp a.eval o).run P w=.ok (.value v) w:=h1 w ⟨hc.os,hc.tape,hc.output,hc.size,fun k hk hw=>hc.old k hk (hi hko k hk hw)⟩
  rw [this]
  exact hK _ _ _ hc (fun _ _ hm _=>hm) h2
 ·obtain ⟨h0,v,h1,h2⟩:=hh
  have hb:Below W.heap.size W w:=⟨hc.os,hc.tape,hc.output,hc.size,fun k hk=>hc.old k hk (h0 k hk)⟩
  have h3:=h1 ⟨w,hb⟩
  unfold Oper.wp
  dsimp only at h3
  generalize (execOp a.eval o).run P w=r at *
  cases r with
  | ok n w'=>
   cases n <;> simp only [mildUpon] at h3
   case value u=>
    obtain ⟨rfl,rfl⟩:=h3
    exact hK _ _ _ hc (fun _ _ hm _=>hm) h2
   case enter f args=>
    obtain ⟨rfl,hcall⟩:=h3
    exact hcall.mono fun e w'' ⟨he,hbel⟩=>by
     subst he
     exact hK _ _ _ (cls_grow hc hbel) (fun _ _ hm _=>hm) h2
  | halt x w'=>simp only [mildUpon] at h3
theorem mOp_sound {i:Nat}{a:Act}{μ:Mu}{w:World}{K:Act→Mu→Prop}{K':Act→World→Prop}{Q':Exit→Act→World→Prop}(hc:Cls W μ w)(hi:∀ o,ops[i]? = some o→opKind sg o=.plain→∀ k,k<W.heap.size→¬Wr.r o k→μ.f k=none)
  (hK:∀ a' μ' w',Cls W μ' w'→(∀ k,k<W.heap.size→μ.f k=none→(∀ o,ops[i]? = some o→¬(opKind sg o=.store∧Wr.s o k))→μ'.f k=none)→K a' μ'→K' a' w') (hh:mOp P W sg Wr ops i K a μ):wpOp P ops Q' i K' a w:=by
 unfold mOp at hh
 unfold wpOp
 split
 ·rename_i ho;simp only [ho] at hh;exact hK _ _ _ hc (fun _ _ hm _=>hm) hh
 ·rename_i o ho
  simp only [ho] at hh
  split
  ·rename_i hw;simp only [hw,if_true] at hh;exact .inl (mAct_sound hc (hi o ho) (fun a' μ' w' hc' hv'=>hK a' μ' w' hc' (fun k hk hm hn=>hv' k hk hm (hn o ho))) hh)
  ·rename_i hw;simp only [hw] at hh;exact hK _ _ _ hc (fun _ _ hm _=>hm) hh
def WrOk (sg:Oper→Bool)(Wr:Wrt)(md:Region.Mode)(ops:Array Oper):Prop:=
 ∀ (i j:Nat) (oi oj:Oper),ops[i]? = some oi→ops[j]? = some oj→opKind sg oi=.plain→opKind sg oj=.store→(∀ e∈oj.after,Region.binds md e=true→e.on≠i)→∀ n,Wr.s oj n→Wr.r oi n
theorem getD_flip {listed:Array Bool}{i:Nat}(h:listed.getD i true=false):i<listed.size∧listed.getD i false=false:=by
 rcases Nat.lt_or_ge i listed.size with h'|h'
 ·simp [h'] at h ⊢;exact h
 ·simp [Array.getD,Nat.not_lt.2 h'] at h
theorem getD_up {listed:Array Bool}{i j:Nat}(h:listed.getD j false=true):(listed.setIfInBounds i true).getD j false=true:=by
 by_cases hij:i=j
 ·subst hij
  rcases Nat.lt_or_ge i listed.size with h'|h'
  ·simp [h']
  ·simp [Array.getD,Nat.not_lt.2 h'] at h
 ·rw [getD_set_ne false hij];exact h
theorem getD_on {listed:Array Bool}{i:Nat}(h:i<listed.size):(listed.setIfInBounds i true).getD i false=true:=by simp [h]
def Clo (md:Region.Mode)(ops:Array Oper)(listed:Array Bool):Prop:=
 ∀ (j:Nat) (o:Oper),ops[j]? = some o→listed.getD j false=true→∀ e∈o.after,Region.binds md e=true→listed.getD e.on false=true
theorem Clo.set {listed:Array Bool}{i:Nat}(h:Clo md ops listed)(hi:i∈Region.ready md ops listed):Clo md ops (listed.setIfInBounds i true):=by
 obtain ⟨hun,oi,hoi,hall⟩:=mem_ready.1 hi
 intro j o ho hl e he hb
 by_cases hij:i=j
 ·subst hij
  rw [hoi] at ho
  cases ho
  exact getD_up (hall e he hb)
 ·rw [getD_set_ne false hij] at hl
  exact getD_up (h j o ho hl e he hb)
theorem Clo.none:Clo md ops (Array.replicate ops.size false):=fun j o _ hl=>by simp [Array.getD] at hl
def reachB (md:Region.Mode)(ops:Array Oper)(i:Nat):Nat→Nat→Bool
 | 0,_=>false
 | f+1,j=>match ops[j]? with
  | some oj=>oj.after.any fun e=>Region.binds md e && (e.on == i || reachB md ops i f e.on)
  | none=>false
theorem reachB_listed {listed:Array Bool}{i:Nat}(hcl:Clo md ops listed):∀ f j,reachB md ops i f j=true→listed.getD j false=true→listed.getD i false=true
 | 0,_,h,_=>by cases h
 | f+1,j,h,hl=>by
  unfold reachB at h
  split at h
  ·rename_i oj hoj
   obtain ⟨e,he,hb⟩:=Array.any_eq_true'.1 h
   simp only [Bool.and_eq_true,Bool.or_eq_true,beq_iff_eq] at hb
   have h1:=hcl j oj hoj hl e he hb.1
   rcases hb.2 with h2|h2
   ·rw [←h2];exact h1
   ·exact reachB_listed hcl f e.on h2 h1
  ·cases h
theorem reachB_ready {listed:Array Bool}{i j:Nat}(hcl:Clo md ops listed)(hj:j∈Region.ready md ops listed):∀ f,reachB md ops i f j=true→listed.getD i false=true
 | 0,h=>by cases h
 | f+1,h=>by
  obtain ⟨hun,oj,hoj,hall⟩:=mem_ready.1 hj
  unfold reachB at h
  simp only [hoj] at h
  obtain ⟨e,he,hb⟩:=Array.any_eq_true'.1 h
  simp only [Bool.and_eq_true,Bool.or_eq_true,beq_iff_eq] at hb
  have h1:=hall e he hb.1
  rcases hb.2 with h2|h2
  ·rw [←h2];exact h1
  ·exact reachB_listed hcl f e.on h2 h1
theorem wpAny_of_mild {Q:Act→Mu→Prop}{Q':Exit→Act→World→Prop}(hW:WrOk sg Wr md ops)(hQ:∀ a μ w,Cls W μ w→Q a μ→Q' .normal a w):∀ (fuel:Nat) (listed:Array Bool) (a:Act) (μ:Mu) (w:World),Cls W μ w→
  (∀ k,k<W.heap.size→(∀ j o,ops[j]? = some o→listed.getD j false=true→¬(opKind sg o=.store∧Wr.s o k))→μ.f k=none)→
  (∀ j o,ops[j]? = some o→listed.getD j false=true→∀ e∈o.after,Region.binds md e=true→listed.getD e.on false=true)→
  wpAnyM P W sg Wr md ops Q fuel listed a μ→wpAny P md ops Q' fuel listed a w
 | 0,_,_,_,_,hc,_,_,h=>⟨h.1,hQ _ _ _ hc h.2⟩
 | fuel+1,listed,_,μ,_,hc,hv,hcl,h=>⟨fun h0=>hQ _ _ _ hc (h.1 h0),fun i hi=>by
  obtain ⟨hun,oi,hoi,hall⟩:=mem_ready.1 hi
  obtain ⟨hlt,hun'⟩:=getD_flip hun
  refine mOp_sound hc (fun o ho hk k hlk hnr=>hv k hlk fun j oj hj hl ⟨hs,hwr⟩=>?_) (fun a' μ' w' hc' hv'=>wpAny_of_mild hW hQ fuel _ a' μ' w' hc' (fun k hlk hno=>?_) (fun j o ho hl e he hb=>?_)) (h.2 i hi)
  ·by_cases hb:∀ e∈oj.after,Region.binds md e=true→e.on≠i
   ·exact hnr (hW i j o oj ho hj hk hs hb k hwr)
   ·refine hb fun e he hbe heq=>?_
    have:=hcl j oj hj hl e he hbe
    rw [heq,hun'] at this
    cases this
  ·refine hv' k hlk (hv k hlk fun j o ho hl=>hno j o ho (getD_up hl)) (fun o ho=>hno i o ho (getD_on hlt))
  ·by_cases hij:i=j
   ·subst hij
    rw [hoi] at ho
    cases ho
    exact getD_up (hall e he hb)
   ·rw [getD_set_ne false hij] at hl
    exact getD_up (hcl j o ho hl e he hb)⟩
def mayPass (fi fj:Bool)(ki kj:OpKind):Bool:=
 match ki,kj with
 | .store,.store | .alloc,.mild=>false
 | .mild,.store=>fj
 | .store,.mild=>fi
 | _,_=>true
theorem eval_apart {o:Oper}{a:Act}{dst:Option Tmp}{v:Value}{x:Operand}(hx:x∈o.op.operands)(h:∀ d,dst=some d→d∉o.looksAt ops):(a.put dst v).eval x=a.eval x:=
 Act.eval_put fun d hd hxd=>h d hd (by
  subst hxd
  exact List.mem_append_left _ (List.mem_filterMap.2 ⟨.tmp d,by simpa using hx,rfl⟩))
theorem plain_apart {Wq:Nat→Prop}{o:Oper}{a:Act}{dst:Option Tmp}{v u:Value}(hs:∀ cs b,o.op≠.select cs b)(h:∀ d,dst=some d→d∉o.looksAt ops):PV P W Wq (a.put dst v) o u=PV P W Wq a o u:=by
 unfold PV;rw [execOp_put o hs a dst v h]
theorem mild_apart {o:Oper}{a:Act}{dst:Option Tmp}{v u:Value}(hs:∀ cs b,o.op≠.select cs b)(h:∀ d,dst=some d→d∉o.looksAt ops):Mild P W o (a.put dst v) u=Mild P W o a u:=by
 unfold Mild;rw [execOp_put o hs a dst v h]
theorem mAct_swap {oi oj:Oper}{a:Act}{μ:Mu}{K:Act→Mu→Prop}(hsi:∀ cs b,oi.op≠.select cs b)(hsj:∀ cs b,oj.op≠.select cs b)
  (hap:oi.apart ops oj=true) (hk:mayPass (fresh ops oi) (fresh ops oj) (opKind sg oi) (opKind sg oj)=true) (h:mAct P W sg Wr ops oi (fun a' μ'=>mAct P W sg Wr ops oj K a' μ') a μ) :
  mAct P W sg Wr ops oj (fun a' μ'=>mAct P W sg Wr ops oi K a' μ') a μ:=by
 obtain ⟨h1,h2,h3⟩:=Oper.apart_spec hap
 have pc:∀ (v u:Value),(a.put oi.dst v).put oj.dst u=(a.put oj.dst u).put oi.dst v:=fun v u=>Act.put_comm a v u h2
 unfold mAct at h ⊢
 cases ki:opKind sg oi <;> cases kj:opKind sg oj <;> simp only [ki,kj,mayPass] at hk h ⊢ <;> try (cases hk)
 ·
  obtain ⟨t,zs,e1,e2,H⟩:=h
  obtain ⟨m0,hm0,hm1,-⟩:=μ.fresh W.heap.size 0
  obtain ⟨t',zs',e1',e2',-⟩:=H m0 hm0 hm1
  refine ⟨t',zs',e1',e2',fun n hn hf=>⟨t,zs,e1,e2,fun m hm hf'=>?_⟩⟩
  rw [Mu.put_f] at hf'
  split at hf'
  ·cases hf'
  ·rename_i hne
   obtain ⟨t2,zs2,f1,f2,H'⟩:=H m hm hf'
   obtain rfl:t2=t':=by rw [e1'] at f1;cases f1;rfl
   obtain rfl:zs2=zs':=by rw [e2'] at f2;cases f2;rfl
   have:=H' n hn (by rw [Mu.put_f,if_neg (by omega)];exact hf)
   rw [pc,Mu.put_comm _ (by omega)] at this
   exact this
 ·
  obtain ⟨t,zs,e1,e2,H⟩:=h
  obtain ⟨m0,hm0,hm1,-⟩:=μ.fresh W.heap.size 0
  obtain ⟨ty,p,x,n,off,c,u,f1,f2,-,-,-⟩:=H m0 hm0 hm1
  have ep:∀ v,(a.put oi.dst v).eval p=a.eval p:=fun v=>eval_apart (o:=oj) (by simp [f1,Op.operands]) h1
  have ex:∀ v,(a.put oi.dst v).eval x=a.eval x:=fun v=>eval_apart (o:=oj) (by simp [f1,Op.operands]) h1
  rw [ep] at f2
  have key:∀ m,W.heap.size≤m→μ.f m=none→m≠n→∃ c t',cur W μ n=some (c,t')∧(StoreOk P ty off c (a.eval x)∧(fresh ops oj=true→W.heap.size≤n)∧(n<W.heap.size→Wr.s oj n))∧
    K (((a.put oi.dst (.pointer (some ⟨m,0,none⟩))).put oj.dst undef)) ((μ.put m (zs,t)).put n (splice c off (a.eval x),t')):=by
   intro m hm hf hne
   obtain ⟨ty',p',x',n',off',c',t',g1,g2,g3,g4,g5⟩:=H m hm hf
   rw [f1] at g1
   cases g1
   rw [ep,f2] at g2
   cases g2
   rw [cur_put _ _ _ _ _ (Ne.symm hne)] at g3
   rw [ex] at g4 g5
   exact ⟨c',t',g3,g4,g5⟩
  obtain ⟨m1,q1,q2,q3⟩:=μ.fresh W.heap.size n
  obtain ⟨c1,t1,r1,r2,-⟩:=key m1 q1 q2 q3
  refine ⟨ty,p,x,n,off,c1,t1,f1,f2,r1,r2,t,zs,e1,e2,fun m hm hf=>?_⟩
  rw [Mu.put_f] at hf
  split at hf
  ·cases hf
  ·rename_i hne
   obtain ⟨c2,t2,s1,s2,s3⟩:=key m hm hf hne
   rw [r1] at s1
   cases s1
   rw [pc,Mu.put_comm _ hne] at s3
   exact s3
 ·
  obtain ⟨t,zs,e1,e2,H⟩:=h
  obtain ⟨m0,hm0,hm1,-⟩:=μ.fresh W.heap.size 0
  obtain ⟨v,f1,-⟩:=H m0 hm0 hm1
  rw [plain_apart hsj h1] at f1
  refine ⟨v,f1,t,zs,e1,e2,fun n hn hf=>?_⟩
  obtain ⟨v',g1,g2⟩:=H n hn hf
  rw [plain_apart hsj h1] at g1
  obtain rfl:=f1.unique g1
  rw [pc] at g2
  exact g2
 ·
  obtain ⟨ty,p,x,n,off,c,t,e1,e2,e3,e4,t',zs,f1,f2,H⟩:=h
  have ep:∀ v,(a.put oj.dst v).eval p=a.eval p:=fun v=>eval_apart (o:=oi) (by simp [e1,Op.operands]) h3
  have ex:∀ v,(a.put oj.dst v).eval x=a.eval x:=fun v=>eval_apart (o:=oi) (by simp [e1,Op.operands]) h3
  refine ⟨t',zs,f1,f2,fun m hm hf=>?_⟩
  have hne:m≠n:=by
   rintro rfl
   unfold cur at e3
   rw [hf] at e3
   dsimp only at e3
   rw [show W.heap[m]? = none by simp;omega] at e3
   cases e3
  refine ⟨ty,p,x,n,off,c,t,e1,by rw [ep];exact e2,by rw [cur_put _ _ _ _ _ (Ne.symm hne)];exact e3,by rw [ex];exact e4,?_⟩
  have:=H m hm (by rw [Mu.put_f,if_neg hne];exact hf)
  rw [pc,Mu.put_comm _ (Ne.symm hne)] at this
  rw [ex]
  exact this
 ·
  obtain ⟨ty,p,x,n,off,c,t,e1,e2,e3,e4,v,f1,f2⟩:=h
  have ep:∀ v,(a.put oj.dst v).eval p=a.eval p:=fun v=>eval_apart (o:=oi) (by simp [e1,Op.operands]) h3
  have ex:∀ v,(a.put oj.dst v).eval x=a.eval x:=fun v=>eval_apart (o:=oi) (by simp [e1,Op.operands]) h3
  rw [plain_apart hsj h1] at f1
  rw [pc] at f2
  exact ⟨v,f1,ty,p,x,n,off,c,t,e1,by rw [ep];exact e2,e3,by rw [ex];exact e4,by rw [ex];exact f2⟩
 ·
  obtain ⟨ty,p,x,n,off,c,t,e1,e2,e3,e4,f0,v,f1,f2⟩:=h
  have ep:∀ v,(a.put oj.dst v).eval p=a.eval p:=fun v=>eval_apart (o:=oi) (by simp [e1,Op.operands]) h3
  have ex:∀ v,(a.put oj.dst v).eval x=a.eval x:=fun v=>eval_apart (o:=oi) (by simp [e1,Op.operands]) h3
  rw [mild_apart hsj h1] at f1
  rw [pc] at f2
  refine ⟨fun k hk'=>?_,v,f1,ty,p,x,n,off,c,t,e1,by rw [ep];exact e2,e3,by rw [ex];exact e4,by rw [ex];exact f2⟩
  have:=f0 k hk'
  rw [Mu.put_f] at this
  split at this
  ·cases this
  ·exact this
 ·
  obtain ⟨v,e1,t,zs,f1,f2,H⟩:=h
  refine ⟨t,zs,f1,f2,fun n hn hf=>⟨v,by rw [plain_apart hsi h3];exact e1,?_⟩⟩
  have:=H n hn hf
  rw [pc] at this
  exact this
 ·
  obtain ⟨v,e1,ty,p,x,n,off,c,t,f1,f2,f3,f4,f5⟩:=h
  have ep:∀ v,(a.put oi.dst v).eval p=a.eval p:=fun v=>eval_apart (o:=oj) (by simp [f1,Op.operands]) h1
  have ex:∀ v,(a.put oi.dst v).eval x=a.eval x:=fun v=>eval_apart (o:=oj) (by simp [f1,Op.operands]) h1
  rw [ep] at f2
  rw [ex] at f4 f5
  rw [pc] at f5
  exact ⟨ty,p,x,n,off,c,t,f1,f2,f3,f4,v,by rw [plain_apart hsi h3];exact e1,f5⟩
 ·
  obtain ⟨v,e1,u,f1,f2⟩:=h
  rw [plain_apart hsj h1] at f1
  rw [pc] at f2
  exact ⟨u,f1,v,by rw [plain_apart hsi h3];exact e1,f2⟩
 ·
  obtain ⟨v,e1,f0,u,f1,f2⟩:=h
  rw [mild_apart hsj h1] at f1
  rw [pc] at f2
  exact ⟨f0,u,f1,v,by rw [plain_apart hsi h3];exact e1,f2⟩
 ·
  obtain ⟨e0,v,e1,t,zs,f1,f2,H⟩:=h
  refine ⟨t,zs,f1,f2,fun n hn hf=>⟨fun k hk=>?_,v,by rw [mild_apart hsi h3];exact e1,?_⟩⟩
  ·rw [Mu.put_f,if_neg (by omega)];exact e0 k hk
  ·have:=H n hn hf
   rw [pc] at this
   exact this
 ·
  obtain ⟨e0,v,e1,ty,p,x,n,off,c,t,f1,f2,f3,f4,f5⟩:=h
  have ep:∀ v,(a.put oi.dst v).eval p=a.eval p:=fun v=>eval_apart (o:=oj) (by simp [f1,Op.operands]) h1
  have ex:∀ v,(a.put oi.dst v).eval x=a.eval x:=fun v=>eval_apart (o:=oj) (by simp [f1,Op.operands]) h1
  rw [ep] at f2
  rw [ex] at f4 f5
  rw [pc] at f5
  refine ⟨ty,p,x,n,off,c,t,f1,f2,f3,f4,fun k hk'=>?_,v,by rw [mild_apart hsi h3];exact e1,f5⟩
  have:=f4.2.1 hk
  rw [Mu.put_f,if_neg (by omega)]
  exact e0 k hk'
 ·
  obtain ⟨e0,v,e1,u,f1,f2⟩:=h
  rw [plain_apart hsj h1] at f1
  rw [pc] at f2
  exact ⟨u,f1,e0,v,by rw [mild_apart hsi h3];exact e1,f2⟩
 ·
  obtain ⟨e0,v,e1,f0,u,f1,f2⟩:=h
  rw [mild_apart hsj h1] at f1
  rw [pc] at f2
  exact ⟨e0,u,f1,e0,v,by rw [mild_apart hsi h3];exact e1,f2⟩
theorem mOp_swap {i j:Nat}{oi oj:Oper}{a:Act}{μ:Mu}{K:Act→Mu→Prop}(hi:ops[i]? = some oi)(hj:ops[j]? = some oj)(hsi:∀ cs b,oi.op≠.select cs b)(hsj:∀ cs b,oj.op≠.select cs b)
  (hap:oi.apart ops oj=true) (hk:mayPass (fresh ops oi) (fresh ops oj) (opKind sg oi) (opKind sg oj)=true) (h:mOp P W sg Wr ops i (fun a' μ'=>mOp P W sg Wr ops j K a' μ') a μ) :
  mOp P W sg Wr ops j (fun a' μ'=>mOp P W sg Wr ops i K a' μ') a μ:=by
 obtain ⟨h1,h2,h3⟩:=Oper.apart_spec hap
 have wj:∀ (a:Act) v,Region.wanted oj (yielded ops (a.put oi.dst v).tmps)=Region.wanted oj (yielded ops a.tmps):=fun a v=>wanted_put oj a oi.dst v h1
 have wi:∀ (a:Act) v,Region.wanted oi (yielded ops (a.put oj.dst v).tmps)=Region.wanted oi (yielded ops a.tmps):=fun a v=>wanted_put oi a oj.dst v h3
 have pc:∀ (a:Act) (v u:Value),(a.put oi.dst v).put oj.dst u=(a.put oj.dst u).put oi.dst v:=fun a v u=>Act.put_comm a v u h2
 unfold mOp at h ⊢
 simp only [hi,hj] at h ⊢
 by_cases hwi:Region.wanted oi (yielded ops a.tmps)=true
 ·by_cases hwj:Region.wanted oj (yielded ops a.tmps)=true
  ·simp only [hwi,hwj,if_true] at h ⊢
   have h':mAct P W sg Wr ops oi (fun a' μ'=>mAct P W sg Wr ops oj K a' μ') a μ:=by
    unfold mAct at h ⊢
    cases hk:opKind sg oi <;> simp only [hk] at h ⊢
    ·obtain ⟨t,zs,q1,q2,q3⟩:=h
     exact ⟨t,zs,q1,q2,fun n hn hm=>by have:=q3 n hn hm;rw [wj,hwj] at this;exact this⟩
    ·obtain ⟨ty,p,x,n,off,c,t,q1,q2,q3,q4,q5⟩:=h
     rw [wj,hwj] at q5
     exact ⟨ty,p,x,n,off,c,t,q1,q2,q3,q4,q5⟩
    ·obtain ⟨v,q1,q2⟩:=h
     rw [wj,hwj] at q2
     exact ⟨v,q1,q2⟩
    ·obtain ⟨q0,v,q1,q2⟩:=h
     rw [wj,hwj] at q2
     exact ⟨q0,v,q1,q2⟩
   have h'':=mAct_swap hsi hsj hap hk h'
   unfold mAct at h'' ⊢
   cases hk:opKind sg oj <;> simp only [hk] at h'' ⊢
   ·obtain ⟨t,zs,q1,q2,q3⟩:=h''
    exact ⟨t,zs,q1,q2,fun n hn hm=>by rw [wi,hwi];exact q3 n hn hm⟩
   ·obtain ⟨ty,p,x,n,off,c,t,q1,q2,q3,q4,q5⟩:=h''
    exact ⟨ty,p,x,n,off,c,t,q1,q2,q3,q4,by rw [wi,hwi];exact q5⟩
   ·obtain ⟨v,q1,q2⟩:=h''
    exact ⟨v,q1,by rw [wi,hwi];exact q2⟩
   ·obtain ⟨q0,v,q1,q2⟩:=h''
    exact ⟨q0,v,q1,by rw [wi,hwi];exact q2⟩
  ·have hwj':Region.wanted oj (yielded ops a.tmps)=false:=by simpa using hwj
   simp only [hwi,hwj',if_true,Bool.false_eq_true,if_false] at h ⊢
   rw [wi,hwi]
   unfold mAct at h
   simp only [if_true]
   unfold mAct
   cases hk:opKind sg oi <;> simp only [hk] at h ⊢
   ·obtain ⟨t,zs,q1,q2,q3⟩:=h
    exact ⟨t,zs,q1,q2,fun n hn hm=>by have:=q3 n hn hm;rw [wj,hwj',if_neg (by simp),pc] at this;exact this⟩
   ·obtain ⟨ty,p,x,n,off,c,t,q1,q2,q3,q4,q5⟩:=h
    rw [wj,hwj',if_neg (by simp),pc] at q5
    have ep:(a.put oj.dst undef).eval p=a.eval p:=eval_apart (o:=oi) (by simp [q1,Op.operands]) h3
    have ex:(a.put oj.dst undef).eval x=a.eval x:=eval_apart (o:=oi) (by simp [q1,Op.operands]) h3
    exact ⟨ty,p,x,n,off,c,t,q1,by rw [ep];exact q2,q3,by rw [ex];exact q4,by rw [ex];exact q5⟩
   ·obtain ⟨v,q1,q2⟩:=h
    rw [wj,hwj',if_neg (by simp),pc] at q2
    exact ⟨v,by rw [plain_apart hsi h3];exact q1,q2⟩
   ·obtain ⟨q0,v,q1,q2⟩:=h
    rw [wj,hwj',if_neg (by simp),pc] at q2
    exact ⟨q0,v,by rw [mild_apart hsi h3];exact q1,q2⟩
 ·have hwi':Region.wanted oi (yielded ops a.tmps)=false:=by simpa using hwi
  simp only [hwi',Bool.false_eq_true,if_false] at h ⊢
  rw [wj] at h
  by_cases hwj:Region.wanted oj (yielded ops a.tmps)=true
  ·simp only [hwj,if_true] at h ⊢
   unfold mAct at h ⊢
   cases hk:opKind sg oj <;> simp only [hk] at h ⊢
   ·obtain ⟨t,zs,q1,q2,q3⟩:=h
    exact ⟨t,zs,q1,q2,fun n hn hm=>by have:=q3 n hn hm;rw [wi,hwi',if_neg (by simp),←pc];exact this⟩
   ·obtain ⟨ty,p,x,n,off,c,t,q1,q2,q3,q4,q5⟩:=h
    have ep:(a.put oi.dst undef).eval p=a.eval p:=eval_apart (o:=oj) (by simp [q1,Op.operands]) h1
    have ex:(a.put oi.dst undef).eval x=a.eval x:=eval_apart (o:=oj) (by simp [q1,Op.operands]) h1
    rw [ep] at q2
    rw [ex] at q4 q5
    exact ⟨ty,p,x,n,off,c,t,q1,q2,q3,q4,by rw [wi,hwi',if_neg (by simp),←pc];exact q5⟩
   ·obtain ⟨v,q1,q2⟩:=h
    rw [plain_apart hsj h1] at q1
    exact ⟨v,q1,by rw [wi,hwi',if_neg (by simp),←pc];exact q2⟩
   ·obtain ⟨q0,v,q1,q2⟩:=h
    rw [mild_apart hsj h1] at q1
    exact ⟨q0,v,q1,by rw [wi,hwi',if_neg (by simp),←pc];exact q2⟩
  ·have hwj':Region.wanted oj (yielded ops a.tmps)=false:=by simpa using hwj
   simp only [hwj',Bool.false_eq_true,if_false] at h ⊢
   rw [wi,hwi',if_neg (by simp),←pc]
   exact h
theorem wpAnyM_first {Q:Act→Mu→Prop}{i:Nat}{oi:Oper}(hi:ops[i]? = some oi)(hsel:∀ (j:Nat) (o:Oper) cs b,ops[j]? = some o→o.op≠.select cs b) :
  ∀ (fuel:Nat) (listed:Array Bool) (a:Act) (μ:Mu),
   Clo md ops listed→
   (∀ j oj,ops[j]? = some oj→j≠i→listed.getD j true=false→(∀ e∈oj.after,Region.binds md e=true→e.on≠i)→oi.apart ops oj=true∧(mayPass (fresh ops oi) (fresh ops oj) (opKind sg oi) (opKind sg oj)=true∨∃ f,reachB md ops i f j=true))→
   i∈Region.ready md ops listed→mOp P W sg Wr ops i (wpAnyM P W sg Wr md ops Q fuel (listed.setIfInBounds i true)) a μ→wpAnyM P W sg Wr md ops Q (fuel+1) listed a μ:=by
 intro fuel
 induction fuel with
 | zero=>
  intro listed a μ hcl hfree hr H
  refine ⟨fun h=>(by rw [h] at hr;cases hr),fun j hj=>?_⟩
  by_cases hji:j=i
  ·subst hji;exact H
  ·exfalso
   have hm:=ready_mono hj hji
   have key:Region.ready md ops (listed.setIfInBounds i true)=[]:=by
    unfold mOp at H
    simp only [hi] at H
    by_cases hw:Region.wanted oi (yielded ops a.tmps)=true
    ·simp only [hw,if_true] at H
     unfold mAct at H
     cases hk:opKind sg oi <;> simp only [hk] at H
     ·obtain ⟨t,zs,q1,q2,q3⟩:=H
      obtain ⟨m0,hm0,hm1,-⟩:=μ.fresh W.heap.size 0
      exact (q3 m0 hm0 hm1).1
     ·obtain ⟨ty,p,x,n,off,c,t,q1,q2,q3,q4,q5⟩:=H;exact q5.1
     ·obtain ⟨v,q1,q2⟩:=H;exact q2.1
     ·obtain ⟨q0,v,q1,q2⟩:=H;exact q2.1
    ·simp only [hw] at H;exact H.1
   rw [key] at hm
   cases hm
 | succ fuel ih=>
  intro listed a μ hcl hfree hr H
  refine ⟨fun h=>(by rw [h] at hr;cases hr),fun j hj=>?_⟩
  by_cases hji:j=i
  ·subst hji;exact H
  ·obtain ⟨hjun,oj,hoj,hall⟩:=mem_ready.1 hj
   have hnot:∀ e∈oj.after,Region.binds md e=true→e.on≠i:=fun e he hb heq=>by
    have h1:=hall e he hb
    have h0:=(mem_ready.1 hr).1
    rw [heq] at h1
    rcases Nat.lt_or_ge i listed.size with h'|h'
    ·simp [h'] at h0 h1;rw [h0] at h1;cases h1
    ·simp [Array.getElem?_eq_none h'] at h1
   have hap:=hfree j oj hoj hji hjun hnot
   have hap2:mayPass (fresh ops oi) (fresh ops oj) (opKind sg oi) (opKind sg oj)=true:=by
    rcases hap.2 with h | ⟨f,h⟩
    ·exact h
    ·have h1:=reachB_ready hcl hj f h
     rw [(getD_flip (mem_ready.1 hr).1).2] at h1
     cases h1
   have H':mOp P W sg Wr ops i (fun a' μ'=>mOp P W sg Wr ops j (wpAnyM P W sg Wr md ops Q fuel ((listed.setIfInBounds i true).setIfInBounds j true)) a' μ') a μ:=
    mOp_mono (fun a' μ' h=>h.2 j (ready_mono hj hji)) H
   have H'':=mOp_swap hi hoj (fun cs b=>hsel i oi cs b hi) (fun cs b=>hsel j oj cs b hoj) hap.1 hap2 H'
   refine mOp_mono (fun a' μ' h3=>ih (listed.setIfInBounds j true) a' μ' (hcl.set hj) ?_ (ready_mono hr (Ne.symm hji)) ?_) H''
   ·intro k ok hk hki hun hno
    refine hfree k ok hk hki ?_ hno
    by_cases hjk:j=k
    ·subst hjk;exact hjun
    ·rw [getD_set_ne true hjk] at hun;exact hun
   ·rw [Array.setIfInBounds_comm _ _ hji]
    exact h3
def wpM (P:Program)(W:World)(sg:Oper→Bool)(Wr:Wrt)(ops:Array Oper)(Q:Act→Mu→Prop):List Oper→Act→Mu→Prop
 | [],a,μ=>Q a μ
 | o::rest,a,μ=>if Region.wanted o (yielded ops a.tmps) then mAct P W sg Wr ops o (wpM P W sg Wr ops Q rest) a μ else wpM P W sg Wr ops Q rest (a.put o.dst undef) μ
def passR (sg:Oper→Bool)(md:Region.Mode)(ops:Array Oper)(oi:Oper)(i:Nat):List Oper→Nat→Bool
 | [],_=>true
 | oj::r,j=>(mayPass (fresh ops oi) (fresh ops oj) (opKind sg oi) (opKind sg oj) || (reachB md ops i 1 j || reachB md ops i 3 j)) && passR sg md ops oi i r (j+1)
def passL (sg:Oper→Bool)(md:Region.Mode)(ops:Array Oper):List Oper→Nat→Bool
 | [],_=>true
 | oi::r,i=>passR sg md ops oi i r (i+1) && passL sg md ops r (i+1)
def passB (sg:Oper→Bool)(md:Region.Mode)(ops:Array Oper):Bool:=passL sg md ops ops.toList 0
theorem passR_spec {oi:Oper}{i:Nat}:∀ (r:List Oper) (j:Nat),passR sg md ops oi i r j=true→∀ (b:Nat) (oj:Oper),r[b]? = some oj→mayPass (fresh ops oi) (fresh ops oj) (opKind sg oi) (opKind sg oj)=true∨∃ f,reachB md ops i f (j+b)=true
 | [],_,_,_,_,h=>by simp at h
 | o::r,j,hB,b,oj,h=>by
  unfold passR at hB
  rw [Bool.and_eq_true,Bool.or_eq_true,Bool.or_eq_true] at hB
  cases b with
  | zero=>
   rw [List.getElem?_cons_zero] at h
   cases h
   rcases hB.1 with h1|h1|h1
   ·exact .inl h1
   ·exact .inr ⟨1,h1⟩
   ·exact .inr ⟨3,h1⟩
  | succ b=>
   rw [List.getElem?_cons_succ] at h
   have:=passR_spec r (j+1) hB.2 b oj h
   rwa [show j+1+b=j+(b+1) by omega] at this
theorem passL_spec:∀ (l:List Oper) (k:Nat),passL sg md ops l k=true→∀ (a b:Nat) (oi oj:Oper),l[a]? = some oi→l[b]? = some oj→a<b→mayPass (fresh ops oi) (fresh ops oj) (opKind sg oi) (opKind sg oj)=true∨∃ f,reachB md ops (k+a) f (k+b)=true
 | [],_,_,_,_,_,_,h,_,_=>by simp at h
 | o::r,k,hB,a,b,oi,oj,h1,h2,hab=>by
  unfold passL at hB
  rw [Bool.and_eq_true] at hB
  cases b with
  | zero=>omega
  | succ b=>
   rw [List.getElem?_cons_succ] at h2
   cases a with
   | zero=>
    rw [List.getElem?_cons_zero] at h1
    cases h1
    have:=passR_spec r (k+1) hB.1 b oj h2
    rwa [show k+1+b=k+(b+1) by omega] at this
   | succ a=>
    rw [List.getElem?_cons_succ] at h1
    have:=passL_spec r (k+1) hB.2 a b oi oj h1 h2 (by omega)
    rwa [show k+1+a=k+(a+1) by omega,show k+1+b=k+(b+1) by omega] at this
theorem passB_spec {i j:Nat}{oi oj:Oper}(hB:passB sg md ops=true)(hi:ops[i]? = some oi)(hj:ops[j]? = some oj)(hlt:i<j):mayPass (fresh ops oi) (fresh ops oj) (opKind sg oi) (opKind sg oj)=true∨∃ f,reachB md ops i f j=true:=by
 have:=passL_spec (ops:=ops) ops.toList 0 hB i j oi oj (by simpa using hi) (by simpa using hj) hlt
 rwa [Nat.zero_add,Nat.zero_add] at this
def backB (md:Region.Mode):List Oper→Nat→Bool
 | [],_=>true
 | o::r,k=>o.after.toList.all (fun e=>!Region.binds md e || Nat.blt e.on k) && backB md r (k+1)
def apR (md:Region.Mode)(ops:Array Oper)(oi:Oper)(i:Nat):List Oper→Bool
 | []=>true
 | oj::r=>(oi.apart ops oj || oj.after.toList.any fun e=>Region.binds md e && Nat.beq e.on i) && apR md ops oi i r
def apL (md:Region.Mode)(ops:Array Oper):List Oper→Nat→Bool
 | [],_=>true
 | oi::r,i=>apR md ops oi i r && apL md ops r (i+1)
def textB (md:Region.Mode)(ops:Array Oper):Bool:=Region.noSelect ops && (backB md ops.toList 0 && apL md ops ops.toList 0)
theorem backB_spec:∀ (l:List Oper) (k:Nat),backB md l k=true→∀ (b:Nat) (o:Oper),l[b]? = some o→∀ e∈o.after,Region.binds md e=true→e.on<k+b
 | [],_,_,_,_,h,_,_,_=>by simp at h
 | p::r,k,hB,b,o,h,e,he,hb=>by
  unfold backB at hB
  rw [Bool.and_eq_true,List.all_eq_true] at hB
  cases b with
  | zero=>
   rw [List.getElem?_cons_zero] at h
   cases h
   have:=hB.1 e (by simpa using he)
   rw [hb,Bool.not_true,Bool.false_or,Nat.blt_eq] at this
   omega
  | succ b=>
   rw [List.getElem?_cons_succ] at h
   have:=backB_spec r (k+1) hB.2 b o h e he hb
   omega
theorem apR_spec {oi:Oper}{i:Nat}:∀ (r:List Oper),apR md ops oi i r=true→∀ oj∈r,oi.apart ops oj=true∨∃ e∈oj.after,Region.binds md e=true∧e.on=i
 | [],_,_,h=>by cases h
 | o::r,hB,oj,h=>by
  unfold apR at hB
  rw [Bool.and_eq_true,Bool.or_eq_true] at hB
  rcases List.mem_cons.1 h with rfl|h
  ·rcases hB.1 with h1|h1
   ·exact .inl h1
   ·rw [List.any_eq_true] at h1
    obtain ⟨e,he,hb⟩:=h1
    rw [Bool.and_eq_true,Nat.beq_eq] at hb
    exact .inr ⟨e,by simpa using he,hb.1,hb.2⟩
  ·exact apR_spec r hB.2 oj h
theorem apL_spec:∀ (l:List Oper) (k:Nat),apL md ops l k=true→∀ (a b:Nat) (oi oj:Oper),l[a]? = some oi→l[b]? = some oj→a<b→oi.apart ops oj=true∨∃ e∈oj.after,Region.binds md e=true∧e.on=k+a
 | [],_,_,_,_,_,_,h,_,_=>by simp at h
 | o::r,k,hB,a,b,oi,oj,h1,h2,hab=>by
  unfold apL at hB
  rw [Bool.and_eq_true] at hB
  cases b with
  | zero=>omega
  | succ b=>
   rw [List.getElem?_cons_succ] at h2
   cases a with
   | zero=>
    rw [List.getElem?_cons_zero] at h1
    cases h1
    exact apR_spec r hB.1 oj (List.mem_of_getElem? h2)
   | succ a=>
    rw [List.getElem?_cons_succ] at h1
    have:=apL_spec r (k+1) hB.2 a b oi oj h1 h2 (by omega)
    rwa [show k+1+a=k+(a+1) by omega] at this
theorem getD_tf {listed:Array Bool}{i:Nat}(h:listed.getD i true=true)(hi:i<listed.size):listed.getD i false=true:=by
 simp [hi] at h ⊢;exact h
theorem wpAnyM_lex {Q:Act→Mu→Prop}(hs:Region.noSelect ops=true)(hP:passB sg md ops=true)(hbk:∀ k o,ops[k]? = some o→∀ e∈o.after,Region.binds md e=true→e.on<k)
  (hap:∀ i j oi oj,ops[i]? = some oi→ops[j]? = some oj→i<j→oi.apart ops oj=true∨∃ e∈oj.after,Region.binds md e=true∧e.on=i) :
  ∀ (l:List Oper) (k:Nat) (listed:Array Bool) (a:Act) (μ:Mu),(∀ j,l[j]? = ops[k+j]?)→listed.size=ops.size→Clo md ops listed→(∀ j,j<k→listed.getD j true=true)→(∀ j,k≤j→j<ops.size→listed.getD j true=false)→
  wpM P W sg Wr ops Q l a μ→wpAnyM P W sg Wr md ops Q l.length listed a μ
 | [],k,listed,_,_,hl,hsz,_,hd,_,h=>⟨(by
  refine List.eq_nil_iff_forall_not_mem.2 fun i hi=>?_
  obtain ⟨hun,o,ho,_⟩:=mem_ready.1 hi
  have hlt:i<ops.size:=(Array.getElem?_eq_some_iff.1 ho).1
  have hk:ops.size≤k:=by
   rcases Nat.lt_or_ge k ops.size with h'|h'
   ·have:=hl 0
    rw [Nat.add_zero,Array.getElem?_eq_getElem h'] at this
    simp at this
   ·exact h'
  rw [hd i (by omega)] at hun
  cases hun),h⟩
 | o::l,k,listed,a,μ,hl,hsz,hcl,hd,hu,h=>by
  have h0:ops[k]? = some o:=by simpa using (hl 0).symm
  have hk:k<ops.size:=(Array.getElem?_eq_some_iff.1 h0).1
  have hr:k∈Region.ready md ops listed:=mem_ready.2 ⟨hu k (Nat.le_refl _) hk,o,h0,fun e he hb=>by
   have:=hbk k o h0 e he hb
   exact getD_tf (hd e.on this) (by omega)⟩
  have hst:mOp P W sg Wr ops k (wpM P W sg Wr ops Q l) a μ:=by unfold mOp;simp only [h0];exact h
  refine wpAnyM_first h0 (Region.noSelect_spec hs) l.length listed a μ hcl (fun j oj hj hne hun hno=>?_) hr (mOp_mono (fun a' μ' h'=>?_) hst)
  ·have hkj:k<j:=by
    rcases Nat.lt_trichotomy k j with h'|h'|h'
    ·exact h'
    ·exact absurd h'.symm hne
    ·rw [hd j h'] at hun;cases hun
   refine ⟨?_,passB_spec hP h0 hj hkj⟩
   rcases hap k j o oj h0 hj hkj with h' | ⟨e,he,hb,heq⟩
   ·exact h'
   ·exact absurd heq (hno e he hb)
  ·refine wpAnyM_lex hs hP hbk hap l (k+1) _ a' μ' (fun j=>by have:=hl (j+1);simpa [Nat.add_assoc,Nat.add_comm 1 j] using this) (by rw [Array.size_setIfInBounds];exact hsz) (hcl.set hr) (fun j hj=>?_) (fun j hj hjs=>?_) h'
   ·by_cases hjk:j=k
    ·subst hjk
     simp [hsz,hk]
    ·rw [getD_set_ne true (fun e=>hjk e.symm)];exact hd j (by omega)
   ·rw [getD_set_ne true (by omega)];exact hu j (by omega) hjs
theorem wp_region_gen {id:Nat}{Q:Exit→Act→World→Prop}{a:Act}{w:World}{l:List Oper}(sg:Oper→Bool)(Wr:Wrt)(hW:WrOk sg Wr .any l.toArray)(hm:P.follows .mixedOrders=true)(hB:textB .any l.toArray=true)(hP:passB sg .any l.toArray=true)
  (h:wpM P w sg Wr l.toArray (fun a' μ=>∀ w',Cls w μ w'→Q .normal a' w') l a Mu.empty):(Code.region id l.toArray true).wp P Q a w:=by
 simp only [textB,Bool.and_eq_true] at hB
 obtain ⟨hB1,hB2,hB3⟩:=hB
 refine wp_region_any hm (wpAny_of_mild (W:=w) (sg:=sg) (Wr:=Wr) hW (Q:=fun a' μ=>∀ w',Cls w μ w'→Q .normal a' w') (fun _ _ w' hc h=>h w' hc) _ _ _ Mu.empty _ ⟨rfl,rfl,rfl,Nat.le_refl _,fun _ _ _=>rfl,fun _ _ _ h=>by cases h⟩ (fun _ _ _=>rfl) (fun j o _ hl=>by simp [Array.getD] at hl) ?_)
 have:=wpAnyM_lex (W:=w) (sg:=sg) (Wr:=Wr) (Q:=fun a' μ=>∀ w',Cls w μ w'→Q .normal a' w') (md:=.any) hB1 hP (fun k o ho e he hb=>by have:=backB_spec _ 0 hB2 k o (by simpa using ho) e he hb;omega)
  (fun i j oi oj hi hj hij=>by have:=apL_spec _ 0 hB3 i j oi oj (by simpa using hi) (by simpa using hj) hij;rwa [Nat.zero_add] at this) l 0 (Array.replicate l.toArray.size false) a Mu.empty (by simp) (by simp) .none (fun j hj=>absurd hj (Nat.not_lt_zero _)) (fun j _ hj=>by
   have hj':j<(Array.replicate l.toArray.size false).size:=by simpa using hj
   simp at hj
   simp [hj]) h
 simpa using this
abbrev sg0:Oper→Bool:=fun _=>false
abbrev Wr0:Wrt:=⟨fun _ _=>True,fun _ _=>True⟩
theorem wp_region_mild {id:Nat}{Q:Exit→Act→World→Prop}{a:Act}{w:World}{l:List Oper}(hm:P.follows .mixedOrders=true)(hB:textB .any l.toArray=true)(hP:passB sg0 .any l.toArray=true)
  (h:wpM P w sg0 Wr0 l.toArray (fun a' μ=>∀ w',Cls w μ w'→Q .normal a' w') l a Mu.empty):(Code.region id l.toArray true).wp P Q a w:=wp_region_gen sg0 Wr0 (fun _ _ _ _ _ _ _ _ _ _ _=>trivial) hm hB hP h
end
attribute [go_sem] mildUpon plainVal
section
variable {P:Program}{W:World}{sg:Oper→Bool}{Wr:Wrt}{ops:Array Oper}{Q:Act→Mu→Prop}{o:Oper}{rest:List Oper}{a:Act}{μ:Mu}
theorem wpM_nil (h:Q a μ):wpM P W sg Wr ops Q [] a μ:=h
theorem wpM_skip (hw:Region.wanted o (yielded ops a.tmps)=false)(h:wpM P W sg Wr ops Q rest (a.put o.dst undef) μ):wpM P W sg Wr ops Q (o::rest) a μ:=by
 unfold wpM;rw [if_neg (by rw [hw];exact Bool.false_ne_true)];exact h
theorem wpM_pv {v:Value}(hw:Region.wanted o (yielded ops a.tmps)=true)(hk:opKind sg o=.plain)(hv:PV P W (Wr.r o) a o v)(h:wpM P W sg Wr ops Q rest (a.put o.dst v) μ):wpM P W sg Wr ops Q (o::rest) a μ:=by
 unfold wpM;rw [if_pos hw];unfold mAct;rw [hk];exact ⟨v,hv,h⟩
theorem wpM_plain {v:Value}(hw:Region.wanted o (yielded ops a.tmps)=true)(hk:opKind sg o=.plain)(hv:plainVal a o.op=some v)(h:wpM P W sg Wr ops Q rest (a.put o.dst v) μ):wpM P W sg Wr ops Q (o::rest) a μ:=wpM_pv hw hk (.of_plain hv) h
theorem wpM_mild {v:Value}(hw:Region.wanted o (yielded ops a.tmps)=true)(hk:opKind sg o=.mild)(hv:∀ x:Grow W,mildUpon P x.to v ((execOp a.eval o).run P x.to))(h:wpM P W sg Wr ops Q rest (a.put o.dst v) Mu.empty):wpM P W sg Wr ops Q (o::rest) a Mu.empty:=by
 unfold wpM;rw [if_pos hw];unfold mAct;rw [hk];exact ⟨fun _ _=>rfl,v,hv,h⟩
theorem wpM_mild' {v:Value}(hw:Region.wanted o (yielded ops a.tmps)=true)(hk:opKind sg o=.mild)(h0:∀ k,k<W.heap.size→μ.f k=none)(hv:∀ x:Grow W,mildUpon P x.to v ((execOp a.eval o).run P x.to))(h:wpM P W sg Wr ops Q rest (a.put o.dst v) μ):wpM P W sg Wr ops Q (o::rest) a μ:=by
 unfold wpM;rw [if_pos hw];unfold mAct;rw [hk];exact ⟨h0,v,hv,h⟩
theorem notFresh {X:Prop}(h:fresh ops o=false):fresh ops o=true→X:=fun h'=>by rw [h] at h';cases h'
theorem wpM_alloc {t:TypeId}{zs:Array Value}(hw:Region.wanted o (yielded ops a.tmps)=true)(ho:o.op=.alloc t)(hz:zeroCells P t=some zs)
  (h:∀ n,W.heap.size≤n→μ.f n=none→wpM P W sg Wr ops Q rest (a.put o.dst (.pointer (some ⟨n,0,none⟩))) (μ.put n (zs,t))):wpM P W sg Wr ops Q (o::rest) a μ:=by
 unfold wpM;rw [if_pos hw];unfold mAct;rw [show opKind sg o=.alloc by unfold opKind;rw [ho]];exact ⟨t,zs,ho,hz,h⟩
theorem wpG_store {ty:TypeId}{p x:Operand}{n off:Nat}{c:Array Value}{t:TypeId}{v:Value}(hw:Region.wanted o (yielded ops a.tmps)=true)(ho:o.op=.store ty p x)(hp:a.eval p=.pointer (some ⟨n,off,none⟩))(hx:a.eval x=v)
  (hc:cur W μ n=some (c,t)) (hs:StoreOk P ty off c v) (hfr:fresh ops o=true→W.heap.size≤n) (hwr:n<W.heap.size→Wr.s o n) (h:wpM P W sg Wr ops Q rest (a.put o.dst undef) (μ.put n (splice c off v,t))):wpM P W sg Wr ops Q (o::rest) a μ:=by
 unfold wpM;rw [if_pos hw];unfold mAct;rw [show opKind sg o=.store by unfold opKind;rw [ho]];subst hx;exact ⟨ty,p,x,n,off,c,t,ho,hp,hc,⟨hs,hfr,hwr⟩,h⟩
theorem wpG_row {ty:TypeId}{p x:Operand}{n:Nat}{c cs:Array Value}{t:TypeId}(hw:Region.wanted o (yielded ops a.tmps)=true)(ho:o.op=.store ty p x)(hp:a.eval p=.pointer (some ⟨n,0,none⟩))(hx:a.eval x=.agg cs)
  (hc:cur W μ n=some (c,t)) (hi:(P.info? ty).map (·.size)=some cs.size) (hs:c.size=cs.size) (h1:cs.all (·.oneCell')=true) (hfr:fresh ops o=true→W.heap.size≤n) (hwr:n<W.heap.size→Wr.s o n) (h:wpM P W sg Wr ops Q rest (a.put o.dst undef) (μ.put n (cs,t))):wpM P W sg Wr ops Q (o::rest) a μ:=
 wpG_store hw ho hp hx hc (.inl ⟨cs,rfl,rfl,hi,hs,h1⟩) hfr hwr h
theorem wpG_cell {ty:TypeId}{p x:Operand}{n off:Nat}{c:Array Value}{t:TypeId}{v:Value}(hw:Region.wanted o (yielded ops a.tmps)=true)(ho:o.op=.store ty p x)(hp:a.eval p=.pointer (some ⟨n,off,none⟩))(hx:a.eval x=v)
  (hc:cur W μ n=some (c,t)) (hi:(P.info? ty).map (·.size)=some 1) (h1:v.oneCell'=true) (hs:off<c.size) (hfr:fresh ops o=true→W.heap.size≤n) (hwr:n<W.heap.size→Wr.s o n) (h:wpM P W sg Wr ops Q rest (a.put o.dst undef) (μ.put n (c.setIfInBounds off v,t))):wpM P W sg Wr ops Q (o::rest) a μ:=
 wpG_store hw ho hp hx hc (.inr ⟨h1,hi,hs⟩) hfr hwr (by have e:splice c off v=c.setIfInBounds off v:=by {cases v <;> simp_all [Value.oneCell',splice]};rw [e];exact h)
theorem wpM_row {ty:TypeId}{p x:Operand}{n:Nat}{c cs:Array Value}{t:TypeId}(hw:Region.wanted o (yielded ops a.tmps)=true)(ho:o.op=.store ty p x)(hp:a.eval p=.pointer (some ⟨n,0,none⟩))(hx:a.eval x=.agg cs)
  (hc:cur W μ n=some (c,t)) (hi:(P.info? ty).map (·.size)=some cs.size) (hs:c.size=cs.size) (h1:cs.all (·.oneCell')=true) (hfr:fresh ops o=true→W.heap.size≤n) (h:wpM P W sg0 Wr0 ops Q rest (a.put o.dst undef) (μ.put n (cs,t))):wpM P W sg0 Wr0 ops Q (o::rest) a μ:=
 wpG_row hw ho hp hx hc hi hs h1 hfr (fun _=>trivial) h
theorem wpM_cell {ty:TypeId}{p x:Operand}{n off:Nat}{c:Array Value}{t:TypeId}{v:Value}(hw:Region.wanted o (yielded ops a.tmps)=true)(ho:o.op=.store ty p x)(hp:a.eval p=.pointer (some ⟨n,off,none⟩))(hx:a.eval x=v)
  (hc:cur W μ n=some (c,t)) (hi:(P.info? ty).map (·.size)=some 1) (h1:v.oneCell'=true) (hs:off<c.size) (hfr:fresh ops o=true→W.heap.size≤n) (h:wpM P W sg0 Wr0 ops Q rest (a.put o.dst undef) (μ.put n (c.setIfInBounds off v,t))):wpM P W sg0 Wr0 ops Q (o::rest) a μ:=
 wpG_cell hw ho hp hx hc hi h1 hs hfr (fun _=>trivial) h
theorem Mu.put_same (μ:Mu)(n:Nat)(x:Array Value×TypeId):(μ.put n x).f n=some x:=by rw [Mu.put_f,if_pos rfl]
theorem cur_same (n:Nat)(x:Array Value×TypeId):cur W (μ.put n x) n=some x:=by unfold cur;rw [Mu.put_f,if_pos rfl]
theorem cur_old {n:Nat}{c:Array Value}{t:TypeId}(h:W.heap[n]? = some (.cells c t)):cur W Mu.empty n=some (c,t):=by
 show (match W.heap[n]? with|some (.cells c t (0,0))=>some (c,t)|_=>none)=_
 rw [h]
 rfl
end
theorem put_ne {μ:Mu}{n m:Nat}{x:Array Value×TypeId}(h:(μ.put m x).f n=none):m≠n:=by
 intro e;subst e;rw [Mu.put_same] at h;cases h
theorem convS {W w:World}{n:Nat}{μ:Mu}{c c':Array Value}{t:TypeId}(h:Cls W μ w)(h0:W.heap[n]? = some (.cells c t))(hold:∀ k,k≠n→μ.f k=none)(hnow:μ.f n=some (c',t)) :
  ∃ x:Grow (W.setRow n c'),w=x.to:=by
 refine ⟨⟨w,⟨h.os,h.tape,h.output,by simpa using h.size,fun k hk=>?_⟩⟩,rfl⟩
 by_cases hkn:k=n
 ·subst hkn;rw [h.now k c' t hnow];exact (setRow_heap W k c c' t _ h0).symm
 ·rw [setRow_other W n k c' hkn];exact h.old k (by simpa using hk) (hold k hkn)
class HasCells (w:World)(n:Nat):Prop where
 out:∃ c t,w.heap[n]? = some (.cells c t)
instance HasCells.new3 (w:World)(o o1 o2:Obj)(c:Array Value)(t:TypeId):HasCells ((((w.alloc o).alloc o1).alloc o2).alloc (.cells c t)) (w.heap.size+1+1+1):=⟨_,_,nw3⟩
instance HasCells.old (w:World)(n:Nat)(o:Obj)[h:HasCells w n]:HasCells (w.alloc o) n:=let ⟨c,t,e⟩:=h.out;⟨c,t,ho e⟩
instance HasCells.grow (w:World)(n:Nat)(x:Grow w)[h:HasCells w n]:HasCells x.to n:=let ⟨c,t,e⟩:=h.out;⟨c,t,x.heap e⟩
theorem cells_setRow (w:World)(m n:Nat)(cs:Array Value)[h:HasCells w n]:HasCells (w.setRow m cs) n:=by
 obtain ⟨c,t,e⟩:=h.out
 by_cases hn:n=m
 ·subst hn;exact ⟨cs,t,setRow_heap w n c cs t _ e⟩
 ·exact ⟨c,t,by rw [setRow_other w m n cs hn];exact e⟩
instance HasCells.setRow (w:World)(m n:Nat)(cs:Array Value)[h:HasCells w n]:HasCells (w.setRow m cs) n:=cells_setRow w m n cs
theorem cells_setCell (w:World)(m i n:Nat)(v:Value)[h:HasCells w n]:HasCells (w.setCell ⟨m,i,none⟩ v) n:=by
 obtain ⟨c,t,e⟩:=h.out
 by_cases hn:n=m
 ·subst hn;exact ⟨_,t,heap_setCell_same w n i c t v e⟩
 ·exact ⟨c,t,by rw [heap_setCell_other w ⟨m,i,none⟩ n v hn];exact e⟩
instance HasCells.setCell (w:World)(m i n:Nat)(v:Value)[h:HasCells w n]:HasCells (w.setCell ⟨m,i,none⟩ v) n:=cells_setCell w m i n v
instance LtSize.setRow (b:Nat)(w:World)(m:Nat)(cs:Array Value)[h:LtSize b w]:LtSize b (w.setRow m cs):=⟨by have:=h.out;simpa using this⟩
@[go_sem] theorem cell_setRow (w:World)(n:Nat)(cs:Array Value)(b i:Nat)[h:HasCells w n]:(w.setRow n cs).cell? ⟨b,i,none⟩=if b=n then cs[i]? else w.cell? ⟨b,i,none⟩:=by
 obtain ⟨c,t,e⟩:=h.out
 by_cases hb:b=n
 ·subst hb;rw [if_pos rfl];exact cell_setRow_same w b i c cs t _ e
 ·rw [if_neg hb];exact cell_setRow_other w n cs ⟨b,i,none⟩ hb
@[go_sem] theorem frozen_setRow (w:World)(n:Nat)(cs:Array Value)(b i:Nat):(w.setRow n cs).frozen? ⟨b,i,none⟩=w.frozen? ⟨b,i,none⟩:=by
 by_cases hb:b=n
 ·subst hb
  unfold World.frozen?
  cases hw:w.heap[b]? with
  | none=>rw [show (w.setRow b cs).heap[b]? = none by simp [World.setRow,Array.getElem?_modify,hw]]
  | some o=>
   cases o with
   | cells c t fr=>rw [setRow_heap w b c cs t fr hw]
   | _=>simp [World.setRow,Array.getElem?_modify,hw]
 ·unfold World.frozen?;rw [setRow_other w n b cs hb]
theorem hrow {w:World}{n:Nat}{c c':Array Value}{t:TypeId}(h:w.heap[n]? = some (.cells c t)):(w.setRow n c').heap[n]? = some (.cells c' t):=setRow_heap w n c c' t _ h
theorem hrow_other {w:World}{n k:Nat}{c':Array Value}{o:Obj}(h:w.heap[k]? = some o)(hne:k≠n):(w.setRow n c').heap[k]? = some o:=(setRow_other w n k c' hne).trans h
theorem hset {w:World}{n i:Nat}{c:Array Value}{t:TypeId}{v:Value}(h:w.heap[n]? = some (.cells c t)):(w.setCell ⟨n,i,none⟩ v).heap[n]? = some (.cells (c.setIfInBounds i v) t):=heap_setCell_same w n i c t v h
theorem hset_other {w:World}{n i k:Nat}{o:Obj}{v:Value}(h:w.heap[k]? = some o)(hne:k≠n):(w.setCell ⟨n,i,none⟩ v).heap[k]? = some o:=(heap_setCell_other w ⟨n,i,none⟩ k v hne).trans h
theorem collapse_of {W V:World}{n:Nat}{c':Array Value}(hn:HasCells W n)(h1:V.os=W.os)(h2:V.tape=W.tape)(h3:V.output=W.output)(h4:W.heap.size≤V.heap.size)(h5:∀ k,k<W.heap.size→k≠n→V.heap[k]? = W.heap[k]?)(hv:HasCells V n)
  (y:Grow (V.setRow n c')) (ht:∀ c t d u,W.heap[n]? = some (.cells c t)→V.heap[n]? = some (.cells d u)→t=u):∃ z:Grow (W.setRow n c'),y.to=z.to:=by
 refine ⟨⟨y.to,⟨y.below.os.trans h1,y.below.tape.trans h2,y.below.output.trans h3,?_,fun k hk=>?_⟩⟩,rfl⟩
 ·have:=y.below.size;rw [setRow_size] at this ⊢;omega
 ·rw [setRow_size] at hk
  have hb:=y.below.block k (by rw [setRow_size];omega)
  rw [hb]
  by_cases hkn:k=n
  ·subst hkn
   obtain ⟨c,t,e⟩:=hn.out
   obtain ⟨d,u,f⟩:=hv.out
   rw [setRow_heap V k d c' u _ f,setRow_heap W k c c' t _ e,ht c t d u e f]
  ·rw [setRow_other V n k c' hkn,setRow_other W n k c' hkn];exact h5 k hk hkn
theorem collapse {W:World}{n:Nat}{c c':Array Value}[hn:HasCells W n]{x:Grow (W.setRow n c)}(y:Grow (x.to.setRow n c')):∃ z:Grow (W.setRow n c'),y.to=z.to:=by
 obtain ⟨d,t,e⟩:=hn.out
 refine collapse_of (V:=x.to) hn x.below.os x.below.tape x.below.output (by have:=x.size;rwa [setRow_size] at this) (fun k hk hkn=>?_) inferInstance y (fun c1 t1 d1 u1 h1 h2=>?_)
 ·rw [x.below.block k (by rw [setRow_size];exact hk),setRow_other W n k c hkn]
 ·rw [x.heap (setRow_heap W n d c t _ e)] at h2
  rw [e] at h1
  cases h1;cases h2;rfl
theorem collapse1 {W:World}{n i:Nat}{v:Value}{c c':Array Value}[hn:HasCells W n]{x:Grow (W.setRow n c)}(y:Grow ((x.to.setCell ⟨n,i,none⟩ v).setRow n c')):∃ z:Grow (W.setRow n c'),y.to=z.to:=by
 obtain ⟨d,t,e⟩:=hn.out
 have hx:=x.heap (setRow_heap W n d c t _ e)
 refine collapse_of (V:=x.to.setCell ⟨n,i,none⟩ v) hn x.below.os x.below.tape x.below.output (by have:=x.size;rw [setRow_size] at this;simpa using this) (fun k hk hkn=>?_) inferInstance y (fun c1 t1 d1 u1 h1 h2=>?_)
 ·rw [heap_setCell_other x.to ⟨n,i,none⟩ k v hkn,x.below.block k (by rw [setRow_size];exact hk),setRow_other W n k c hkn]
 ·rw [heap_setCell_same x.to n i c t v hx] at h2
  rw [e] at h1
  cases h1;cases h2;rfl
theorem setRow_new (w:World)(n:Nat)(c c':Array Value)(t:TypeId)(hn:n=w.heap.size):(w.alloc (.cells c t)).setRow n c'=w.alloc (.cells c' t):=by
 subst hn
 have h:((w.alloc (.cells c t)).setRow w.heap.size c').heap=(w.alloc (.cells c' t)).heap:=by
  apply Array.ext_getElem?
  intro k
  by_cases hk:k=w.heap.size
  ·subst hk;rw [setRow_heap _ _ c c' t _ nw,nw]
  ·rw [setRow_other _ _ _ _ hk]
   show (w.heap.push _)[k]? = (w.heap.push _)[k]?
   rw [Array.getElem?_push,Array.getElem?_push,if_neg hk,if_neg hk]
 show ({w with heap:=((w.alloc (.cells c t)).setRow w.heap.size c').heap}:World) = {w with heap:=(w.alloc (.cells c' t)).heap}
 rw [h]
theorem add0 (b o j:Nat):(⟨b,o,none⟩:Addr).add j=⟨b,o+j,none⟩:=by unfold Addr.add;split <;> simp_all
theorem src_of {w:World}{n:Nat}{c:Array Value}{t:TypeId}(h:w.heap[n]? = some (.cells c t)){cs:List Value}(hc:c.toList=cs):∀ j v,cs[j]? = some v→w.cell? ((⟨n,0,none⟩:Addr).add j)=some v:=by
 intro j v hj
 rw [add0,Nat.zero_add,cell_of_row w n j c t _ h]
 subst hc
 simpa using hj
theorem up_row {a w:World}(h:Below a.heap.size a w){n:Nat}(hp:a.heap.size≤n)(cs:Array Value):Below a.heap.size a (w.setRow n cs):=
 h.trans ⟨rfl,rfl,rfl,by simp,fun k hk=>setRow_other w n k cs (by omega)⟩
end Go.Proofs.YtkendlnjaopbeaaGreatDoor
namespace Go.Proofs.YtkendlnjaopbeaaGreatDoor
open Go.RowKit
set_option linter.unusedVariables false
abbrev Slots:=List (Nat×Value)
def look:Slots→Nat→Option Value
 | [],_=>none
 | (j,v)::r,i=>bif i == j then some v else look r i
def sput:Slots→Nat→Value→Slots
 | [],d,v=>[(d,v)]
 | (j,u)::r,d,v=>bif d == j then (j,v)::r else (j,u)::sput r d v
def sputO (s:Slots):Option Nat→Value→Slots
 | none,_=>s
 | some d,v=>sput s d v
theorem look_cons (j:Nat)(v:Value)(r:Slots)(i:Nat):look ((j,v)::r) i=if i=j then some v else look r i:=by
 show (bif i == j then some v else look r i)=_
 by_cases h:i=j
 ·subst h;simp
 ·have:(i == j)=false:=by simpa using h
  simp [this,h]
theorem look_sput (s:Slots)(d:Nat)(v:Value)(i:Nat):look (sput s d v) i=if i=d then some v else look s i:=by
 induction s with
 | nil=>unfold sput;rw [look_cons]
 | cons p r ih=>
  obtain ⟨j,u⟩:=p
  unfold sput
  by_cases h:d=j
  ·subst h
   simp only [beq_self_eq_true,cond_true,look_cons]
   by_cases h':i=d <;> simp [h']
  ·have:(d == j)=false:=by simpa using h
   simp only [this,cond_false,look_cons,ih]
   by_cases h':i=d
   ·subst h';simp [h]
   ·simp [h']
def val (s:Slots):Operand→Option Value
 | .tmp t=>look s t
 | .const v=>some v
 | .global g=>some (.pointer (some ⟨g,0,none⟩))
 | .func f=>some (.func (.func f) #[] #[])
def vals (s:Slots):List Operand→Option (List Value)
 | []=>some []
 | x::r=>match val s x,vals s r with
  | some v,some vs=>some (v::vs)
  | _,_=>none
structure Env (N:Nat)(s:Slots)(a:Act):Prop where
 size:a.tmps.size=N
 get:∀ i v,look s i=some v→a.tmps[i]? = some v
 nodef:a.defers=[]
theorem Env.eval {N:Nat}{s:Slots}{a:Act}(h:Env N s a){x:Operand}{v:Value}(hv:val s x=some v):a.eval x=v:=by
 cases x with
 | tmp t=>have:=h.get t v hv;simp [Act.eval,this]
 | const u=>cases hv;rfl
 | global g=>cases hv;rfl
 | func f=>cases hv;rfl
theorem Env.vals {N:Nat}{s:Slots}{a:Act}(h:Env N s a):∀ {l:List Operand} {vs:List Value},vals s l=some vs→l.map a.eval=vs
 | [],vs,hv=>by cases hv;rfl
 | x::r,vs,hv=>by
  unfold Proofs.YtkendlnjaopbeaaGreatDoor.vals at hv
  cases h1:val s x with
  | none=>simp [h1] at hv
  | some v=>
   cases h2:Proofs.YtkendlnjaopbeaaGreatDoor.vals s r with
   | none=>simp [h1,h2] at hv
   | some us=>
    simp only [h1,h2,Option.some.injEq] at hv
    subst hv
    simp [h.eval h1,h.vals h2]
def dOk (N:Nat):Option Nat→Bool
 | none=>true
 | some d=>Nat.ble (d+1) N
theorem Env.put {N:Nat}{s:Slots}{a:Act}(h:Env N s a){dst:Option Nat}(hd:dOk N dst=true)(v:Value):Env N (sputO s dst v) (a.put dst v):=by
 cases dst with
 | none=>exact h
 | some d=>
  have hlt:d<N:=Nat.le_of_ble_eq_true hd
  refine ⟨by simp [Act.put,h.size],fun i u hu=>?_,h.nodef⟩
  rw [sputO,look_sput] at hu
  by_cases hi:i=d
  ·subst hi
   rw [if_pos rfl] at hu
   cases hu
   simp [Act.put,h.size,hlt]
  ·rw [if_neg hi] at hu
   have:=h.get i u hu
   simp only [Act.put]
   rw [Array.getElem?_setIfInBounds_ne (fun e=>hi e.symm)]
   exact this
def SubS:Slots→Slots→Prop
 | [],_=>True
 | (i,v)::r,s=>look s i=some v∧SubS r s
theorem SubS.look {s' s:Slots}(h:SubS s' s):∀ i v,look s' i=some v→look s i=some v:=by
 induction s' with
 | nil=>intro i v hv;cases hv
 | cons p r ih=>
  obtain ⟨j,u⟩:=p
  intro i v hv
  rw [look_cons] at hv
  by_cases hi:i=j
  ·subst hi;rw [if_pos rfl] at hv;cases hv;exact h.1
  ·rw [if_neg hi] at hv;exact ih h.2 i v hv
theorem Env.sub {N:Nat}{s s':Slots}{a:Act}(h:Env N s a)(hs:SubS s' s):Env N s' a:=⟨h.size,fun i v hv=>h.get i v (hs.look i v hv),h.nodef⟩
def eqb (a b:Bool):Bool:=match a,b with
 | true,true=>true
 | false,false=>true
 | _,_=>false
def gd (s:Slots)(ops:Array Oper)(o:Oper):Option Bool:=
 match o.guard with
 | none=>some true
 | some (j,want)=>match (ops[j]?).bind (·.dst) with
  | none=>some false
  | some d=>match look s d with
   | some (.bool b)=>some (eqb b want)
   | some _=>some false
   | none=>none
theorem gd_wanted {N:Nat}{s:Slots}{a:Act}{ops:Array Oper}{o:Oper}{g:Bool}(h:Env N s a)(hg:gd s ops o=some g):Region.wanted o (yielded ops a.tmps)=g:=by
 unfold gd at hg
 unfold Region.wanted
 cases hgu:o.guard with
 | none=>simp only [hgu] at hg;cases hg;rfl
 | some p=>
  obtain ⟨j,want⟩:=p
  simp only [hgu] at hg ⊢
  unfold yielded
  cases hd:(ops[j]?).bind (·.dst) with
  | none=>simp only [hd] at hg;cases hg;rfl
  | some d=>
   simp only [hd,Option.bind_some] at hg ⊢
   cases hl:look s d with
   | none=>simp [hl] at hg
   | some v=>
    have:=h.get d v hl
    rw [this]
    simp only [hl] at hg
    cases v <;> (try (cases hg;rfl))
    rename_i b
    cases hg
    cases b <;> cases want <;> rfl
abbrev Blks:=List (Nat×(Array Value×TypeId))
def mu:Blks→Mu
 | []=>.empty
 | (n,x)::r=>(mu r).put n x
abbrev keys (l:Blks):List Nat:=l.map (·.1)
inductive At:Blks→Nat→Array Value×TypeId→Array Value×TypeId→Blks→Prop
 | here {n:Nat} {x y:Array Value×TypeId} {r:Blks}:At ((n,x)::r) n x y ((n,y)::r)
 | there {p:Nat×(Array Value×TypeId)} {n:Nat} {x y:Array Value×TypeId} {r r':Blks} (h:At r n x y r'):At (p::r) n x y (p::r')
theorem At.keys {l l':Blks}{n:Nat}{x y:Array Value×TypeId}(h:At l n x y l'):keys l'=keys l:=by
 induction h with
 | here=>rfl
 | there _ ih=>simpa using ih
theorem At.mem {l l':Blks}{n:Nat}{x y:Array Value×TypeId}(h:At l n x y l'):n∈Proofs.YtkendlnjaopbeaaGreatDoor.keys l:=by
 induction h with
 | here=>simp
 | there _ ih=>exact List.mem_cons_of_mem _ ih
theorem mu_none {l:Blks}{n:Nat}(h:n∉keys l):(mu l).f n=none:=by
 induction l with
 | nil=>rfl
 | cons p r ih=>
  obtain ⟨m,x⟩:=p
  simp only [keys,List.map_cons,List.mem_cons,not_or] at h
  rw [mu,Mu.put_f,if_neg h.1]
  exact ih h.2
theorem mu_mem {l:Blks}{n:Nat}{x:Array Value×TypeId}(h:(mu l).f n=some x):n∈keys l:=by
 by_cases hm:n∈keys l
 ·exact hm
 ·rw [mu_none hm] at h;cases h
theorem mu_some {l:Blks}{n:Nat}(h:n∈keys l):∃ x,(mu l).f n=some x:=by
 induction l with
 | nil=>simp [keys] at h
 | cons p r ih=>
  obtain ⟨m,x⟩:=p
  rw [mu,Mu.put_f]
  by_cases hm:n=m
  ·exact ⟨x,by rw [if_pos hm]⟩
  ·rw [if_neg hm]
   simp only [keys,List.map_cons,List.mem_cons,hm,false_or] at h
   exact ih h
theorem mu_mem_of {l:Blks}{n:Nat}{x:Array Value×TypeId}(h:(n,x)∈l)(nd:(keys l).Nodup):(mu l).f n=some x:=by
 induction l with
 | nil=>cases h
 | cons p r ih=>
  obtain ⟨m,y⟩:=p
  simp only [keys,List.map_cons,List.nodup_cons] at nd
  rw [mu,Mu.put_f]
  rcases List.mem_cons.1 h with h|h
  ·cases h;rw [if_pos rfl]
  ·have:n∈keys r:=List.mem_map.2 ⟨_,h,rfl⟩
   rw [if_neg (fun e=>nd.1 (by subst e;exact this))]
   exact ih h nd.2
theorem At.now {l l':Blks}{n:Nat}{x y:Array Value×TypeId}(h:At l n x y l')(nd:(Proofs.YtkendlnjaopbeaaGreatDoor.keys l).Nodup):(mu l).f n=some x:=by
 induction h with
 | here=>rw [mu,Mu.put_f,if_pos rfl]
 | there hr ih=>
  rename_i p n x y r r'
  simp only [Proofs.YtkendlnjaopbeaaGreatDoor.keys,List.map_cons,List.nodup_cons] at nd
  rw [mu,Mu.put_f,if_neg (fun e=>nd.1 (by rw [←e];exact hr.mem))]
  exact ih nd.2
theorem At.put {l l':Blks}{n:Nat}{x y:Array Value×TypeId}(h:At l n x y l')(nd:(Proofs.YtkendlnjaopbeaaGreatDoor.keys l).Nodup)(k:Nat):(mu l').f k=if k=n then some y else (mu l).f k:=by
 induction h with
 | here=>
  rw [mu,Mu.put_f,mu,Mu.put_f]
  split <;> simp_all
 | there hr ih=>
  rename_i p n x y r r'
  simp only [Proofs.YtkendlnjaopbeaaGreatDoor.keys,List.map_cons,List.nodup_cons] at nd
  have hne:n≠p.1:=fun e=>nd.1 (by rw [←e];exact hr.mem)
  rw [mu,Mu.put_f,mu,Mu.put_f,ih nd.2]
  by_cases h1:k=p.1
  ·rw [if_pos h1,if_neg (fun e=>hne (e.symm.trans h1)),if_pos h1]
  ·rw [if_neg h1,if_neg h1]
inductive SubL:Blks→Blks→Prop
 | nil {l:Blks}:SubL [] l
 | keep {n:Nat} {x:Array Value×TypeId} {r' r:Blks} (h:SubL r' r):SubL ((n,x)::r') ((n,x)::r)
 | skip {p:Nat×(Array Value×TypeId)} {r' r:Blks} (h:SubL r' r):SubL r' (p::r)
theorem SubL.refl:∀ (l:Blks),SubL l l
 | []=>.nil
 | (_,_)::r=>.keep (SubL.refl r)
theorem SubL.skipA {r' r:Blks}(h:SubL r' r):∀ oa:Blks,SubL r' (oa++r)
 | []=>h
 | _::o=>.skip (SubL.skipA h o)
theorem SubL.keepA {r' r:Blks}(h:SubL r' r):∀ oa:Blks,SubL (oa++r') (oa++r)
 | []=>h
 | (_,_)::o=>.keep (SubL.keepA h o)
theorem SubL.headA (r:Blks):∀ oa:Blks,SubL oa (oa++r)
 | []=>.nil
 | (_,_)::o=>.keep (SubL.headA r o)
theorem SubL.mem {l' l:Blks}(h:SubL l' l):∀ p∈l',p∈l:=by
 induction h with
 | nil=>intro p hp;cases hp
 | keep _ ih=>intro p hp;rcases List.mem_cons.1 hp with h|h;exact h ▸ List.mem_cons_self;exact List.mem_cons_of_mem _ (ih p h)
 | skip _ ih=>intro p hp;exact List.mem_cons_of_mem _ (ih p hp)
theorem SubL.nodup {l' l:Blks}(h:SubL l' l)(nd:(keys l).Nodup):(keys l').Nodup:=by
 induction h with
 | nil=>simp
 | keep hr ih=>
  simp only [keys,List.map_cons,List.nodup_cons] at nd ⊢
  refine ⟨fun hm=>nd.1 ?_,ih nd.2⟩
  obtain ⟨p,hp,he⟩:=List.mem_map.1 hm
  exact List.mem_map.2 ⟨p,hr.mem p hp,he⟩
 | skip _ ih=>simp only [keys,List.map_cons,List.nodup_cons] at nd;exact ih nd.2
theorem mu_in {l:Blks}{n:Nat}{x:Array Value×TypeId}(h:(mu l).f n=some x):(n,x)∈l:=by
 induction l with
 | nil=>cases h
 | cons p r ih=>
  obtain ⟨m,y⟩:=p
  rw [mu,Mu.put_f] at h
  by_cases hm:n=m
  ·rw [if_pos hm] at h;cases h;subst hm;exact List.mem_cons_self
  ·rw [if_neg hm] at h;exact List.mem_cons_of_mem _ (ih h)
structure Cx where
 P:Program
 W:World
 N:Nat
 own:List Nat
def BIG:Nat:=4294967296
def unV:Value→Nat
 | .int _ i=>i.toNat
 | _=>0
def unE:Value→MapEntry
 | .agg c=>⟨c.getD 0 undef,c.getD 1 undef,unV (c.getD 2 undef)⟩
 | _=>⟨undef,undef,0⟩
def toObj (x:Array Value×TypeId):Obj:=bif Nat.blt x.2 BIG then .cells x.1 x.2 else
 bif (x.2 - BIG) % 2 == 0 then .map (x.1.map unE) ((x.2 - BIG) / 2) else
 .mapIter (some (unV (x.1.getD 0 undef))) (unV (x.1.getD 1 undef)) ((x.1.extract 2 x.1.size).map unV) ((x.2 - BIG) / 2)
theorem toObj_cells {c:Array Value}{t:Nat}(h:Nat.blt t BIG=true):toObj (c,t)=.cells c t:=by unfold toObj;rw [h];rfl
structure Msk (W:World)(own:List Nat)(μ:Mu)(w:World):Prop where
 os:w.os=W.os
 tape:w.tape=W.tape
 output:w.output=W.output
 size:W.heap.size≤w.heap.size
 old:∀ k,k<W.heap.size→k∉own→w.heap[k]? = W.heap[k]?
 now:∀ k c t,μ.f k=some (c,t)→w.heap[k]? = some (toObj (c,t))
structure Mem (X:Cx)(l:Blks)(w:World):Prop where
 nd:(keys l).Nodup
 cls:Msk X.W X.own (mu l) w
 fresh:∀ n∈keys l,n<X.W.heap.size→n∈X.own
structure St (X:Cx)(s:Slots)(l:Blks)(a:Act)(w:World):Prop where
 env:Env X.N s a
 mem:Mem X l w
theorem Mem.lt {X:Cx}{l:Blks}{w:World}(h:Mem X l w){n:Nat}(hn:n∈keys l):n<w.heap.size:=by
 obtain ⟨x,hx⟩:=mu_some hn
 exact blk_lt (h.cls.now n x.1 x.2 hx)
def Has (X:Cx)(l:Blks)(n:Nat)(x:Array Value×TypeId):Prop:=∀ w,Mem X l w→w.heap[n]? = some (.cells x.1 x.2)
theorem Has.at {X:Cx}{l l':Blks}{n:Nat}{x y:Array Value×TypeId}(h:At l n x y l')(hb:Nat.blt x.2 BIG=true:=by first|rfl|assumption):Has X l n x:=fun _ hm=>(hm.cls.now n x.1 x.2 (h.now hm.nd)).trans (congrArg some (toObj_cells hb))
inductive Inn:Blks→Nat→Array Value×TypeId→Prop
 | here {n:Nat} {x:Array Value×TypeId} {r:Blks} (hb:Nat.blt x.2 BIG=true:=by first|rfl|assumption):Inn ((n,x)::r) n x
 | there {p:Nat×(Array Value×TypeId)} {n:Nat} {x:Array Value×TypeId} {r:Blks} (h:Inn r n x):Inn (p::r) n x
theorem Inn.at {l:Blks}{n:Nat}{x:Array Value×TypeId}(h:Inn l n x):At l n x x l:=by
 induction h with
 | here=>exact .here
 | there _ ih=>exact .there ih
theorem Inn.big {l:Blks}{n:Nat}{x:Array Value×TypeId}(h:Inn l n x):Nat.blt x.2 BIG=true:=by
 induction h with
 | here hb=>exact hb
 | there _ ih=>exact ih
theorem Has.inn {X:Cx}{l:Blks}{n:Nat}{x:Array Value×TypeId}(h:Inn l n x):Has X l n x:=Has.at h.at h.big
theorem Mem.sub' {X:Cx}{l l':Blks}{w:World}(h:Mem X l w)(nd':(keys l').Nodup)(hs:∀ p∈l',p∈l):Mem X l' w:=by
 have hn:∀ n x,(mu l').f n=some x→(mu l).f n=some x:=fun n x hx=>mu_mem_of (hs _ (mu_in hx)) h.nd
 refine ⟨nd',⟨h.cls.os,h.cls.tape,h.cls.output,h.cls.size,h.cls.old,fun k c t hx=>h.cls.now k c t (hn k _ hx)⟩,fun n hm=>h.fresh n ?_⟩
 obtain ⟨p,hp,he⟩:=List.mem_map.1 hm
 exact List.mem_map.2 ⟨p,hs p hp,he⟩
theorem Mem.sub {X:Cx}{l l':Blks}{w:World}(h:Mem X l w)(hs:SubL l' l):Mem X l' w:=h.sub' (hs.nodup h.nd) hs.mem
theorem Mem.sub0 {X:Cx}{l l':Blks}{w:World}(h:Mem X l w)(hs:SubL l' l)(hk:X.own=X.own):Mem X l' w:=h.sub hs
theorem Mem.upd {X:Cx}{l l':Blks}{w:World}{n:Nat}{c c':Array Value}{t:TypeId}(h:Mem X l w)(ha:At l n (c,t) (c',t) l')(hb:Nat.blt t BIG=true:=by first|rfl|assumption):Mem X l' (w.setRow n c'):=by
 have hg:=(h.cls.now n c t (ha.now h.nd)).trans (congrArg some (toObj_cells hb))
 refine ⟨by rw [ha.keys];exact h.nd,⟨h.cls.os,h.cls.tape,h.cls.output,by simpa using h.cls.size,fun k hk hm=>?_,fun k d u hm=>?_⟩,fun k hk=>h.fresh k (by rw [←ha.keys];exact hk)⟩
 ·rw [setRow_other w n k c' (fun e=>hm (by subst e;exact h.fresh k ha.mem hk))]
  exact h.cls.old k hk hm
 ·rw [ha.put h.nd k] at hm
  split at hm
  ·rename_i he;cases hm;subst he;rw [toObj_cells hb];exact setRow_heap w _ c c' t _ hg
  ·rename_i hne
   rw [setRow_other w n k c' hne];exact h.cls.now k d u hm
theorem nwO {w:World}{o:Obj}:(w.alloc o).heap[w.heap.size]? = some o:=by show (w.heap.push _)[w.heap.size]? = _;simp
theorem hoO {w:World}{o x:Obj}{n:Nat}(h:w.heap[n]? = some x):(w.alloc o).heap[n]? = some x:=by
 have hlt:=blk_lt h
 show (w.heap.push _)[n]? = _
 rw [Array.getElem?_push,if_neg (Nat.ne_of_lt hlt)];exact h
theorem Mem.newO {X:Cx}{l:Blks}{w:World}(h:Mem X l w)(y:Array Value×TypeId):Mem X ((w.heap.size,y)::l) (w.alloc (toObj y)):=by
 refine ⟨?_,⟨h.cls.os,h.cls.tape,h.cls.output,by simp;have:=h.cls.size;omega,fun k hk hm=>?_,fun k d u hm=>?_⟩,fun n hn hlt=>?_⟩
 ·simp only [keys,List.map_cons,List.nodup_cons]
  exact ⟨fun hm=>Nat.lt_irrefl _ (h.lt hm),h.nd⟩
 ·have hlt:k<w.heap.size:=Nat.lt_of_lt_of_le hk h.cls.size
  rw [←h.cls.old k hk hm]
  show (w.heap.push _)[k]? = _
  rw [Array.getElem?_push,if_neg (Nat.ne_of_lt hlt)]
 ·rw [mu,Mu.put_f] at hm
  split at hm
  ·rename_i he;cases hm;subst he;exact nwO
  ·exact hoO (h.cls.now k d u hm)
 ·simp only [keys,List.map_cons,List.mem_cons] at hn
  rcases hn with rfl|hn
  ·have:=h.cls.size;omega
  ·exact h.fresh n hn hlt
theorem Mem.new {X:Cx}{l:Blks}{w:World}(h:Mem X l w)(c:Array Value)(t:TypeId)(hb:Nat.blt t BIG=true:=by first|rfl|assumption):Mem X ((w.heap.size,(c,t))::l) (w.alloc (.cells c t)):=by
 have h1:=h.newO (c,t)
 rwa [toObj_cells hb] at h1
theorem Mem.grow {X:Cx}{l:Blks}{w w':World}(h:Mem X l w)(hb:Below w.heap.size w w'):Mem X l w':=
 ⟨h.nd,⟨hb.os.trans h.cls.os,hb.tape.trans h.cls.tape,hb.output.trans h.cls.output,Nat.le_trans h.cls.size hb.size,fun k hk hm=>(hb.block k (Nat.lt_of_lt_of_le hk h.cls.size)).trans (h.cls.old k hk hm),fun k c t hm=>(hb.block k (blk_lt (h.cls.now k c t hm))).trans (h.cls.now k c t hm)⟩,h.fresh⟩
abbrev Post:=Exit→Slots→Blks→Prop
def lift (X:Cx)(Q:Post):Exit→Act→World→Prop:=fun e a w=>∃ s l,St X s l a w∧Q e s l
def Wc (X:Cx)(c:Code)(Q:Post)(s:Slots)(l:Blks):Prop:=∀ a w,St X s l a w→c.wp X.P (lift X Q) a w
def thenP (K:Slots→Blks→Prop)(Q:Post):Post
 | .normal,s,l=>K s l
 | e,s,l=>Q e s l
def inB (id:Nat)(Q:Post):Post
 | .exit i,s,l=>if i=id then Q .normal s l else Q (.exit i) s l
 | e,s,l=>Q e s l
section
variable {X:Cx}{Q:Post}{s:Slots}{l:Blks}
theorem then_normal {K:Slots→Blks→Prop}(h:K s l):thenP K Q .normal s l:=h
theorem then_ret {K:Slots→Blks→Prop}(h:Q .ret s l):thenP K Q .ret s l:=h
theorem then_exit {K:Slots→Blks→Prop}{n:Nat}(h:Q (.exit n) s l):thenP K Q (.exit n) s l:=h
theorem inB_normal {n:Nat}(h:Q .normal s l):inB n Q .normal s l:=h
theorem inB_ret {n:Nat}(h:Q .ret s l):inB n Q .ret s l:=h
theorem inB_here {n:Nat}(h:Q .normal s l):inB n Q (.exit n) s l:=by unfold inB;simpa using h
theorem wc_seq {c d:Code}(h:∀ K:Slots→Blks→Prop,(∀ s l,Wc X d Q s l→K s l)→Wc X c (thenP K Q) s l):Wc X (.seq c d) Q s l:=by
 intro a w hs
 refine wp_seq (wp_mono (h _ (fun _ _ h=>h) a w hs) fun e a' w' ⟨s',l',h1,h2⟩=>?_)
 cases e <;> first|exact h2 a' w' h1|exact ⟨s',l',h1,h2⟩
theorem wc_skip (h:Q .normal s l):Wc X .skip Q s l:=fun a w hs=>wp_skip ⟨s,l,hs,h⟩
theorem wc_label {n:Nat}(h:Q .normal s l):Wc X (.label n) Q s l:=fun a w hs=>wp_label ⟨s,l,hs,h⟩
theorem wc_exit {n:Nat}(h:Q (.exit n) s l):Wc X (.exit n) Q s l:=fun a w hs=>wp_exit ⟨s,l,hs,h⟩
theorem wc_ret (h:Q .ret s l):Wc X .ret Q s l:=fun a w hs=>wp_ret ⟨s,l,hs,h⟩
theorem wc_block {id:Nat}{c:Code}(h:Wc X c (inB id Q) s l):Wc X (.block id c) Q s l:=fun a w hs=>
 wp_block (wp_mono (h a w hs) fun e a' w' ⟨s',l',h1,h2⟩=>by
  cases e with
  | exit i=>
   simp only [Exit.inBlock,inB] at h2 ⊢
   split
   ·rename_i he;rw [if_pos he] at h2;exact ⟨s',l',h1,h2⟩
   ·rename_i he;rw [if_neg he] at h2;exact ⟨s',l',h1,h2⟩
  | _=>exact ⟨s',l',h1,h2⟩)
theorem wc_true {c:Operand}{x y:Code}(hc:val s c=some (.bool true))(h:Wc X x Q s l):Wc X (.cond c x y) Q s l:=fun a w hs=>wp_cond_true (hs.env.eval hc) (h a w hs)
theorem wc_false {c:Operand}{x y:Code}(hc:val s c=some (.bool false))(h:Wc X y Q s l):Wc X (.cond c x y) Q s l:=fun a w hs=>wp_cond_false (hs.env.eval hc) (h a w hs)
theorem wc_cond {c:Operand}{x y:Code}{b:Bool}(hc:val s c=some (.bool b))(ht:b=true→Wc X x Q s l)(hf:b=false→Wc X y Q s l):Wc X (.cond c x y) Q s l:=by
 cases b
 ·exact wc_false hc (hf rfl)
 ·exact wc_true hc (ht rfl)
theorem wc_sub {c:Code}{s':Slots}{l':Blks}(hs:SubS s' s)(hl:SubL l' l)(ho:X.own=X.own)(h:Wc X c Q s' l'):Wc X c Q s l:=fun a w hst=>h a w ⟨hst.env.sub hs,hst.mem.sub0 hl ho⟩
structure Fits (X:Cx)(s':Slots)(l':Blks)(s:Slots)(l:Blks):Prop where
 slots:SubS s' s
 blks:SubL l' l
theorem Fits.of {s':Slots}{l':Blks}(h1:SubS s' s)(h2:SubL l' l)(h3:X.own=X.own):Fits X s' l' s l:=⟨h1,h2⟩
theorem Fits.st {s':Slots}{l':Blks}{a:Act}{w:World}(h:Fits X s' l' s l)(hs:St X s l a w):St X s' l' a w:=⟨hs.env.sub h.slots,hs.mem.sub h.blks⟩
theorem wc_loop {c:Code}{σ:Type}(S:σ→Slots)(L:σ→Blks)(ok:σ→Prop)(m:σ→Nat)(x0:σ)(h0:ok x0)(hf:Fits X (S x0) (L x0) s l)
  (round:∀ x,ok x→Wc X c (thenP (fun s' l'=>∃ y,ok y∧m y<m x∧Fits X (S y) (L y) s' l') Q) (S x) (L x)):Wc X (.loop c) Q s l:=by
 intro a w hs b k cs
 have key:∀ n x a w,m x=n→ok x→St X (S x) (L x) a w→
   ∃ e a' w',lift X Q e a' w'∧Arrives X.P (lone (b.at a (.code c::.inLoop c::k)) cs w) b k cs e a' w':=by
  intro n
  induction n using Nat.strongRecOn with
  | _ n ih=>
   intro x a w hn hok hst
   obtain ⟨e,a₁,w₁,hq,harr⟩:=round x hok a w hst b (.inLoop c::k) cs
   obtain ⟨s',l',h1,h2⟩:=hq
   cases e with
   | normal=>
    obtain ⟨y,hy,hlt,hfy⟩:=h2
    obtain ⟨e₂,a₂,w₂,hq₂,harr₂⟩:=ih (m y) (hn ▸ hlt) y a₁ w₁ rfl hy (hfy.st h1)
    exact ⟨e₂,a₂,w₂,hq₂,.of_steps (Steps.trans harr (.one step_inLoop)) harr₂⟩
   | exit id=>exact ⟨_,a₁,w₁,⟨s',l',h1,h2⟩,.pass (x:=.inLoop c) rfl (fun _ _=>.inl (by simp)) harr⟩
   | goto l=>exact ⟨_,a₁,w₁,⟨s',l',h1,h2⟩,.pass (x:=.inLoop c) rfl (fun _ _=>.inl (by simp)) harr⟩
   | ret=>exact ⟨_,a₁,w₁,⟨s',l',h1,h2⟩,.pass (x:=.inLoop c) rfl (fun _ _=>.inl (by simp)) harr⟩
   | panic ch=>exact ⟨_,a₁,w₁,⟨s',l',h1,h2⟩,.pass (x:=.inLoop c) rfl (fun _ _=>.inl (by simp)) harr⟩
   | outgrown=>exact ⟨_,a₁,w₁,⟨s',l',h1,h2⟩,.pass (x:=.inLoop c) rfl (fun _ _=>.inl (by simp)) harr⟩
 obtain ⟨e,a',w',hq,harr⟩:=key _ x0 a w rfl h0 (hf.st hs)
 exact ⟨e,a',w',hq,.of_steps (.one step_loop) harr⟩
def Wr (X:Cx)(c:Code)(Q:Post):Nat→Slots→Blks→Prop
 | 0,_,_=>False
 | n+1,s,l=>Wc X c (thenP (Wr X c Q n) Q) s l
def initS:List Value→Nat→Slots
 | [],_=>[]
 | v::r,i=>(i,v)::initS r (i+1)
theorem look_initS:∀ (vs:List Value) (k i:Nat) (v:Value),look (initS vs k) i=some v→k≤i∧vs[i - k]? = some v
 | [],_,_,_,h=>by cases h
 | u::r,k,i,v,h=>by
  rw [initS,look_cons] at h
  by_cases hi:i=k
  ·subst hi;rw [if_pos rfl] at h;cases h;simp
  ·rw [if_neg hi] at h
   obtain ⟨h1,h2⟩:=look_initS r (k+1) i v h
   refine ⟨by omega,?_⟩
   rw [show i - k=(i - (k+1))+1 by omega]
   simpa using h2
def tupV:List Value→Value
 | [v]=>v
 | vs=>.tuple vs.toArray
end
end Go.Proofs.YtkendlnjaopbeaaGreatDoor
