/- Maps keyed by int: blocks that are maps or iterators;the operations on them. Maps keyed by int: the operations in the walk over lists. Items as bytes,in plain terms. Items that came in: a tag,a body. Items of the walk's own: a slice that nobody else holds,with bodies that stand in blocks of the walk's own. Attributes: what is checked,what is normal. Plain laws. Functions' values that have caught something: made,called. Attributes: kinds and values;find and Match,walked. attr.Match,walked;attributes that came in. attr.fits,walked. attr.Check,walked. Attributes of the walk's own: lists that nobody else holds. attr.Get,attr.Is,slices.Clone of attributes,the laws' sameAttrs and attrs: walked. store.own,walked: a list of attributes of one's own. A store of objects: plain laws. A store in memory;held objects in memory. -/
import Derived.Test.YthigacbelefadaaDoorOwnB
import Derived.MapKept
import Derived.Maps.RangeRun
import Derived.Test.YthigacbelefadaaDoorLwH
import Derived.Test.YthigacbelefadaaDoorCom
import Derived.Test.YthigacbelefadaaDoorTyS
import Derived.Test.YthigacbelefadaaDoorJnAA
import Derived.Test.YthigacbelefadaaDoorJnAC
namespace Go.Proofs.YthigacbelefadaaDoor
open Go.RowKit
set_option linter.unusedVariables false
set_option linter.unusedSimpArgs false
abbrev Ent:=Int×Value×Nat
def entE (x:Ent):MapEntry:=⟨.int .i64 x.1,x.2.1,x.2.2⟩
def entV (x:Ent):Value:=.agg #[.int .i64 x.1,x.2.1,.int .i64 (x.2.2:Int)]
def mapB (m:List Ent)(clock:Nat):Array Value×TypeId:=((m.map entV).toArray,BIG+2 * clock)
def iterB (g since:Nat)(seen:List Nat)(step:Nat):Array Value×TypeId:=
 ((Value.int .i64 (g:Int)::Value.int .i64 (since:Int)::seen.map fun (b:Nat)=>Value.int .i64 (b:Int)).toArray,BIG+2 * step+1)
theorem not_big (n:Nat):Nat.blt (BIG+n) BIG=false:=by
 cases h:Nat.blt (BIG+n) BIG with
 | false=>rfl
 | true=>have:=Nat.le_of_ble_eq_true (show Nat.ble (BIG+n+1) BIG=true from h);omega
theorem toObj_map (m:List Ent)(clock:Nat):toObj (mapB m clock)=.map (m.map entE).toArray clock:=by
 unfold toObj mapB
 have h0:=not_big (2 * clock)
 generalize BIG=B at *
 have h1:B+2 * clock - B=2 * clock:=by omega
 have h2:(2 * clock % 2 == 0)=true:=by simp
 have h3:2 * clock / 2=clock:=by omega
 dsimp only
 rw [h0,h1,h2,h3,cond_false,cond_true]
 congr 1
 rw [List.map_toArray,List.map_map]
 congr 1
theorem toObj_iter (g since:Nat)(seen:List Nat)(step:Nat):toObj (iterB g since seen step)=.mapIter (some g) since seen.toArray step:=by
 unfold toObj iterB
 have h0:=not_big (2 * step+1)
 rw [←Nat.add_assoc] at h0
 generalize BIG=B at *
 have h1:B+2 * step+1 - B=2 * step+1:=by omega
 have h2:((2 * step+1) % 2 == 0)=false:=by simp
 have h3:(2 * step+1) / 2=step:=by omega
 dsimp only
 rw [h0,h1,h2,h3,cond_false,cond_false]
 congr 1
 simp [unV,List.extract]
 simp [Function.comp_def,unV]
def mfind (k:Int):List Ent→Nat→Option (Nat×Value)
 | [],_=>none
 | x::r,i=>bif k == x.1 then some (i,x.2.1) else mfind k r (i+1)
def mget (m:List Ent)(k:Int):Option Value:=(mfind k m 0).map (·.2)
def mset (m:List Ent)(k:Int)(v:Value)(clock:Nat):List Ent×Nat:=match mfind k m 0 with
 | some (i,_)=>(m.modify i fun x=>(k,v,x.2.2),clock)
 | none=>(m++[(k,v,clock)],clock+1)
def mdel (m:List Ent)(k:Int):List Ent:=match mfind k m 0 with
 | some (i,_)=>m.eraseIdx i
 | none=>m
theorem findNow_m {q:IntKind}(k:Int):∀ (m:List Ent) (i:Nat),Instr.findNow (.int q) (.int .i64 k) (m.map entE) i=some (mfind k m i)
 | [],_=>rfl
 | x::r,i=>by
  show (match Instr.sameNow (.int q) (.int .i64 k) (.int .i64 x.1) with|some true=>some (some (i,x.2.1))|some false=>Instr.findNow (.int q) (.int .i64 k) (r.map entE) (i+1)|none=>none)=_
  have:Instr.sameNow (.int q) (.int .i64 k) (.int .i64 x.1)=some (k == x.1):=by simp [Instr.sameNow]
  rw [this,mfind]
  cases k == x.1 with
  | true=>rfl
  | false=>exact findNow_m k r (i+1)
section
variable {P:Program}{w:World}{mt kt et b clock:Nat}{m:List Ent}{k:Int}
theorem run_findKey_m (hd:P.underlying kt=some (.int .i64))(k:Int)(m:List Ent):(Instr.findKey kt (.int .i64 k) (m.map entE)).run P w=.ok (mfind k m 0) w:=
 MapKept.run_findKey hd (findNow_m k m 0)
theorem run_check_m (hd:P.underlying kt=some (.int .i64))(k:Int)(e:Bool):(Instr.checkKey e 10000 kt (.int .i64 k)).run P w=.ok () w:=by
 unfold Instr.checkKey
 simp [Sem.run_bind,run_underlying hd,Result.andThen]
theorem run_lookup_m (ht:P.underlying mt=some (.map kt et))(hd:P.underlying kt=some (.int .i64)){z:Value}(hz:(zeroValue et).run P w=.ok z w)(hb:w.heap[b]? = some (.map (m.map entE).toArray clock)) :
  (Instr.lookup mt (.map (some b)) (.int .i64 k) true).run P w=.ok (.tuple #[(mget m k).getD z,.bool (mget m k).isSome]) w:=by
 unfold mget
 have hf:=run_findKey_m (P:=P) (w:=w) hd k m
 cases h:mfind k m 0 with
 | none=>rw [h] at hf;simp [Instr.lookup,run_underlying ht,MapKept.run_getObj_map hb,run_check_m hd,hf,hz,Result.andThen]
 | some x=>rw [h] at hf;simp [Instr.lookup,run_underlying ht,MapKept.run_getObj_map hb,run_check_m hd,hf,Result.andThen]
theorem mfind_get {k:Int}:∀ {m:List Ent} {i j:Nat} {v:Value},mfind k m i=some (j,v)→∃ n x,j=i+n∧m[n]? = some x∧x.1=k∧x.2.1=v
 | [],_,_,_,h=>by cases h
 | y::r,i,j,v,h=>by
  rw [mfind] at h
  cases e:k == y.1 with
  | true=>
   rw [e,cond_true] at h
   cases h
   exact ⟨0,y,rfl,rfl,(by simpa using e:k=y.1).symm,rfl⟩
  | false=>
   rw [e,cond_false] at h
   obtain ⟨n,x,h1,h2,h3,h4⟩:=mfind_get h
   exact ⟨n+1,x,by omega,by simpa using h2,h3,h4⟩
theorem mfind_none {k:Int}:∀ {m:List Ent} {i:Nat},mfind k m i=none→∀ x∈m,x.1≠k
 | [],_,_,x,hx=>by cases hx
 | y::r,i,h,x,hx=>by
  rw [mfind] at h
  cases e:k == y.1 with
  | true=>rw [e,cond_true] at h;cases h
  | false=>
   rw [e,cond_false] at h
   rcases List.mem_cons.1 hx with rfl|hx
   ·intro he;rw [he] at e;simp at e
   ·exact mfind_none h x hx
theorem run_update_m {v:Value}(ht:P.underlying mt=some (.map kt et))(hd:P.underlying kt=some (.int .i64))(hb:w.heap[b]? = some (.map (m.map entE).toArray clock)) :
  (Instr.mapUpdate mt (.map (some b)) (.int .i64 k) v).run P w=.ok () {w with heap:=w.heap.setIfInBounds b (.map ((mset m k v clock).1.map entE).toArray (mset m k v clock).2)}:=by
 have hf:=run_findKey_m (P:=P) (w:=w) hd k m
 unfold mset
 cases h:mfind k m 0 with
 | none=>rw [h] at hf;simp [Instr.mapUpdate,run_underlying ht,MapKept.run_getObj_map hb,run_check_m hd,hf,MapKept.run_setObj_map _ hb,Result.andThen,entE]
 | some x=>
  obtain ⟨j,u⟩:=x
  rw [h] at hf
  obtain ⟨n,x,rfl,h2,h3,h4⟩:=mfind_get h
  rw [Nat.zero_add] at h hf
  have hk:(Instr.keyThatStays (.int .i64 k) (.int .i64 k)).run P w=.ok (.int .i64 k) w:=by simp [Instr.keyThatStays,Instr.sameBits,Sem.run]
  have hm:((m.map entE).toArray.modify n fun e=>{e with key:=.int .i64 k,val:=v})=((m.modify n fun x=>(k,v,x.2.2)).map entE).toArray:=by
   apply Array.ext'
   rw [Array.toList_modify]
   dsimp only
   apply List.ext_getElem?
   intro i
   simp only [List.getElem?_modify,List.getElem?_map]
   cases m[i]? with
   | none=>rfl
   | some y=>by_cases e:n=i <;> simp [e,entE]
  have hr:(Instr.mapUpdate mt (.map (some b)) (.int .i64 k) v).run P w=.ok () {w with heap:=w.heap.setIfInBounds b (.map ((m.map entE).toArray.modify n fun e=>{e with key:=.int .i64 k,val:=v}) clock)}:=by
   have hkk:(((m.map entE).toArray[n]?).map (·.key)).getD (.int .i64 k)=.int .i64 k:=by simp [h2,h3,entE]
   simp only [Instr.mapUpdate,Sem.run_bind,run_underlying ht,MapKept.run_getObj_map hb,run_check_m hd,hf,Result.andThen,Nat.zero_add,hkk,hk,MapKept.run_setObj_map _ hb]
  rw [hr,hm]
  dsimp only
  rw [Nat.zero_add]
theorem er_map:∀ (m:List Ent) (n:Nat),(m.eraseIdx n).map entE=(m.map entE).eraseIdx n
 | [],n=>rfl
 | x::r,0=>rfl
 | x::r,n+1=>by simp [er_map r n]
theorem run_delete_m {ty:TypeId}(ht:P.underlying mt=some (.map kt et))(hd:P.underlying kt=some (.int .i64))(hb:w.heap[b]? = some (.map (m.map entE).toArray clock)) :
  (Builtin.delete_ #[mt,kt] ty #[.map (some b),.int .i64 k]).run P w=.ok (.tuple #[]) {w with heap:=w.heap.setIfInBounds b (.map ((mdel m k).map entE).toArray clock)}:=by
 have hf:=run_findKey_m (P:=P) (w:=w) hd k m
 unfold mdel
 cases h:mfind k m 0 with
 | none=>rw [h] at hf;simp [Builtin.delete_,run_underlying ht,MapKept.run_getObj_map hb,run_check_m hd,hf,MapKept.run_setObj_map _ hb,Result.andThen]
 | some x=>
  obtain ⟨j,u⟩:=x
  rw [h] at hf
  obtain ⟨n,x,rfl,h2,h3,h4⟩:=mfind_get h
  have hlt:n<m.length:=(List.getElem?_eq_some_iff.1 h2).1
  rw [Nat.zero_add] at h hf
  have hm:(m.map entE).toArray.eraseIdxIfInBounds n=((m.eraseIdx n).map entE).toArray:=by
   unfold Array.eraseIdxIfInBounds
   rw [dif_pos (by simpa using hlt)]
   apply Array.ext'
   simp only [List.eraseIdx_toArray,Array.toList_eraseIdx]
   exact (er_map m n).symm
  have hr:(Builtin.delete_ #[mt,kt] ty #[.map (some b),.int .i64 k]).run P w=.ok (.tuple #[]) {w with heap:=w.heap.setIfInBounds b (.map ((m.map entE).toArray.eraseIdxIfInBounds n) clock)}:=by
   simp [Builtin.delete_,run_underlying ht,MapKept.run_getObj_map hb,run_check_m hd,hf,MapKept.run_setObj_map _ hb,Result.andThen]
  rw [hr,hm]
  dsimp only
  rw [Nat.zero_add]
theorem run_clear_m {ty:TypeId}(ht:P.underlying mt=some (.map kt et))(hb:w.heap[b]? = some (.map (m.map entE).toArray clock)) :
  (Builtin.clear_ #[mt] ty #[.map (some b)]).run P w=.ok (.tuple #[]) {w with heap:=w.heap.setIfInBounds b (.map (([]:List Ent).map entE).toArray clock)}:=by
 simp [Builtin.clear_,run_underlying ht,MapKept.run_getObj_map hb,MapKept.run_setObj_map _ hb,Result.andThen]
theorem run_len_m {ty:TypeId}(ht:P.underlying mt=some (.map kt et))(hb:w.heap[b]? = some (.map (m.map entE).toArray clock)) :
  (Builtin.len_ #[mt] ty #[.map (some b)]).run P w=.ok (.int .i64 (m.length:Int)) w:=by
 simp [Builtin.len_,run_underlying ht,MapKept.run_getObj_map hb,Result.andThen,goInt]
end
end Go.Proofs.YthigacbelefadaaDoor
namespace Go.Proofs.YthigacbelefadaaDoor
open Go.RowKit
set_option linter.unusedVariables false
set_option linter.unusedSimpArgs false
theorem Mem.updO {X:Cx}{l l':Blks}{w:World}{n:Nat}{x y:Array Value×TypeId}(h:Mem X l w)(ha:At l n x y l'):Mem X l' {w with heap:=w.heap.setIfInBounds n (toObj y)}:=by
 have hg:=h.cls.now n x.1 x.2 (ha.now h.nd)
 have hlt:=blk_lt hg
 have hoth:∀ k,k≠n→(w.heap.setIfInBounds n (toObj y))[k]? = w.heap[k]?:=fun k hk=>by simp [Ne.symm hk]
 refine ⟨by rw [ha.keys];exact h.nd,⟨h.cls.os,h.cls.tape,h.cls.output,by simpa using h.cls.size,fun k hk hm=>?_,fun k d u hm=>?_⟩,fun k hk=>h.fresh k (by rw [←ha.keys];exact hk)⟩
 ·rw [hoth k (fun e=>hm (by subst e;exact h.fresh k ha.mem hk))]
  exact h.cls.old k hk hm
 ·rw [ha.put h.nd k] at hm
  split at hm
  ·rename_i he;cases hm;subst he;simp [hlt]
  ·rename_i hne
   rw [hoth k hne];exact h.cls.now k d u hm
theorem Mem.map {X:Cx}{l l':Blks}{w:World}{b clock:Nat}{m:List Ent}{y:Array Value×TypeId}(h:Mem X l w)(ha:At l b (mapB m clock) y l'):w.heap[b]? = some (.map (m.map entE).toArray clock):=
 (h.cls.now b _ _ (ha.now h.nd)).trans (congrArg some (toObj_map m clock))
section
variable {X:Cx}{s:Slots}{l:Blks}{o:Oper}{v:Value}{Q:Post}{ops:Array Oper}{r:List Oper}
theorem wl_obj {l':Blks}{s':Slots}{v:Value}(hg:gd s ops o=some true)(hd:dOk X.N o.dst=true)(hv:∀ a w,Env X.N s a→Mem X l w→∃ w',(execOp a.eval o).run X.P w=.ok (.value v) w'∧Mem X l' w')(h:Wl X ops Q r s' l')(hs':sputO s o.dst v=s'):Wl X ops Q (o::r) s l:=fun a w hs=>by
 subst hs'
 have hw:=gd_wanted hs.env hg
 unfold wpList
 rw [if_pos hw]
 refine .inl ?_
 unfold Oper.wp
 obtain ⟨w',h1,h2⟩:=hv a w hs.env hs.mem
 rw [h1]
 exact h _ _ ⟨hs.env.put hd _,h2⟩
theorem rd_lookup {x y:Operand}{mt kt et b clock:Nat}{m:List Ent}{k:Int}{z:Value}(ho:o.op=.lookup mt x y true)(hx:val s x=some (.map (some b)))(hy:val s y=some (.int .i64 k))[ht:UT X.P mt (.map kt et)][hd:UT X.P kt (.int .i64)][hz:ZR X.P et z]
  (ha:At l b (mapB m clock) (mapB m clock) l:=by repeat (first|exact At.here|apply At.there)):RdV X s l o (.tuple #[(mget m k).getD z,.bool (mget m k).isSome]):=fun a w he hm=>by
 simp only [execOp,ho,he.eval hx,he.eval hy,Sem.run_bind,run_lookup_m ht.out hd.out (hz.run w) (hm.map ha),Result.andThen_ok,Sem.run_pure]
theorem rd_lookupT {x y:Operand}{mt kt et b clock:Nat}{m:List Ent}{k:Int}{z u:Value}(ho:o.op=.lookup mt x y true)(hx:val s x=some (.map (some b)))(hy:val s y=some (.int .i64 k))[ht:UT X.P mt (.map kt et)][hd:UT X.P kt (.int .i64)][hz:ZR X.P et z]
  (ha:At l b (mapB m clock) (mapB m clock) l:=by repeat (first|exact At.here|apply At.there)) (hu:mget m k=some u:=by with_reducible assumption):RdV X s l o (.tuple #[u,.bool true]):=by
 have h:=rd_lookup (X:=X) (l:=l) (z:=z) ho hx hy ha
 rw [hu] at h
 exact h
theorem rd_lookupF {x y:Operand}{mt kt et b clock:Nat}{m:List Ent}{k:Int}{z:Value}(ho:o.op=.lookup mt x y true)(hx:val s x=some (.map (some b)))(hy:val s y=some (.int .i64 k))[ht:UT X.P mt (.map kt et)][hd:UT X.P kt (.int .i64)][hz:ZR X.P et z]
  (ha:At l b (mapB m clock) (mapB m clock) l:=by repeat (first|exact At.here|apply At.there)) (hu:mget m k=none:=by with_reducible assumption):RdV X s l o (.tuple #[z,.bool false]):=by
 have h:=rd_lookup (X:=X) (l:=l) (z:=z) ho hx hy ha
 rw [hu] at h
 exact h
theorem rd_lenM {c:Call}{x:Operand}{mt kt et b clock:Nat}{m:List Ent}(ho:o.op=.call c)(hc:c.callee=.builtin .len)(hr:c.args=#[x])(ht:c.argTypes=#[mt])(hx:val s x=some (.map (some b)))[hu:UT X.P mt (.map kt et)]
  (ha:At l b (mapB m clock) (mapB m clock) l:=by repeat (first|exact At.here|apply At.there)):RdV X s l o (.int .i64 (m.length:Int)):=fun a w he hm=>by
 unfold execOp
 simp only [ho,resolve,hc,hr,ht,invoke,builtin,Sem.run_bind,Sem.run_pure,Result.andThen_ok,List.map_toArray,List.map_cons,List.map_nil,he.eval hx,run_len_m hu.out (hm.map ha)]
theorem sv_mset {x y u:Operand}{mt kt et b clock:Nat}{m:List Ent}{k:Int}{l':Blks}(ho:o.op=.mapUpdate mt x y u)(hx:val s x=some (.map (some b)))(hy:val s y=some (.int .i64 k))(hu:val s u=some v)[ht:UT X.P mt (.map kt et)][hd:UT X.P kt (.int .i64)]
  (ha:At l b (mapB m clock) (mapB (mset m k v clock).1 (mset m k v clock).2) l':=by repeat (first|exact At.here|apply At.there)):Sv X s l o l':=fun a w he hm=>by
 have h:=hm.updO ha
 rw [toObj_map] at h
 refine ⟨_,?_,h⟩
 simp only [execOp,ho,he.eval hx,he.eval hy,he.eval hu,Sem.run_bind,run_update_m ht.out hd.out (hm.map ha),Result.andThen_ok,Sem.run_pure]
theorem wl_mset {x y u:Operand}{mt kt et b clock:Nat}{m:List Ent}{k:Int}{l':Blks}{s':Slots}(hg:gd s ops o=some true)(hd:dOk X.N o.dst=true)(ho:o.op=.mapUpdate mt x y u)(hx:val s x=some (.map (some b)))(hy:val s y=some (.int .i64 k))(hu:val s u=some v)[ht:UT X.P mt (.map kt et)][hk:UT X.P kt (.int .i64)](h:Wl X ops Q r s' l')
  (ha:At l b (mapB m clock) (mapB (mset m k v clock).1 (mset m k v clock).2) l':=by repeat (first|exact At.here|apply At.there)) (hs':sputO s o.dst undef=s':=by (try dsimp only [sputO,sput,Nat.reduceBEq,cond_true,cond_false,beq_self_eq_true]);first|done|exact rfl):Wl X ops Q (o::r) s l:=
 wl_store hg hd (sv_mset ho hx hy hu ha) h hs'
theorem wl_mdel {x y:Operand}{mt kt et b clock:Nat}{m:List Ent}{k:Int}{l':Blks}{s':Slots}(hg:gd s ops o=some true)(hd:dOk X.N o.dst=true)(ho:o.op=.call {callee:=.builtin .delete,args:=#[x,y],argTypes:=#[mt,kt]})(hx:val s x=some (.map (some b)))(hy:val s y=some (.int .i64 k))[ht:UT X.P mt (.map kt et)][hk:UT X.P kt (.int .i64)](h:Wl X ops Q r s' l')
  (ha:At l b (mapB m clock) (mapB (mdel m k) clock) l':=by repeat (first|exact At.here|apply At.there)) (hs':sputO s o.dst (.tuple #[])=s':=by (try dsimp only [sputO,sput,Nat.reduceBEq,cond_true,cond_false,beq_self_eq_true]);first|done|exact rfl):Wl X ops Q (o::r) s l:=
 wl_obj hg hd (fun a w he hm=>by
  have h:=hm.updO ha
  rw [toObj_map] at h
  refine ⟨_,?_,h⟩
  unfold execOp
  simp only [ho,resolve,invoke,builtin,Sem.run_bind,Sem.run_pure,Result.andThen_ok,List.map_toArray,List.map_cons,List.map_nil,he.eval hx,he.eval hy,run_delete_m ht.out hk.out (hm.map ha)]) h hs'
theorem wl_mclear {x:Operand}{mt kt et b clock:Nat}{m:List Ent}{l':Blks}{s':Slots}(hg:gd s ops o=some true)(hd:dOk X.N o.dst=true)(ho:o.op=.call {callee:=.builtin .clear,args:=#[x],argTypes:=#[mt]})(hx:val s x=some (.map (some b)))[ht:UT X.P mt (.map kt et)](h:Wl X ops Q r s' l')
  (ha:At l b (mapB m clock) (mapB [] clock) l':=by repeat (first|exact At.here|apply At.there)) (hs':sputO s o.dst (.tuple #[])=s':=by (try dsimp only [sputO,sput,Nat.reduceBEq,cond_true,cond_false,beq_self_eq_true]);first|done|exact rfl):Wl X ops Q (o::r) s l:=
 wl_obj hg hd (fun a w he hm=>by
  have h:=hm.updO ha
  rw [toObj_map] at h
  refine ⟨_,?_,h⟩
  unfold execOp
  simp only [ho,resolve,invoke,builtin,Sem.run_bind,Sem.run_pure,Result.andThen_ok,List.map_toArray,List.map_cons,List.map_nil,he.eval hx,run_clear_m ht.out (hm.map ha)]) h hs'
theorem wl_mmap {mt:Nat}{s':Nat→Slots}(hg:gd s ops o=some true)(hd:dOk X.N o.dst=true)(ho:o.op=.makeMap mt none)
  (h:∀ n,X.W.heap.size≤n→Wl X ops Q r (s' n) ((n,mapB [] 0)::l)) (hs':∀ n,sputO s o.dst (.map (some n))=s' n:=by intro _;(try dsimp only [sputO,sput,Nat.reduceBEq,cond_true,cond_false,beq_self_eq_true]);first|done|exact rfl):Wl X ops Q (o::r) s l:=fun a w hs=>by
 obtain rfl:(fun n=>sputO s o.dst (.map (some n)))=s':=funext hs'
 have hw:=gd_wanted hs.env hg
 unfold wpList
 rw [if_pos hw]
 refine .inl ?_
 unfold Oper.wp
 have hr:(execOp a.eval o).run X.P w=.ok (.value (.map (some w.heap.size))) (w.alloc (.map #[] 0)):=by
  simp [execOp,ho,Instr.makeMap,Sem.run_bind,go_sem]
 rw [hr]
 have h1:=hs.mem.newO (mapB [] 0)
 rw [toObj_map] at h1
 exact h w.heap.size hs.mem.cls.size _ _ ⟨hs.env.put hd _,h1⟩
structure MOk (m:List Ent)(clock:Nat):Prop where
 lt:∀ x∈m,x.2.2<clock
 nd:(m.map (·.2.2)).Nodup
 keys:(m.map (·.1)).Nodup
theorem wl_range {x:Operand}{mt kt et b clock:Nat}{m:List Ent}{s':Nat→Slots}(hg:gd s ops o=some true)(hd:dOk X.N o.dst=true)(ho:o.op=.range mt x)(hx:val s x=some (.map (some b)))[ht:UT X.P mt (.map kt et)]
  (h:∀ n,X.W.heap.size≤n→Wl X ops Q r (s' n) ((n,iterB b clock [] clock)::l)) (ha:At l b (mapB m clock) (mapB m clock) l:=by repeat (first|exact At.here|apply At.there))
  (hs':∀ n,sputO s o.dst (ptr n)=s' n:=by intro _;(try dsimp only [sputO,sput,Nat.reduceBEq,cond_true,cond_false,beq_self_eq_true]);first|done|exact rfl):Wl X ops Q (o::r) s l:=fun a w hs=>by
 obtain rfl:(fun n=>sputO s o.dst (ptr n))=s':=funext hs'
 have hw:=gd_wanted hs.env hg
 unfold wpList
 rw [if_pos hw]
 refine .inl ?_
 unfold Oper.wp
 have hb:=hs.mem.map ha
 have hr:(execOp a.eval o).run X.P w=.ok (.value (ptr w.heap.size)) (w.alloc (.mapIter (some b) clock #[] clock)):=by
  have h0:(Instr.range mt (.map (some b))).run X.P w=.ok (ptr w.heap.size) (w.alloc (.mapIter (some b) clock #[] clock)):=by
   simp [Instr.range,Sem.run_bind,run_underlying ht.out,MapKept.run_getObj_map hb,Result.andThen,go_sem]
  simp only [execOp,ho,hs.env.eval hx,Sem.run_bind,h0,Result.andThen_ok,Sem.run_pure]
 rw [hr]
 have h1:=hs.mem.newO (iterB b clock [] clock)
 rw [toObj_iter] at h1
 exact h w.heap.size hs.mem.cls.size _ _ ⟨hs.env.put hd _,h1⟩
theorem Mem.iter {X:Cx}{l l':Blks}{w:World}{n b since step:Nat}{seen:List Nat}{y:Array Value×TypeId}(h:Mem X l w)(ha:At l n (iterB b since seen step) y l'):w.heap[n]? = some (.mapIter (some b) since seen.toArray step):=
 (h.cls.now n _ _ (ha.now h.nd)).trans (congrArg some (toObj_iter b since seen step))
theorem wl_next {x:Operand}{b n clock:Nat}{m:List Ent}{seen:List Nat}{l':Nat→Blks}{s0:Slots}{s1:Ent→Slots}(hg:gd s ops o=some true)(hd:dOk X.N o.dst=true)(ho:o.op=.next x false)(hx:val s x=some (ptr n))(hm:MOk m clock)
  (h0:(∀ y∈m,y.2.2∈seen)→Wl X ops Q r s0 l) (h1:∀ y,y∈m→y.2.2∉seen→Wl X ops Q r (s1 y) (l' y.2.2))
  (hb:At l b (mapB m clock) (mapB m clock) l:=by repeat (first|exact At.here|apply At.there)) (ha:∀ c,At l n (iterB b clock seen clock) (iterB b clock (seen++[c]) clock) (l' c):=by intro _;repeat (first|exact At.here|apply At.there))
  (hs0:sputO s o.dst (.tuple #[.bool false])=s0:=by (try dsimp only [sputO,sput,Nat.reduceBEq,cond_true,cond_false,beq_self_eq_true]);first|done|exact rfl)
  (hs1:∀ y,sputO s o.dst (.tuple #[.bool true,.int .i64 y.1,y.2.1])=s1 y:=by intro _;(try dsimp only [sputO,sput,Nat.reduceBEq,cond_true,cond_false,beq_self_eq_true]);first|done|exact rfl):Wl X ops Q (o::r) s l:=fun a w hs=>by
 obtain rfl:(fun y=>sputO s o.dst (.tuple #[.bool true,.int .i64 y.1,y.2.1]))=s1:=funext hs1
 subst hs0
 have hw:=gd_wanted hs.env hg
 unfold wpList
 rw [if_pos hw]
 refine .inl ?_
 unfold Oper.wp
 have hbm:=hs.mem.map hb
 have hit:=hs.mem.iter (ha 0)
 have hlo:∀ e∈(leftOf (m.map entE).toArray seen.toArray).toList,∃ y∈m,y.2.2∉seen∧e=entE y:=fun e he=>by
  unfold leftOf at he
  simp only [Array.toList_filter,List.mem_filter,List.mem_map] at he
  obtain ⟨⟨y,hy,rfl⟩,hn⟩:=he
  exact ⟨y,hy,by simpa [entE] using hn,rfl⟩
 rcases run_next_at (P:=X.P) w o.type n b clock clock seen.toArray (m.map entE).toArray clock hit hbm (fun e he=>by simp only [List.mem_map] at he;obtain ⟨y,hy,rfl⟩:=he;exact hm.lt y hy) (Nat.le_refl _) with ⟨h2,h3⟩ | ⟨e,h2,w1,h3,h4⟩
 ·have hr:(execOp a.eval o).run X.P w=.ok (.value (.tuple #[.bool false])) w:=by
   simp only [execOp,ho,hs.env.eval hx,Sem.run_bind,ptr,h3,Result.andThen_ok,Sem.run_pure]
  rw [hr]
  refine h0 (fun y hy=>?_) _ _ ⟨hs.env.put hd _,hs.mem⟩
  have h5:leftOf (m.map entE).toArray seen.toArray=#[]:=Array.eq_empty_of_size_eq_zero h2
  unfold leftOf at h5
  rw [Array.filter_eq_empty_iff] at h5
  have:=h5 (entE y) (by simp;exact ⟨_,_,_,hy,rfl⟩)
  simpa [entE] using this
 ·obtain ⟨y,hy,hn,rfl⟩:=hlo e h2
  have hr:(execOp a.eval o).run X.P w=.ok (.value (.tuple #[.bool true,.int .i64 y.1,y.2.1])) (ChangeMaps.setBlock w1 n (.mapIter (some b) clock (seen++[y.2.2]).toArray clock)):=by
   simp only [execOp,ho,hs.env.eval hx,Sem.run_bind,ptr,h4,Result.andThen_ok,Sem.run_pure]
   simp [entE]
  rw [hr]
  have hm1:Mem X l w1:=by
   rcases h3 with rfl|rfl
   ·exact hs.mem
   ·exact hs.mem.drew
  have h6:=hm1.updO (ha y.2.2)
  rw [toObj_iter] at h6
  exact h1 y hy hn _ _ ⟨hs.env.put hd _,h6⟩
theorem rd_entry {x:Operand}{b n since clock c:Nat}{m:List Ent}{seen:List Nat}{y:Ent}(ho:o.op=.entry x)(hx:val s x=some (ptr n))
  (hb:At l b (mapB m clock) (mapB m clock) l:=by repeat (first|exact At.here|apply At.there)) (ha:At l n (iterB b since (seen++[y.2.2]) clock) (iterB b since (seen++[y.2.2]) clock) l:=by repeat (first|exact At.here|apply At.there)) (hm:MOk m clock:=by with_reducible assumption) (hy:y∈m:=by with_reducible assumption):RdV X s l o (.tuple #[.int .i64 y.1,y.2.1]):=fun a w he hmem=>by
 have hit:=hmem.iter ha
 have h1:=run_entry_at (P:=X.P) w n b since seen.toArray (m.map entE).toArray clock (entE y) (by rw [hit];simp [entE]) (hmem.map hb) (by simp;exact ⟨_,_,_,hy,rfl⟩) (by
  have:=hm.nd
  simpa [entE,Function.comp_def] using this)
 simp only [execOp,ho,he.eval hx,Sem.run_bind,ptr,h1,Result.andThen_ok,Sem.run_pure]
 rfl
theorem rd_entryK {x:Operand}{b n since clock c:Nat}{m:List Ent}{seen:List Nat}{k:Int}{u:Value}(ho:o.op=.entry x)(hx:val s x=some (ptr n))
  (hb:At l b (mapB m clock) (mapB m clock) l:=by repeat (first|exact At.here|apply At.there)) (ha:At l n (iterB b since (seen++[c]) clock) (iterB b since (seen++[c]) clock) l:=by repeat (first|exact At.here|apply At.there)) (hm:MOk m clock:=by with_reducible assumption) (hy:(k,u,c)∈m:=by with_reducible assumption):RdV X s l o (.tuple #[.int .i64 k,u]):=
 rd_entry (c:=0) (y:=(k,u,c)) ho hx hb ha hm hy
end
section
variable {X:Cx}{s:Slots}{l:Blks}{Q:Post}{ops:Array Oper}{r:List Oper}{d:Option Tmp}{ty:TypeId}{p:String}{af:Array Edge}{g:Option (Nat×Bool)}
theorem sel_lookup {t:Nat}{x y:Operand}{b:Bool}(h:Wl X ops Q (⟨d,.lookup t x y b,ty,p,af,g⟩::r) s l):Wl X ops Q (⟨d,.lookup t x y b,ty,p,af,g⟩::r) s l:=h
theorem sel_mapUpdate {t:Nat}{x y z:Operand}(h:Wl X ops Q (⟨d,.mapUpdate t x y z,ty,p,af,g⟩::r) s l):Wl X ops Q (⟨d,.mapUpdate t x y z,ty,p,af,g⟩::r) s l:=h
theorem sel_makeMap {t:Nat}{x:Option Operand}(h:Wl X ops Q (⟨d,.makeMap t x,ty,p,af,g⟩::r) s l):Wl X ops Q (⟨d,.makeMap t x,ty,p,af,g⟩::r) s l:=h
theorem sel_range {t:Nat}{x:Operand}(h:Wl X ops Q (⟨d,.range t x,ty,p,af,g⟩::r) s l):Wl X ops Q (⟨d,.range t x,ty,p,af,g⟩::r) s l:=h
theorem sel_next {x:Operand}{b:Bool}(h:Wl X ops Q (⟨d,.next x b,ty,p,af,g⟩::r) s l):Wl X ops Q (⟨d,.next x b,ty,p,af,g⟩::r) s l:=h
theorem sel_entry {x:Operand}(h:Wl X ops Q (⟨d,.entry x,ty,p,af,g⟩::r) s l):Wl X ops Q (⟨d,.entry x,ty,p,af,g⟩::r) s l:=h
end
end Go.Proofs.YthigacbelefadaaDoor
namespace Go.Proofs.YthigacbelefadaaDoor
def headL (tag n:Nat):List Nat:=if n<128 then [tag,n] else if n<256 then [tag,129,n] else [tag,130,n / 256 % 256,n % 256]
def wr1 (x:Nat×List Nat):List Nat:=headL x.1 x.2.length++x.2
def wrL (l:List (Nat×List Nat)):List Nat:=(l.map wr1).flatten
def fitsL (l:List (Nat×List Nat)):Prop:=l.length≤200∧∀ x∈l,x.2.length≤4096
theorem wrL_app (a b:List (Nat×List Nat)):wrL (a++b)=wrL a++wrL b:=by simp [wrL]
theorem wrL_nil:wrL []=[]:=rfl
theorem wrL_one (x:Nat×List Nat):wrL [x]=wr1 x:=by simp [wrL]
theorem wrL_snoc {l:List (Nat×List Nat)}{i:Nat}{x:Nat×List Nat}(h:l[i]? = some x):wrL (l.take (i+1))=wrL (l.take i)++wr1 x:=by
 rw [List.take_add_one,h,wrL_app]
 simp [wrL_one]
theorem headL_len (t n:Nat):(headL t n).length≤4∧2≤(headL t n).length:=by
 unfold headL;split <;> (try split) <;> simp
theorem wr1_len (x:Nat×List Nat):(wr1 x).length≤x.2.length+4:=by
 have:=(headL_len x.1 x.2.length).1
 simp only [wr1,List.length_append];omega
theorem wrL_len:∀ {l:List (Nat×List Nat)},(∀ x∈l,x.2.length≤4096)→(wrL l).length≤4100 * l.length
 | [],_=>by simp [wrL]
 | x::r,h=>by
  have h1:=wr1_len x
  have h2:=h x (by simp)
  have h3:=wrL_len (l:=r) fun y hy=>h y (by simp [hy])
  rw [show x::r=[x]++r from rfl,wrL_app,List.length_append,wrL_one]
  simp only [List.length_append,List.length_cons,List.length_nil]
  omega
theorem wr1_front {x y:Nat×List Nat}(hx:x.2.length≤4096)(hy:y.2.length≤4096){s t:List Nat}(h:wr1 x++s=wr1 y++t):x=y∧s=t:=by
 obtain ⟨a,p⟩:=x
 obtain ⟨b,q⟩:=y
 simp only [wr1] at h hx hy
 have key:a=b∧p.length=q.length∧p++s=q++t:=by
  generalize hn:p.length=n at *
  generalize hm:q.length=m at *
  by_cases n1:n<128 <;> by_cases n2:n<256 <;> by_cases m1:m<128 <;> by_cases m2:m<256 <;> simp [headL,n1,n2,m1,m2] at h <;>
   first|exact ⟨h.1,h.2.1,h.2.2⟩|exact ⟨h.1,by omega,h.2.2.2⟩|(exfalso;omega)
 obtain ⟨rfl,hl,h3⟩:=key
 obtain ⟨rfl,h4⟩:=List.append_inj h3 hl
 exact ⟨rfl,h4⟩
end Go.Proofs.YthigacbelefadaaDoor
namespace Go.Proofs.YthigacbelefadaaDoor
open Go.RowKit
set_option linter.unusedVariables false
abbrev It:=Nat×Value×List Nat
def It.p (x:It):Nat×List Nat:=(x.1,x.2.2)
def itC (x:It):List Value:=[.int .u8 ((x.1:Nat):Int),x.2.1]
def itsC (l:List It):List Value:=(l.map itC).flatten
theorem itsC_len:∀ l:List It,(itsC l).length=l.length * 2
 | []=>rfl
 | x::r=>by
  have:=itsC_len r
  unfold itsC at this ⊢
  simp only [List.map_cons,List.flatten_cons,List.length_append,this,List.length_cons,itC,List.length_nil];omega
theorem itsC_app (a b:List It):itsC (a++b)=itsC a++itsC b:=by simp [itsC]
theorem itsC_get:∀ {l:List It} {i:Nat} {x:It},l[i]? = some x→((itsC l).drop (i * 2)).take 2=[.int .u8 ((x.1:Nat):Int),x.2.1]
 | [],_,_,h=>by simp at h
 | y::r,0,x,h=>by
  simp only [List.getElem?_cons_zero,Option.some.injEq] at h
  subst h
  simp [itsC,itC]
 | y::r,i+1,x,h=>by
  rw [List.getElem?_cons_succ] at h
  have ih:=itsC_get h
  rw [show (i+1) * 2=2+i * 2 by omega,←List.drop_drop]
  have:(itsC (y::r)).drop 2=itsC r:=by simp [itsC,itC]
  rw [this]
  exact ih
structure Its (w:World)(v:Value)(l:List It):Prop where
 cs:Cs w v l.length (itsC l)
 tag:∀ x∈l,x.1<256
 body:∀ x∈l,Cb w x.2.1 x.2.2.length x.2.2
theorem Its.below {w w':World}{v:Value}{l:List It}(h:Its w v l)(hb:Below w.heap.size w w'):Its w' v l:=⟨h.cs.below hb,h.tag,fun x hx=>(h.body x hx).below hb⟩
end Go.Proofs.YthigacbelefadaaDoor
namespace Go.Proofs.YthigacbelefadaaDoor
open Go.RowKit
set_option linter.unusedVariables false
set_option maxRecDepth 100000
class IsF (Φ:outParam (World→Prop))(v:Value)(l:outParam (List It)):Prop where
 cs:CsF Φ v l.length (itsC l)
 out:∀ w,Φ w→Its w v l
theorem Its.old {W:World}{v:Value}{l:List It}(h:Its W v l):IsF (Old W []) v l:=⟨h.cs.old,fun w ho=>
 ⟨h.cs.old.out w ho,h.tag,fun x hx=>⟨(h.body x hx).cs.old.out w ho,(h.body x hx).ok⟩⟩⟩
theorem IsF.csf {Φ:World→Prop}{v:Value}{l:List It}(h:IsF Φ v l):CsF Φ v l.length (itsC l):=h.cs
class VwI (X:Cx)(l:Blks)(v:Value)(its:outParam (List It)):Prop where
 out:∀ w,Mem X l w→Its w v its
instance {X:Cx}{l:Blks}{Φ:World→Prop}{v:Value}{its:List It}[h:IsF Φ v its][h':Hold X l Φ]:VwI X l v its:=⟨fun w hm=>h.out w (h'.out w hm)⟩
def BodI (its:List It)(ob:Blks):Prop:=∀ x∈its,x.1<256∧(BL x.2.2.length x.2.2∧Ln x.2.1 x.2.2.length)∧∀ w,Hd ob w→Cs w x.2.1 x.2.2.length (bl x.2.2)
theorem BodI.nil:BodI [] []:=fun x hx=>by cases hx
theorem Hd.left {a b:Blks}{w:World}(h:Hd (a++b) w):Hd a w:=fun p hp=>h p (List.mem_append_left _ hp)
theorem Hd.right {a b:Blks}{w:World}(h:Hd (a++b) w):Hd b w:=fun p hp=>h p (List.mem_append_right _ hp)
theorem BodI.app {l m:List It}{a b:Blks}(h:BodI l a)(h':BodI m b):BodI (l++m) (a++b):=fun x hx=>by
 rcases List.mem_append.1 hx with hx|hx
 ·obtain ⟨h1,h2,h3⟩:=h x hx;exact ⟨h1,h2,fun w hw=>h3 w hw.left⟩
 ·obtain ⟨h1,h2,h3⟩:=h' x hx;exact ⟨h1,h2,fun w hw=>h3 w hw.right⟩
theorem BodI.one {t:Nat}{v:Value}{e:Nat}{q:List Nat}{oa:Blks}(h:OwnB e v q.length q oa)(ht:t<256):BodI [(t,v,q)] oa:=fun x hx=>by
 simp only [List.mem_singleton] at hx
 subst hx
 exact ⟨ht,⟨h.ok,h.own.ln⟩,fun w hw=>h.own.cs.out w hw⟩
structure OwnI (e:Nat)(v:Value)(its:List It)(oa:Blks):Prop where
 out:∃ oo ob,oa=oo++ob∧OwnL e 2 v its.length (itsC its) oo∧BodI its ob
theorem OwnI.isf {e:Nat}{v:Value}{its:List It}{oa:Blks}(h:OwnI e v its oa):IsF (Hd oa) v its:=by
 obtain ⟨oo,ob,rfl,h1,h2⟩:=h.out
 refine ⟨⟨h1.ln,fun w hw=>h1.cs.out w hw.left⟩,fun w hw=>⟨h1.cs.out w hw.left,fun x hx=>(h2 x hx).1,fun x hx=>⟨(h2 x hx).2.2 w hw.right,(h2 x hx).2.1.1⟩⟩⟩
end Go.Proofs.YthigacbelefadaaDoor
namespace Go.Proofs.YthigacbelefadaaDoor
set_option linter.unusedVariables false
abbrev Ab:=Int×List Nat
def fitsB (x:Ab):Bool:=
 if x.1=1 then decide (x.2.length=1∧1≤x.2.getD 0 0∧x.2.getD 0 0≤4)
 else if x.1=2∨x.1=3 then decide (x.2.length≤32)
 else if x.1=4 then decide (x.2.length≤64)
 else decide (x.2.length=1∧x.2.getD 0 0≤1)
def chkF:List Ab→List Int→Int
 | [],_=>0
 | x::r,s=>if x.1<1∨x.1>18 then 13 else if fitsB x=false then 4 else if x.1∈s then 1 else chkF r (x.1::s)
def chkA (l:List Ab):Int:=if l.length>24 then 2 else chkF l []
structure AbOk (l:List Ab):Prop where
 len:l.length≤24
 each:∀ x∈l,1≤x.1∧x.1≤18∧fitsB x=true
 nd:(l.map (·.1)).Nodup
theorem chkF_zero:∀ (l:List Ab) (s:List Int),chkF l s=0↔(∀ x∈l,1≤x.1∧x.1≤18∧fitsB x=true)∧(l.map (·.1)).Nodup∧∀ x∈l,x.1∉s
 | [],s=>by simp [chkF]
 | x::r,s=>by
  unfold chkF
  by_cases h1:x.1<1∨x.1>18
  ·rw [if_pos h1]
   refine ⟨fun h=>absurd h (by decide),fun h=>?_⟩
   have:=h.1 x (by simp)
   omega
  rw [if_neg h1]
  by_cases h2:fitsB x=false
  ·rw [if_pos h2]
   refine ⟨fun h=>absurd h (by decide),fun h=>?_⟩
   have:=(h.1 x (by simp)).2.2
   rw [h2] at this;cases this
  rw [if_neg h2]
  by_cases h3:x.1∈s
  ·rw [if_pos h3]
   exact ⟨fun h=>absurd h (by decide),fun h=>absurd h3 (h.2.2 x (by simp))⟩
  rw [if_neg h3,chkF_zero r (x.1::s)]
  have h2':fitsB x=true:=by simpa using h2
  constructor
  ·rintro ⟨h4,h5,h6⟩
   refine ⟨fun y hy=>?_,?_,fun y hy=>?_⟩
   ·rcases List.mem_cons.1 hy with rfl|hy
    ·exact ⟨by omega,by omega,h2'⟩
    ·exact h4 y hy
   ·rw [List.map_cons,List.nodup_cons]
    refine ⟨fun hm=>?_,h5⟩
    obtain ⟨y,hy,he⟩:=List.mem_map.1 hm
    exact h6 y hy (by rw [he];exact List.mem_cons_self)
   ·rcases List.mem_cons.1 hy with rfl|hy
    ·exact h3
    ·exact fun hm=>h6 y hy (List.mem_cons_of_mem _ hm)
  ·rintro ⟨h4,h5,h6⟩
   rw [List.map_cons,List.nodup_cons] at h5
   refine ⟨fun y hy=>h4 y (List.mem_cons_of_mem _ hy),h5.2,fun y hy hm=>?_⟩
   rcases List.mem_cons.1 hm with he|hm
   ·exact h5.1 (by rw [←he];exact List.mem_map.2 ⟨y,hy,rfl⟩)
   ·exact h6 y (List.mem_cons_of_mem _ hy) hm
theorem chkA_zero {l:List Ab}:chkA l=0↔AbOk l:=by
 unfold chkA
 by_cases h:l.length>24
 ·rw [if_pos h]
  exact ⟨fun h'=>absurd h' (by decide),fun h'=>absurd h'.len (by omega)⟩
 ·rw [if_neg h,chkF_zero]
  exact ⟨fun ⟨h1,h2,_⟩=>⟨by omega,h1,h2⟩,fun ⟨_,h1,h2⟩=>⟨h1,h2,fun x _=>by simp⟩⟩
def Rises (l:List Ab):Prop:=l.Pairwise fun a b=>a.1<b.1
theorem rises_only:∀ {l m:List Ab},Rises l→Rises m→l.Perm m→l=m
 | [],m,_,_,h=>(List.nil_perm.1 h).symm
 | a::l,[],_,_,h=>absurd h.length_eq (by simp)
 | a::l,b::m,hl,hm,h=>by
  have hl':=List.pairwise_cons.1 hl
  have hm':=List.pairwise_cons.1 hm
  have e:a=b:=by
   have h1:a∈b::m:=h.mem_iff.1 List.mem_cons_self
   have h2:b∈a::l:=h.mem_iff.2 List.mem_cons_self
   rcases List.mem_cons.1 h1 with h1|h1
   ·exact h1
   rcases List.mem_cons.1 h2 with h2|h2
   ·exact h2.symm
   have:=hm'.1 a h1
   have:=hl'.1 b h2
   omega
  subst e
  rw [rises_only hl'.2 hm'.2 (List.Perm.cons_inv h)]
theorem Rises.nodup {l:List Ab}(h:Rises l):(l.map (·.1)).Nodup:=by
 rw [List.nodup_iff_pairwise_ne]
 refine List.Pairwise.map _ (R:=fun a b:Ab=>a.1<b.1) (fun a b hab=>?_) h
 omega
end Go.Proofs.YthigacbelefadaaDoor
namespace Go.Proofs.YthigacbelefadaaDoor
open Go.RowKit
set_option linter.unusedVariables false
set_option linter.unusedSimpArgs false
section
variable {X:Cx}{s:Slots}{l:Blks}{o:Oper}{v:Value}
theorem rd_mkfun {f:Nat}{cs:Array Operand}{us:List Value}(ho:o.op=.makeFunc (.func f) #[] cs)(hu:vals s cs.toList=some us):RdV X s l o (.func (.func f) #[] us.toArray):=rd_val fun a w he hm=>by
 have h:=he.vals hu
 have h2:cs.map a.eval=us.toArray:=by rw [←h];simp [←Array.toList_map]
 have h3:Array.map a.eval (#[]:Array Operand)=#[]:=by simp
 simp only [execOp,ho,Instr.makeFunc,h2,h3,Sem.run_bind,Sem.run_pure,Result.andThen_ok]
theorem rd_callc {c:Call}{f:Nat}{y:Operand}{us vs:List Value}(ho:o.op=.call c)(hc:c.callee=.value y)(hy:val s y=some (.func (.func f) #[] us.toArray))(ha:vals s c.args.toList=some vs)
  (h:∀ w,Mem X l w→Calls X.P f (vs++us).toArray w (Ret v w)) (hk:callOk X.P f=true:=by kernel_rfl):Rd X s l o v:=fun a w he hm=>by
 have h1:=he.vals ha
 have h2:c.args.map a.eval=vs.toArray:=by rw [←h1];simp [←Array.toList_map]
 have e:(execOp a.eval o).run X.P w=(callFunc f (vs++us).toArray).run X.P w:=by
  simp only [execOp,ho,resolve,hc,h2,he.eval hy,Deferred.ofValue]
  simp [invoke]
 rw [e,run_enter hk]
 exact ⟨rfl,h w hm⟩
end
section
variable {X:Cx}{Q:Post}{s:Slots}{l:Blks}{ops:Array Oper}{r:List Oper}{d:Option Tmp}{ty:TypeId}{p:String}{af:Array Edge}{g:Option (Nat×Bool)}
theorem sel_makeFunc {f:Fn}{a b:Array Operand}(h:Wl X ops Q (⟨d,.makeFunc f a b,ty,p,af,g⟩::r) s l):Wl X ops Q (⟨d,.makeFunc f a b,ty,p,af,g⟩::r) s l:=h
end
end Go.Proofs.YthigacbelefadaaDoor
namespace Go.Proofs.YthigacbelefadaaDoor
open Go.RowKit
set_option linter.unusedVariables false
set_option linter.unusedSimpArgs false
set_option maxRecDepth 100000
abbrev Att:=Int×Value×List Nat
def atC (x:Att):List Value:=[.int .i64 x.1,x.2.1]
def atsC (l:List Att):List Value:=(l.map atC).flatten
theorem atsC_len:∀ l:List Att,(atsC l).length=l.length * 2
 | []=>rfl
 | x::r=>by
  have:=atsC_len r
  unfold atsC at this ⊢
  simp only [List.map_cons,List.flatten_cons,List.length_append,this,List.length_cons,atC,List.length_nil];omega
theorem atsC_app (a b:List Att):atsC (a++b)=atsC a++atsC b:=by simp [atsC]
theorem atsC_get:∀ {l:List Att} {i:Nat} {x:Att},l[i]? = some x→((atsC l).drop (i * 2)).take 2=[.int .i64 x.1,x.2.1]
 | [],_,_,h=>by simp at h
 | y::r,0,x,h=>by
  simp only [List.getElem?_cons_zero,Option.some.injEq] at h
  subst h
  simp [atsC,atC]
 | y::r,i+1,x,h=>by
  rw [List.getElem?_cons_succ] at h
  have ih:=atsC_get h
  rw [show (i+1) * 2=2+i * 2 by omega,←List.drop_drop]
  have:(atsC (y::r)).drop 2=atsC r:=by simp [atsC,atC]
  rw [this]
  exact ih
theorem atsC_val {l:List Att}{i:Nat}{x:Att}(h:l[i]? = some x):(atsC l)[i * 2+1]? = some x.2.1:=by
 have:=congrArg (·[1]?) (atsC_get h)
 simpa using this
structure Ats (w:World)(v:Value)(l:List Att):Prop where
 cs:Cs w v l.length (atsC l)
 body:∀ x∈l,Cb w x.2.1 x.2.2.length x.2.2
theorem Ats.below {w w':World}{v:Value}{l:List Att}(h:Ats w v l)(hb:Below w.heap.size w w'):Ats w' v l:=⟨h.cs.below hb,fun x hx=>(h.body x hx).below hb⟩
class AtF (Φ:outParam (World→Prop))(v:Value)(l:outParam (List Att)):Prop where
 cs:CsF Φ v l.length (atsC l)
 out:∀ w,Φ w→Ats w v l
theorem Ats.old {W:World}{v:Value}{l:List Att}(h:Ats W v l):AtF (Old W []) v l:=⟨h.cs.old,fun w ho=>
 ⟨h.cs.old.out w ho,fun x hx=>⟨(h.body x hx).cs.old.out w ho,(h.body x hx).ok⟩⟩⟩
class VwT (X:Cx)(l:Blks)(v:Value)(ts:outParam (List Att)):Prop where
 out:∀ w,Mem X l w→Ats w v ts
instance {X:Cx}{l:Blks}{Φ:World→Prop}{v:Value}{ts:List Att}[h:AtF Φ v ts][h':Hold X l Φ]:VwT X l v ts:=⟨fun w hm=>h.out w (h'.out w hm)⟩
def findN (k:Int):List Att→Nat→Option Nat
 | [],_=>none
 | x::r,i=>if x.1=k then some i else findN k r (i+1)
def findI (l:List Att)(k:Int):Int:=match l.findIdx? (fun x=>x.1 == k) with
 | some i=>(i:Int)
 | none=>-1
def matchB (l ask:List Att):Bool:=ask.all fun x=>match l.find? (fun y=>y.1 == x.1) with
 | some y=>y.2.2 == x.2.2
 | none=>false
theorem match_nil (l:List Att):matchB l []=true:=rfl
theorem match_app (l a b:List Att):matchB l (a++b)=(matchB l a && matchB l b):=by simp [matchB,List.all_append]
theorem match_cons (l:List Att)(x:Att)(r:List Att):matchB l (x::r)=(matchB l [x] && matchB l r):=match_app l [x] r
theorem match_trans {l a b:List Att}(h1:matchB l a=true)(h2:matchB a b=true):matchB l b=true:=by
 unfold matchB at *
 rw [List.all_eq_true] at *
 intro x hx
 have h3:=h2 x hx
 cases hy:a.find? (fun y=>y.1 == x.1) with
 | none=>rw [hy] at h3;cases h3
 | some y=>
  rw [hy] at h3
  have hk:y.1=x.1:=by simpa using List.find?_some hy
  have h4:=h1 y (List.mem_of_find?_eq_some hy)
  rw [hk] at h4
  cases hz:l.find? (fun z=>z.1 == x.1) with
  | none=>rw [hz] at h4;cases h4
  | some z=>
   rw [hz] at h4
   dsimp only at h3 h4 ⊢
   rw [beq_iff_eq] at *
   rw [h4,h3]
theorem findIdx_find {l:List Att}{k:Int}:(∀ i,l.findIdx? (fun x=>x.1 == k)=some i→∃ y,l[i]? = some y∧l.find? (fun x=>x.1 == k)=some y)∧(l.findIdx? (fun x=>x.1 == k)=none→l.find? (fun x=>x.1 == k)=none):=by
 induction l with
 | nil=>exact ⟨fun i h=>by simp at h,fun _=>rfl⟩
 | cons x r ih=>
  by_cases hx:(x.1 == k)=true
  ·refine ⟨fun i h=>?_,fun h=>?_⟩
   ·rw [List.findIdx?_cons,hx] at h
    simp only [if_true,Option.some.injEq] at h
    subst h
    exact ⟨x,rfl,by rw [List.find?_cons,hx]⟩
   ·rw [List.findIdx?_cons,hx] at h;simp at h
  ·have hx':(x.1 == k)=false:=by simpa using hx
   refine ⟨fun i h=>?_,fun h=>?_⟩
   ·rw [List.findIdx?_cons,hx'] at h
    simp only [Bool.false_eq_true,if_false,Option.map_eq_some_iff] at h
    obtain ⟨j,hj,rfl⟩:=h
    obtain ⟨y,h1,h2⟩:=ih.1 j hj
    exact ⟨y,by simpa using h1,by rw [List.find?_cons,hx'];exact h2⟩
   ·rw [List.findIdx?_cons,hx'] at h
    simp only [Bool.false_eq_true,if_false,Option.map_eq_none_iff] at h
    rw [List.find?_cons,hx'];exact ih.2 h
set_option maxHeartbeats 2000000 in
theorem isk_c (w:World){g:Nat}{k z:Int}{v:Value}[One v](h:w.heap[g]? = some (.cells #[.int .i64 k] 3)):Calls Tryd.prog 60 [.agg #[.int .i64 z,v],ptr g].toArray w (Ret (.bool (z == k)) w):=by
 have hc:w.cell? ⟨g,0,none⟩=some (.int .i64 k):=by simp [World.cell?,h]
 clear h
 refine fn_ret (N:=_) Tryd.func60 rfl Tryd.ntmps60 Tryd.results60 (by simp) ?_
 simp only [initS,Nat.reduceAdd,Nat.zero_add]
 repeat' (first|(refine wlS ?_)|(refine wlB ?_)|(refine wlO ?_)|(refine efBnn ?_;intro n hn)|(refine wl_skip rfl rfl ?_)|((with_reducible refine wc_seq ?_);intro K hK)|(refine auC ?_)|(refine wc_cond rfl (fun hc=>?_) (fun hc=>?_))|(refine wc_draw (by kernel_rfl) (by kernel_rfl) (by decide +kernel) ?_;intro w0 hw0 hm0;(try simp only [List.append_eq,List.cons_append,List.nil_append]))|(refine auP ?_)|((refine auR ?_);clear hK K)|(refine auR ?_)|((with_reducible refine hK _ _ ?_);clear hK K)|fail)
 first|refine end_ret (ResP.tmp rfl ResP.nil) ?_|refine end_normal (ResP.tmp rfl ResP.nil) ?_
 first|rfl|(show _=_;rfl)|(simp only [tupV, *];done)
set_option maxHeartbeats 4000000 in
theorem ixf_c (w:World){u:Value}{l:List Att}{g:Nat}{k:Int}(h:Ats w u l)(hg:w.heap[g]? = some (.cells #[.int .i64 k] 3)) :
  Calls Tryd.prog 59 [u,.func (.func 60) #[] [ptr g].toArray].toArray w (Ret (.int .i64 (findI l k)) w):=by
 have i0:=h.cs.old
 have IK:∀ {z:Int} {v:Value} [One v] w',Below w.heap.size w w'→Calls Tryd.prog 60 ([Value.agg #[.int .i64 z,v]]++[ptr g]).toArray w' (Ret (.bool (z == k)) w'):=fun {z v} _ w' hb=>isk_c w' (by rw [hb.block g (blk_lt hg)];exact hg)
 have hl63:l.length≤9223372036854775807:=by obtain ⟨_,_,_,h1,h2,_⟩:=h.cs.ln.out;simp only [maxLen] at h2;omega
 have one:∀ x∈l,One x.2.1:=fun x hx=>by
  haveI:Ln x.2.1 x.2.2.length:=(h.body x hx).cs.ln
  exact inferInstance
 clear h hg
 refine fn_ret (N:=_) Tryd.func59 rfl Tryd.ntmps59 Tryd.results59 (by simp) ?_
 simp only [initS,Nat.reduceAdd,Nat.zero_add]
 repeat' (first|(refine wlS ?_)|(refine wlB ?_)|(refine wlE ?_)|(refine efSvao ?_;intro v oa ho)|(refine wl_skip rfl rfl ?_)|((with_reducible refine wc_seq ?_);intro K hK)|(refine auC ?_)|(refine wc_cond rfl (fun hc=>?_) (fun hc=>?_))|(refine wc_draw (by kernel_rfl) (by kernel_rfl) (by decide +kernel) ?_;intro w0 hw0 hm0;(try simp only [List.append_eq,List.cons_append,List.nil_append]))|(refine auP ?_)|((refine auR ?_);clear hK K)|(refine auR ?_)|((with_reducible refine hK _ _ ?_);clear hK K)|fail)
 refine wc_loop (σ:=Nat) (fun i=>[(0,u),(1,.func (.func 60) #[] [ptr g].toArray),(7,.int .i64 (l.length:Int)),(8,.int .i64 (i:Int))]) (fun _=>[])
  (fun i=>i≤l.length∧∀ j x,j<i→l[j]? = some x→(x.1 == k)=false) (fun i=>l.length - i) 0 ⟨Nat.zero_le _,fun j x hj=>absurd hj (by omega)⟩ (Fits.of ⟨rfl,rfl,rfl,rfl,trivial⟩ .nil rfl) ?_
 rintro i ⟨hi,hno⟩
 by_cases hlt:i<l.length
 ·obtain ⟨⟨z,v,q⟩,hx⟩:∃ x,l[i]? = some x:=⟨l[i],List.getElem?_eq_getElem hlt⟩
  have hget:=atsC_get hx
  have t1:decide ((i:Int)<(l.length:Int))=true:=decide_eq_true (by omega)
  have t2:IntKind.i64.wrap ((i:Int)+1)=((i+1:Nat):Int):=by rw [wrap_i64 _ (by omega) (by omega)];omega
  have j1:(i:Int)<(l.length:Int):=by omega
  haveI:One v:=one _ (List.mem_of_getElem? hx)
  dsimp only at hget
  by_cases hz:(z == k)=true
  ·have IK1:=fun w' hb=>IK (z:=z) (v:=v) w' hb
   rw [hz] at IK1
   have hf:findI l k=(i:Int):=by
    have:l.findIdx? (fun x=>x.1 == k)=some i:=by
     rw [List.findIdx?_eq_some_iff_getElem]
     refine ⟨hlt,?_,fun j hj=>?_⟩
     ·have:=(List.getElem?_eq_some_iff.1 hx).2;rw [this];exact hz
     ·have:=hno j _ hj (List.getElem?_eq_getElem (by omega));simpa using this
    rw [findI,this]
   rw [hf]
   clear IK hno one
   repeat' (first|(refine wlS ?_)|(refine wlB ?_)|((with_reducible refine sel_call ?_);refine wl_rd rfl rfl (rd_callc rfl rfl rfl rfl (fun w hm=>by with_reducible exact IK1 w (hm.below rfl))) ?_)|(refine wlE ?_)|(refine efSvao ?_;intro v oa ho)|(refine wl_skip rfl rfl ?_)|((with_reducible refine wc_seq ?_);intro K hK)|(refine auC ?_)|(refine wc_cond rfl (fun hc=>?_) (fun hc=>?_))|(refine wc_draw (by kernel_rfl) (by kernel_rfl) (by decide +kernel) ?_;intro w0 hw0 hm0;(try simp only [List.append_eq,List.cons_append,List.nil_append]))|(refine auP ?_)|((refine auR ?_);clear hK K)|(refine auR ?_)|((with_reducible refine hK _ _ ?_);clear hK K)|fail)
   first|refine end_ret (ResP.tmp rfl ResP.nil) ?_|refine end_normal (ResP.tmp rfl ResP.nil) ?_
   first|rfl|(show _=_;rfl)|(simp only [tupV, *];done)
  ·have hz':(z == k)=false:=by simpa using hz
   have IK1:=fun w' hb=>IK (z:=z) (v:=v) w' hb
   rw [hz'] at IK1
   clear IK
   repeat' (first|(refine wlS ?_)|(refine wlB ?_)|((with_reducible refine sel_call ?_);refine wl_rd rfl rfl (rd_callc rfl rfl rfl rfl (fun w hm=>by with_reducible exact IK1 w (hm.below rfl))) ?_)|(refine wlE ?_)|(refine efSvao ?_;intro v oa ho)|(refine wl_skip rfl rfl ?_)|((with_reducible refine wc_seq ?_);intro K hK)|(refine auC ?_)|(refine wc_cond rfl (fun hc=>?_) (fun hc=>?_))|(refine wc_draw (by kernel_rfl) (by kernel_rfl) (by decide +kernel) ?_;intro w0 hw0 hm0;(try simp only [List.append_eq,List.cons_append,List.nil_append]))|(refine auP ?_)|((refine auR ?_);clear hK K)|(refine auR ?_)|((with_reducible refine hK _ _ ?_);clear hK K)|fail)
   refine ⟨i+1,⟨hlt,fun j x hj hjx=>?_⟩,by omega,Fits.of ⟨rfl,rfl,rfl,rfl,trivial⟩ .nil rfl⟩
   rcases Nat.lt_or_ge j i with h1|h1
   ·exact hno j x h1 hjx
   ·obtain rfl:j=i:=by omega
    rw [hx] at hjx
    cases hjx
    exact hz'
 ·obtain rfl:i=l.length:=by omega
  have t1:decide ((l.length:Int)<(l.length:Int))=false:=decide_eq_false (by omega)
  have hf:findI l k = -1:=by
   have:l.findIdx? (fun x=>x.1 == k)=none:=by
    rw [List.findIdx?_eq_none_iff]
    intro x hx
    obtain ⟨j,hj,he⟩:=List.mem_iff_getElem.1 hx
    exact hno j x hj (by rw [List.getElem?_eq_getElem hj,he])
   rw [findI,this]
  rw [hf]
  clear IK hno one
  repeat' (first|(refine wlS ?_)|(refine wlB ?_)|(refine wlE ?_)|(refine efSvao ?_;intro v oa ho)|(refine wl_skip rfl rfl ?_)|((with_reducible refine wc_seq ?_);intro K hK)|(refine auC ?_)|(refine wc_cond rfl (fun hc=>?_) (fun hc=>?_))|(refine wc_draw (by kernel_rfl) (by kernel_rfl) (by decide +kernel) ?_;intro w0 hw0 hm0;(try simp only [List.append_eq,List.cons_append,List.nil_append]))|(refine auP ?_)|((refine auR ?_);clear hK K)|(refine auR ?_)|((with_reducible refine hK _ _ ?_);clear hK K)|fail)
  first|refine end_ret (ResP.tmp rfl ResP.nil) ?_|refine end_normal (ResP.tmp rfl ResP.nil) ?_
  first|rfl|(show _=_;rfl)|(simp only [tupV, *];done)
set_option maxHeartbeats 2000000 in
theorem find_c (w:World){u:Value}{l:List Att}{k:Int}(h:Ats w u l):Calls Tryd.prog 44 [u,.int .i64 k].toArray w (Ret (.int .i64 (findI l k)) w):=by
 haveI i0:=h.old
 haveI i1:=h.cs.old
 have IX:∀ {g:Nat} w',Ats w' u l→w'.heap[g]? = some (.cells #[.int .i64 k] 3)→Calls Tryd.prog 59 [u,.func (.func 60) #[] [ptr g].toArray].toArray w' (Ret (.int .i64 (findI l k)) w'):=fun w' h1 h2=>ixf_c w' h1 h2
 clear h
 refine fn_ret (N:=_) Tryd.func44 rfl Tryd.ntmps44 Tryd.results44 (by simp) ?_
 simp only [initS,Nat.reduceAdd,Nat.zero_add]
 repeat' (first|(refine wlS ?_)|(refine wlB ?_)|(refine wlMF ?_)|((with_reducible refine sel_call ?_);refine wl_rd rfl rfl (rd_call rfl rfl rfl (fun w hm=>by with_reducible exact IX w (VwT.out w hm) (Has.sees hm))) ?_)|(refine wlE ?_)|(refine efSvao ?_;intro v oa ho)|(refine efBnn ?_;intro n hn)|(refine wl_skip rfl rfl ?_)|((with_reducible refine wc_seq ?_);intro K hK)|(refine auC ?_)|(refine wc_cond rfl (fun hc=>?_) (fun hc=>?_))|(refine wc_draw (by kernel_rfl) (by kernel_rfl) (by decide +kernel) ?_;intro w0 hw0 hm0;(try simp only [List.append_eq,List.cons_append,List.nil_append]))|(refine auP ?_)|((refine auR ?_);clear hK K)|(refine auR ?_)|((with_reducible refine hK _ _ ?_);clear hK K)|fail)
 first|refine end_ret (ResP.tmp rfl ResP.nil) ?_|refine end_normal (ResP.tmp rfl ResP.nil) ?_
 first|rfl|(show _=_;rfl)|(simp only [tupV, *];done)
end Go.Proofs.YthigacbelefadaaDoor
namespace Go.Proofs.YthigacbelefadaaDoor
open Go.RowKit Go.ChangeShapes Go.WideShapes
set_option linter.unusedVariables false
set_option linter.unusedSimpArgs false
set_option maxRecDepth 100000
theorem match_snoc (l:List Att){ask:List Att}{i:Nat}{x:Att}(h:ask[i]? = some x):matchB l (ask.take (i+1))=(matchB l (ask.take i) && matchB l [x]):=by
 rw [List.take_add_one,h,match_app];rfl
theorem match_split (l:List Att){ask:List Att}{i:Nat}{x:Att}(h:ask[i]? = some x):matchB l ask=(matchB l (ask.take i) && (matchB l [x] && matchB l (ask.drop (i+1)))):=by
 have hi:=(List.getElem?_eq_some_iff.1 h).1
 have e:ask.drop i=x::ask.drop (i+1):=by
  rw [List.drop_eq_getElem_cons hi]
  have:=(List.getElem?_eq_some_iff.1 h).2
  rw [this]
 conv=>lhs;rw [←List.take_append_drop i ask,match_app,e,match_cons]
theorem match_one_none {l:List Att}{x:Att}(h:l.findIdx? (fun y=>y.1 == x.1)=none):matchB l [x]=false:=by
 simp only [matchB,List.all_cons,List.all_nil,Bool.and_true]
 rw [findIdx_find.2 h]
theorem match_one_some {l:List Att}{x y:Att}{j:Nat}(h:l.findIdx? (fun y=>y.1 == x.1)=some j)(hy:l[j]? = some y):matchB l [x]=(y.2.2 == x.2.2):=by
 simp only [matchB,List.all_cons,List.all_nil,Bool.and_true]
 obtain ⟨z,h1,h2⟩:=findIdx_find.1 j h
 rw [hy] at h1
 cases h1
 rw [h2]
section
variable {W:World}
theorem cells_att:Tryd.prog.cellsOf 86=2:=by kernel_rfl
theorem cells_u8a:Tryd.prog.cellsOf 5=1:=by kernel_rfl
theorem cells_inta:Tryd.prog.cellsOf 3=1:=by kernel_rfl
theorem cells_bsa:Tryd.prog.cellsOf 29=1:=by kernel_rfl
theorem rdg_bsa:Rdg Tryd.prog W 29 fun cs b=>∃ v n p,cs=[v]∧Cb W v n p∧n+1≤b:=rdg_bytes (by kernel_rfl) (e:=5) (by kernel_rfl) cells_u8a
theorem rdg_att:Rdg Tryd.prog W 86 fun cs b=>∃ x:Att,cs=atC x∧Cb W x.2.1 x.2.2.length x.2.2∧x.2.2.length+2≤b:=
 (rdg_struct2 Tryd.underlying86 (rdg_int (k:=.i64) (by kernel_rfl)) rdg_bsa).mono fun cs b ⟨b0,b1,hl,h0,h1,hb⟩=>by
  rw [cells_att] at hl
  obtain ⟨c0,c1,rfl⟩:∃ c0 c1,cs=[c0,c1]:=by
   match cs,hl with | [c0,c1],_=>exact ⟨c0,c1,rfl⟩
  dsimp only at h0 h1
  rw [cells_inta] at h0
  rw [cells_bsa] at h1
  obtain ⟨z,hz,hw⟩:=h0
  obtain ⟨v,n,p,hv,hc,hn⟩:=h1
  simp at hz hv
  subst hz;subst hv
  have hlen:=hc.ok.len
  subst hlen
  exact ⟨(z,c1,p),rfl,hc,by dsimp only;omega⟩
theorem open_atts {r:Reach}{b0:Nat}{v:Value}{H:Type}{enc:TypeId×Value→H}{d:DataW H}{q:List MemPlace}(hv:Value.okWide Tryd.prog W r b0 47 v)(h:DataW.Trod enc Tryd.prog W 0 (fun _=>true) true 47 v d q) :
  ∃ l:List Att,Ats W v l∧l.length+1≤Rows.uptoBulk d:=by
 obtain ⟨a,len,cap,rfl⟩:=okWide_slice (e:=86) (by kernel_rfl) hv
 obtain ⟨v',n,cc,h1,h2,h3,h4,h5⟩:=open_cell (r:=r) (b0:=b0) (rdg_slice (e:=86) (by kernel_rfl) cells_att (by decide) rdg_att) rfl h
 cases h1
 have key:∀ l:List (List Value×Nat),(∀ c∈l,(∃ x:Att,c.1=atC x∧Cb W x.2.1 x.2.2.length x.2.2∧x.2.2.length+2≤c.2)∧c.1.length=2)→∃ its:List Att,(l.map (·.1)).flatten=atsC its∧its.length=l.length∧(∀ x∈its,Cb W x.2.1 x.2.2.length x.2.2)∧l.length≤(l.map (·.2)).sum:=by
  intro l
  induction l with
  | nil=>intro _;exact ⟨[],rfl,rfl,by simp,by simp⟩
  | cons c r ih=>
   intro h
   obtain ⟨its,e1,e2,e3,e4⟩:=ih fun d hd=>h d (by simp [hd])
   obtain ⟨⟨x,f1,f2,f4⟩,_⟩:=h c (by simp)
   refine ⟨x::its,?_,by simp [e2],fun y hy=>?_,by simp only [List.map_cons,List.sum_cons,List.length_cons];omega⟩
   ·rw [List.map_cons,List.flatten_cons,e1,f1];simp [atsC]
   ·rcases List.mem_cons.1 hy with rfl|hy
    ·exact f2
    ·exact e3 y hy
 obtain ⟨its,e1,e2,e3,e4⟩:=key cc h3
 rw [e1] at h4
 refine ⟨its,⟨?_,e3⟩,by omega⟩
 rw [e2,h2];exact h4
end
end Go.Proofs.YthigacbelefadaaDoor
namespace Go.Proofs.YthigacbelefadaaDoor
open Go.RowKit
set_option linter.unusedVariables false
set_option linter.unusedSimpArgs false
set_option maxRecDepth 100000
def abs (l:List Att):List Ab:=l.map fun x=>(x.1,x.2.2)
set_option maxHeartbeats 8000000 in
theorem fits_c (w:World)(k:Int){v:Value}{p:List Nat}(h:Cb w v p.length p):Calls Tryd.prog 55 [.agg #[.int .i64 k,v]].toArray w (Ret (.bool (fitsB (k,p))) w):=by
 obtain ⟨pv,cv,rfl,_⟩:=h.cs.ln.out
 have i1:=h.old
 have hb:=h.ok.by'
 obtain ⟨n,hn⟩:∃ n,n=p.length:=⟨_,rfl⟩
 rw [←hn] at i1 ⊢
 clear h
 by_cases k1:k=1
 ·subst k1
  have e1:((1:Int) == 1)=true:=rfl
  by_cases h1:n=1
  ·subst h1
   obtain ⟨b,rfl⟩:=List.length_eq_one_iff.1 hn.symm
   have q1:(((1:Nat):Int) == 1)=true:=rfl
   by_cases h2:1≤b
   ·have q2:decide ((b:Int)≥1)=true:=decide_eq_true (by omega)
    by_cases h3:b≤4
    ·have q3:decide ((b:Int)≤4)=true:=decide_eq_true (by omega)
     have e:fitsB (1,[b])=true:=by simp [fitsB,h2,h3]
     rw [e]
     refine fn_ret (N:=_) Tryd.func55 rfl Tryd.ntmps55 Tryd.results55 (by simp) ?_
     simp only [initS,Nat.reduceAdd,Nat.zero_add]
     repeat' (first|(refine wlS ?_)|(refine wlB ?_)|(refine wlE ?_)|(refine efSvao ?_;intro v oa ho)|(refine efBnn ?_;intro n hn)|(refine wl_skip rfl rfl ?_)|((with_reducible refine wc_seq ?_);intro K hK)|(refine auC ?_)|(refine wc_cond rfl (fun hc=>?_) (fun hc=>?_))|(refine wc_draw (by kernel_rfl) (by kernel_rfl) (by decide +kernel) ?_;intro w0 hw0 hm0;(try simp only [List.append_eq,List.cons_append,List.nil_append]))|(refine auP ?_)|((refine auR ?_);clear hK K)|(refine auR ?_)|((with_reducible refine hK _ _ ?_);clear hK K)|fail)
     first|refine end_ret (ResP.tmp rfl ResP.nil) ?_|refine end_normal (ResP.tmp rfl ResP.nil) ?_
     first|rfl|(show _=_;rfl)|(simp only [tupV, *];done)
    ·have q3:decide ((b:Int)≤4)=false:=decide_eq_false (by omega)
     have e:fitsB (1,[b])=false:=by simp [fitsB,h2,h3]
     rw [e]
     refine fn_ret (N:=_) Tryd.func55 rfl Tryd.ntmps55 Tryd.results55 (by simp) ?_
     simp only [initS,Nat.reduceAdd,Nat.zero_add]
     repeat' (first|(refine wlS ?_)|(refine wlB ?_)|(refine wlE ?_)|(refine efSvao ?_;intro v oa ho)|(refine efBnn ?_;intro n hn)|(refine wl_skip rfl rfl ?_)|((with_reducible refine wc_seq ?_);intro K hK)|(refine auC ?_)|(refine wc_cond rfl (fun hc=>?_) (fun hc=>?_))|(refine wc_draw (by kernel_rfl) (by kernel_rfl) (by decide +kernel) ?_;intro w0 hw0 hm0;(try simp only [List.append_eq,List.cons_append,List.nil_append]))|(refine auP ?_)|((refine auR ?_);clear hK K)|(refine auR ?_)|((with_reducible refine hK _ _ ?_);clear hK K)|fail)
     first|refine end_ret (ResP.tmp rfl ResP.nil) ?_|refine end_normal (ResP.tmp rfl ResP.nil) ?_
     first|rfl|(show _=_;rfl)|(simp only [tupV, *];done)
   ·have q2:decide ((b:Int)≥1)=false:=decide_eq_false (by omega)
    have e:fitsB (1,[b])=false:=by simp [fitsB,h2]
    rw [e]
    refine fn_ret (N:=_) Tryd.func55 rfl Tryd.ntmps55 Tryd.results55 (by simp) ?_
    simp only [initS,Nat.reduceAdd,Nat.zero_add]
    repeat' (first|(refine wlS ?_)|(refine wlB ?_)|(refine wlE ?_)|(refine efSvao ?_;intro v oa ho)|(refine efBnn ?_;intro n hn)|(refine wl_skip rfl rfl ?_)|((with_reducible refine wc_seq ?_);intro K hK)|(refine auC ?_)|(refine wc_cond rfl (fun hc=>?_) (fun hc=>?_))|(refine wc_draw (by kernel_rfl) (by kernel_rfl) (by decide +kernel) ?_;intro w0 hw0 hm0;(try simp only [List.append_eq,List.cons_append,List.nil_append]))|(refine auP ?_)|((refine auR ?_);clear hK K)|(refine auR ?_)|((with_reducible refine hK _ _ ?_);clear hK K)|fail)
    first|refine end_ret (ResP.tmp rfl ResP.nil) ?_|refine end_normal (ResP.tmp rfl ResP.nil) ?_
    first|rfl|(show _=_;rfl)|(simp only [tupV, *];done)
  ·have q1:((n:Int) == 1)=false:=by simpa using (fun h:(n:Int)=1=>h1 (by omega))
   have e:fitsB (1,p)=false:=by simp [fitsB,←hn,h1]
   rw [e]
   refine fn_ret (N:=_) Tryd.func55 rfl Tryd.ntmps55 Tryd.results55 (by simp) ?_
   simp only [initS,Nat.reduceAdd,Nat.zero_add]
   repeat' (first|(refine wlS ?_)|(refine wlB ?_)|(refine wlE ?_)|(refine efSvao ?_;intro v oa ho)|(refine efBnn ?_;intro n hn)|(refine wl_skip rfl rfl ?_)|((with_reducible refine wc_seq ?_);intro K hK)|(refine auC ?_)|(refine wc_cond rfl (fun hc=>?_) (fun hc=>?_))|(refine wc_draw (by kernel_rfl) (by kernel_rfl) (by decide +kernel) ?_;intro w0 hw0 hm0;(try simp only [List.append_eq,List.cons_append,List.nil_append]))|(refine auP ?_)|((refine auR ?_);clear hK K)|(refine auR ?_)|((with_reducible refine hK _ _ ?_);clear hK K)|fail)
   first|refine end_ret (ResP.tmp rfl ResP.nil) ?_|refine end_normal (ResP.tmp rfl ResP.nil) ?_
   first|rfl|(show _=_;rfl)|(simp only [tupV, *];done)
 have e1:(k == 1)=false:=by simpa using k1
 by_cases k2:k=2∨k=3
 ·have e:fitsB (k,p)=decide (n≤32):=by
   unfold fitsB
   rw [if_neg k1,if_pos k2,hn]
  rw [e]
  have q:decide ((n:Int)≤32)=decide (n≤32):=decide_eq_decide.2 (by omega)
  clear hb hn e
  generalize decide (n≤32)=r at *
  rcases k2 with rfl|rfl
  ·have e2:((2:Int) == 2)=true:=rfl
   clear e1
   refine fn_ret (N:=_) Tryd.func55 rfl Tryd.ntmps55 Tryd.results55 (by simp) ?_
   simp only [initS,Nat.reduceAdd,Nat.zero_add]
   repeat' (first|(refine wlS ?_)|(refine wlB ?_)|(refine wlE ?_)|(refine efSvao ?_;intro v oa ho)|(refine efBnn ?_;intro n hn)|(refine wl_skip rfl rfl ?_)|((with_reducible refine wc_seq ?_);intro K hK)|(refine auC ?_)|(refine wc_cond rfl (fun hc=>?_) (fun hc=>?_))|(refine wc_draw (by kernel_rfl) (by kernel_rfl) (by decide +kernel) ?_;intro w0 hw0 hm0;(try simp only [List.append_eq,List.cons_append,List.nil_append]))|(refine auP ?_)|((refine auR ?_);clear hK K)|(refine auR ?_)|((with_reducible refine hK _ _ ?_);clear hK K)|fail)
   first|refine end_ret (ResP.tmp rfl ResP.nil) ?_|refine end_normal (ResP.tmp rfl ResP.nil) ?_
   first|rfl|(show _=_;rfl)|(simp only [tupV, *];done)
  ·have e2:((3:Int) == 2)=false:=rfl
   have e3:((3:Int) == 3)=true:=rfl
   clear e1
   refine fn_ret (N:=_) Tryd.func55 rfl Tryd.ntmps55 Tryd.results55 (by simp) ?_
   simp only [initS,Nat.reduceAdd,Nat.zero_add]
   repeat' (first|(refine wlS ?_)|(refine wlB ?_)|(refine wlE ?_)|(refine efSvao ?_;intro v oa ho)|(refine efBnn ?_;intro n hn)|(refine wl_skip rfl rfl ?_)|((with_reducible refine wc_seq ?_);intro K hK)|(refine auC ?_)|(refine wc_cond rfl (fun hc=>?_) (fun hc=>?_))|(refine wc_draw (by kernel_rfl) (by kernel_rfl) (by decide +kernel) ?_;intro w0 hw0 hm0;(try simp only [List.append_eq,List.cons_append,List.nil_append]))|(refine auP ?_)|((refine auR ?_);clear hK K)|(refine auR ?_)|((with_reducible refine hK _ _ ?_);clear hK K)|fail)
   first|refine end_ret (ResP.tmp rfl ResP.nil) ?_|refine end_normal (ResP.tmp rfl ResP.nil) ?_
   first|rfl|(show _=_;rfl)|(simp only [tupV, *];done)
 have e2:(k == 2)=false:=by simpa using (fun h:k=2=>k2 (.inl h))
 have e3:(k == 3)=false:=by simpa using (fun h:k=3=>k2 (.inr h))
 by_cases k4:k=4
 ·have e:fitsB (k,p)=decide (n≤64):=by
   unfold fitsB
   rw [if_neg k1,if_neg k2,if_pos k4,hn]
  rw [e]
  have q:decide ((n:Int)≤64)=decide (n≤64):=decide_eq_decide.2 (by omega)
  clear hb hn e
  generalize decide (n≤64)=r at *
  have e4:(k == 4)=true:=by simpa using k4
  refine fn_ret (N:=_) Tryd.func55 rfl Tryd.ntmps55 Tryd.results55 (by simp) ?_
  simp only [initS,Nat.reduceAdd,Nat.zero_add]
  repeat' (first|(refine wlS ?_)|(refine wlB ?_)|(refine wlE ?_)|(refine efSvao ?_;intro v oa ho)|(refine efBnn ?_;intro n hn)|(refine wl_skip rfl rfl ?_)|((with_reducible refine wc_seq ?_);intro K hK)|(refine auC ?_)|(refine wc_cond rfl (fun hc=>?_) (fun hc=>?_))|(refine wc_draw (by kernel_rfl) (by kernel_rfl) (by decide +kernel) ?_;intro w0 hw0 hm0;(try simp only [List.append_eq,List.cons_append,List.nil_append]))|(refine auP ?_)|((refine auR ?_);clear hK K)|(refine auR ?_)|((with_reducible refine hK _ _ ?_);clear hK K)|fail)
  first|refine end_ret (ResP.tmp rfl ResP.nil) ?_|refine end_normal (ResP.tmp rfl ResP.nil) ?_
  first|rfl|(show _=_;rfl)|(simp only [tupV, *];done)
 have e4:(k == 4)=false:=by simpa using k4
 have e:fitsB (k,p)=decide (p.length=1∧p.getD 0 0≤1):=by
  unfold fitsB
  rw [if_neg k1,if_neg k2,if_neg k4]
 rw [e]
 by_cases h1:n=1
 ·subst h1
  obtain ⟨b,rfl⟩:=List.length_eq_one_iff.1 hn.symm
  have q1:(((1:Nat):Int) == 1)=true:=rfl
  have e':decide ([b].length=1∧[b].getD 0 0≤1)=decide ((b:Int)≤1):=decide_eq_decide.2 (by simp;omega)
  rw [e']
  have q2:decide ((b:Int)≤1)=decide ((b:Int)≤1):=rfl
  clear e e' hb hn
  refine fn_ret (N:=_) Tryd.func55 rfl Tryd.ntmps55 Tryd.results55 (by simp) ?_
  simp only [initS,Nat.reduceAdd,Nat.zero_add]
  repeat' (first|(refine wlS ?_)|(refine wlB ?_)|(refine wlE ?_)|(refine efSvao ?_;intro v oa ho)|(refine efBnn ?_;intro n hn)|(refine wl_skip rfl rfl ?_)|((with_reducible refine wc_seq ?_);intro K hK)|(refine auC ?_)|(refine wc_cond rfl (fun hc=>?_) (fun hc=>?_))|(refine wc_draw (by kernel_rfl) (by kernel_rfl) (by decide +kernel) ?_;intro w0 hw0 hm0;(try simp only [List.append_eq,List.cons_append,List.nil_append]))|(refine auP ?_)|((refine auR ?_);clear hK K)|(refine auR ?_)|((with_reducible refine hK _ _ ?_);clear hK K)|fail)
  first|refine end_ret (ResP.tmp rfl ResP.nil) ?_|refine end_normal (ResP.tmp rfl ResP.nil) ?_
  first|rfl|(show _=_;rfl)|(simp only [tupV, *];done)
 ·have q1:((n:Int) == 1)=false:=by simpa using (fun h:(n:Int)=1=>h1 (by omega))
  have e':decide (p.length=1∧p.getD 0 0≤1)=false:=decide_eq_false (fun h=>h1 (by omega))
  rw [e']
  clear e e' hb hn
  refine fn_ret (N:=_) Tryd.func55 rfl Tryd.ntmps55 Tryd.results55 (by simp) ?_
  simp only [initS,Nat.reduceAdd,Nat.zero_add]
  repeat' (first|(refine wlS ?_)|(refine wlB ?_)|(refine wlE ?_)|(refine efSvao ?_;intro v oa ho)|(refine efBnn ?_;intro n hn)|(refine wl_skip rfl rfl ?_)|((with_reducible refine wc_seq ?_);intro K hK)|(refine auC ?_)|(refine wc_cond rfl (fun hc=>?_) (fun hc=>?_))|(refine wc_draw (by kernel_rfl) (by kernel_rfl) (by decide +kernel) ?_;intro w0 hw0 hm0;(try simp only [List.append_eq,List.cons_append,List.nil_append]))|(refine auP ?_)|((refine auR ?_);clear hK K)|(refine auR ?_)|((with_reducible refine hK _ _ ?_);clear hK K)|fail)
  first|refine end_ret (ResP.tmp rfl ResP.nil) ?_|refine end_normal (ResP.tmp rfl ResP.nil) ?_
  first|rfl|(show _=_;rfl)|(simp only [tupV, *];done)
end Go.Proofs.YthigacbelefadaaDoor
namespace Go.Proofs.YthigacbelefadaaDoor
open Go.RowKit
set_option linter.unusedVariables false
set_option linter.unusedSimpArgs false
set_option maxRecDepth 100000
def ths (S:List Int):Array Value:=((List.range 19).map fun (i:Nat)=>Value.bool (decide (((i:Nat):Int)∈S))).toArray
theorem ths_get (S:List Int){i:Nat}(h:i<19):(ths S)[i]? = some (.bool (decide ((i:Int)∈S))):=by simp [ths,h]
instance (S:List Int):Cells (ths S) 19:=⟨by simp [ths],by simp [ths,Value.oneCell']⟩
theorem ths_put (S:List Int){i:Nat}(h:i<19):putC (ths S) i (.bool true)=ths ((i:Int)::S):=by
 apply Array.ext
 ·simp [putC,ths]
 ·intro j h1 h2
  simp only [putC,ths,List.setIfInBounds_toArray,List.getElem_toArray,List.getElem_set,List.getElem_map,List.getElem_range,List.mem_cons]
  by_cases e:i=j
  ·subst e;simp
  ·have:¬(j:Int)=(i:Int):=by omega
   simp [e,this]
instance zc_ths:ZC Tryd.prog 134 (ths []):=⟨by kernel_rfl⟩
attribute [irreducible] ths
set_option maxHeartbeats 16000000 in
theorem check_a (w:World){v:Value}{l:List Att}(h:Ats w v l):Calls Tryd.prog 40 [v].toArray w (Ret (.int .i64 (chkA (abs l))) w):=by
 have i1:=h.cs.old
 have hl:(abs l).length=l.length:=by simp [abs]
 by_cases c1:l.length>24
 ·have t1:decide ((l.length:Int)>24)=true:=decide_eq_true (by omega)
  have e:chkA (abs l)=2:=by unfold chkA;rw [hl,if_pos c1]
  rw [e]
  clear h
  refine fn_ret (N:=_) Tryd.func40 rfl Tryd.ntmps40 Tryd.results40 (by simp) ?_
  simp only [initS,Nat.reduceAdd,Nat.zero_add]
  repeat' (first|(refine wlS ?_)|(refine wlB ?_)|(refine wlE ?_)|(refine efSvao ?_;intro v oa ho)|(refine efZCnn ?_;intro n hn)|(refine efBnn ?_;intro n hn)|(refine efB ?_)|(refine efBS ?_)|(refine wl_skip rfl rfl ?_)|((with_reducible refine wc_seq ?_);intro K hK)|(refine auC ?_)|(refine wc_cond rfl (fun hc=>?_) (fun hc=>?_))|(refine wc_draw (by kernel_rfl) (by kernel_rfl) (by decide +kernel) ?_;intro w0 hw0 hm0;(try simp only [List.append_eq,List.cons_append,List.nil_append]))|(refine auP ?_)|((refine auR ?_);clear hK K)|(refine auR ?_)|((with_reducible refine hK _ _ ?_);clear hK K)|fail)
  first|refine end_ret (ResP.tmp rfl ResP.nil) ?_|refine end_normal (ResP.tmp rfl ResP.nil) ?_
  first|rfl|(show _=_;rfl)|(simp only [tupV, *];done)
 have t1:decide ((l.length:Int)>24)=false:=decide_eq_false (by omega)
 have e0:chkA (abs l)=chkF (abs l) []:=by unfold chkA;rw [hl,if_neg c1]
 rw [e0]
 clear e0
 obtain ⟨R,hR⟩:∃ R,R=chkF (abs l) []:=⟨_,rfl⟩
 rw [←hR]
 obtain ⟨m,hm⟩:∃ m,m=l.length:=⟨_,rfl⟩
 rw [←hm] at i1 t1 c1
 refine fn_ret (N:=_) Tryd.func40 rfl Tryd.ntmps40 Tryd.results40 (by simp) ?_
 simp only [initS,Nat.reduceAdd,Nat.zero_add]
 repeat' (first|(refine wlS ?_)|(refine wlB ?_)|(refine wlE ?_)|(refine efSvao ?_;intro v oa ho)|(refine efZCnn ?_;intro n hn)|(refine efBnn ?_;intro n hn)|(refine efB ?_)|(refine efBS ?_)|(refine wl_skip rfl rfl ?_)|((with_reducible refine wc_seq ?_);intro K hK)|(refine auC ?_)|(refine wc_cond rfl (fun hc=>?_) (fun hc=>?_))|(refine wc_draw (by kernel_rfl) (by kernel_rfl) (by decide +kernel) ?_;intro w0 hw0 hm0;(try simp only [List.append_eq,List.cons_append,List.nil_append]))|(refine auP ?_)|((refine auR ?_);clear hK K)|(refine auR ?_)|((with_reducible refine hK _ _ ?_);clear hK K)|fail)
 obtain ⟨n5,rfl⟩:∃ n5,n5=n:=⟨n,rfl⟩
 refine wc_loop (σ:=Nat×List Int) (fun x=>[(2,.int .i64 0),(3,ptr n5),(9,v),(10,.int .i64 (m:Int)),(11,.int .i64 (x.1:Int))])
  (fun x=>[(n5,(ths x.2,134))]) (fun x=>x.1≤m∧chkF ((abs l).drop x.1) x.2=R) (fun x=>m - x.1) (0,[]) ⟨Nat.zero_le _,hR.symm⟩ (Fits.of ⟨rfl,rfl,rfl,rfl,rfl,trivial⟩ (SubL.refl _) rfl) ?_
 rintro ⟨i,s⟩ ⟨hi,hc⟩
 dsimp only at hi hc ⊢
 by_cases hlt:i<m
 ·obtain ⟨⟨k,u,p⟩,hx⟩:∃ x,l[i]? = some x:=⟨l[i]'(by omega),List.getElem?_eq_getElem _⟩
  have hcb:=h.body _ (List.mem_of_getElem? hx)
  dsimp only at hcb
  obtain ⟨pu,cu,rfl,_⟩:=hcb.cs.ln.out
  haveI i2:=hcb.old
  have hget:=atsC_get hx
  dsimp only at hget
  have FC:∀ w',Cb w' (.slice pu p.length cu) p.length p→Calls Tryd.prog 55 [.agg #[.int .i64 k,.slice pu p.length cu]].toArray w' (Ret (.bool (fitsB (k,p))) w'):=fun w' h'=>fits_c w' k h'
  have u1:decide ((i:Int)<(m:Int))=true:=decide_eq_true (by omega)
  have u2:IntKind.i64.wrap ((i:Int)+1)=((i+1:Nat):Int):=by rw [wrap_i64 _ (by omega) (by omega)];omega
  have j1:(i:Int)<(m:Int):=by omega
  have hdr:(abs l).drop i=(k,p)::(abs l).drop (i+1):=by
   have hb:(abs l)[i]? = some (k,p):=by simp [abs,hx]
   rw [List.drop_eq_getElem_cons (List.getElem?_eq_some_iff.1 hb).1,(List.getElem?_eq_some_iff.1 hb).2]
  rw [hdr,chkF] at hc
  dsimp only at hc
  clear h hcb hdr hR hx
  by_cases d1:k<1
  ·rw [if_pos (.inl d1)] at hc
   subst hc
   have s1:decide (k<1)=true:=decide_eq_true d1
   repeat' (first|(refine wlS ?_)|(refine wlB ?_)|(refine wlE ?_)|(refine efSvao ?_;intro v oa ho)|(refine efZCnn ?_;intro n hn)|(refine efBnn ?_;intro n hn)|(refine efB ?_)|(refine efBS ?_)|(refine wl_skip rfl rfl ?_)|((with_reducible refine wc_seq ?_);intro K hK)|(refine auC ?_)|(refine wc_cond rfl (fun hc=>?_) (fun hc=>?_))|(refine wc_draw (by kernel_rfl) (by kernel_rfl) (by decide +kernel) ?_;intro w0 hw0 hm0;(try simp only [List.append_eq,List.cons_append,List.nil_append]))|(refine auP ?_)|((refine auR ?_);clear hK K)|(refine auR ?_)|((with_reducible refine hK _ _ ?_);clear hK K)|fail)
   first|refine end_ret (ResP.tmp rfl ResP.nil) ?_|refine end_normal (ResP.tmp rfl ResP.nil) ?_
   first|rfl|(show _=_;rfl)|(simp only [tupV, *];done)
  have s1:decide (k<1)=false:=decide_eq_false d1
  by_cases d2:k>18
  ·rw [if_pos (.inr d2)] at hc
   subst hc
   have s2:decide (k>18)=true:=decide_eq_true d2
   repeat' (first|(refine wlS ?_)|(refine wlB ?_)|(refine wlE ?_)|(refine efSvao ?_;intro v oa ho)|(refine efZCnn ?_;intro n hn)|(refine efBnn ?_;intro n hn)|(refine efB ?_)|(refine efBS ?_)|(refine wl_skip rfl rfl ?_)|((with_reducible refine wc_seq ?_);intro K hK)|(refine auC ?_)|(refine wc_cond rfl (fun hc=>?_) (fun hc=>?_))|(refine wc_draw (by kernel_rfl) (by kernel_rfl) (by decide +kernel) ?_;intro w0 hw0 hm0;(try simp only [List.append_eq,List.cons_append,List.nil_append]))|(refine auP ?_)|((refine auR ?_);clear hK K)|(refine auR ?_)|((with_reducible refine hK _ _ ?_);clear hK K)|fail)
   first|refine end_ret (ResP.tmp rfl ResP.nil) ?_|refine end_normal (ResP.tmp rfl ResP.nil) ?_
   first|rfl|(show _=_;rfl)|(simp only [tupV, *];done)
  have s2:decide (k>18)=false:=decide_eq_false d2
  rw [if_neg (by omega)] at hc
  by_cases d3:fitsB (k,p)=false
  ·rw [if_pos d3] at hc
   subst hc
   rw [d3] at FC
   repeat' (first|(refine wlS ?_)|(refine wlB ?_)|((with_reducible refine sel_call ?_);refine wl_rd rfl rfl (rd_call rfl rfl rfl (fun w hm=>by with_reducible exact FC w (VwB.out w hm))) ?_)|(refine wlE ?_)|(refine efSvao ?_;intro v oa ho)|(refine efZCnn ?_;intro n hn)|(refine efBnn ?_;intro n hn)|(refine efB ?_)|(refine efBS ?_)|(refine wl_skip rfl rfl ?_)|((with_reducible refine wc_seq ?_);intro K hK)|(refine auC ?_)|(refine wc_cond rfl (fun hc=>?_) (fun hc=>?_))|(refine wc_draw (by kernel_rfl) (by kernel_rfl) (by decide +kernel) ?_;intro w0 hw0 hm0;(try simp only [List.append_eq,List.cons_append,List.nil_append]))|(refine auP ?_)|((refine auR ?_);clear hK K)|(refine auR ?_)|((with_reducible refine hK _ _ ?_);clear hK K)|fail)
   first|refine end_ret (ResP.tmp rfl ResP.nil) ?_|refine end_normal (ResP.tmp rfl ResP.nil) ?_
   first|rfl|(show _=_;rfl)|(simp only [tupV, *];done)
  have d3':fitsB (k,p)=true:=by simpa using d3
  rw [d3'] at FC
  rw [if_neg d3] at hc
  obtain ⟨j,rfl⟩:=Int.eq_ofNat_of_zero_le (show 0≤k by omega)
  have hj:j<19:=by omega
  have j2:((j:Nat):Int)<((19:Nat):Int):=by omega
  have g0:=ths_get s hj
  have hpt:=ths_put s hj
  by_cases d4:((j:Nat):Int)∈s
  ·rw [if_pos d4] at hc
   subst hc
   rw [decide_eq_true d4] at g0
   repeat' (first|(refine wlS ?_)|(refine wlB ?_)|((with_reducible refine sel_call ?_);refine wl_rd rfl rfl (rd_call rfl rfl rfl (fun w hm=>by with_reducible exact FC w (VwB.out w hm))) ?_)|(refine wlE ?_)|(refine efSvao ?_;intro v oa ho)|(refine efZCnn ?_;intro n hn)|(refine efBnn ?_;intro n hn)|(refine efB ?_)|(refine efBS ?_)|(refine wl_skip rfl rfl ?_)|((with_reducible refine wc_seq ?_);intro K hK)|(refine auC ?_)|(refine wc_cond rfl (fun hc=>?_) (fun hc=>?_))|(refine wc_draw (by kernel_rfl) (by kernel_rfl) (by decide +kernel) ?_;intro w0 hw0 hm0;(try simp only [List.append_eq,List.cons_append,List.nil_append]))|(refine auP ?_)|((refine auR ?_);clear hK K)|(refine auR ?_)|((with_reducible refine hK _ _ ?_);clear hK K)|fail)
   first|refine end_ret (ResP.tmp rfl ResP.nil) ?_|refine end_normal (ResP.tmp rfl ResP.nil) ?_
   first|rfl|(show _=_;rfl)|(simp only [tupV, *];done)
  ·rw [if_neg d4] at hc
   rw [decide_eq_false d4] at g0
   repeat' (first|(refine wlS ?_)|(refine wlB ?_)|((with_reducible refine sel_call ?_);refine wl_rd rfl rfl (rd_call rfl rfl rfl (fun w hm=>by with_reducible exact FC w (VwB.out w hm))) ?_)|(refine wlE ?_)|(refine efSvao ?_;intro v oa ho)|(refine efZCnn ?_;intro n hn)|(refine efBnn ?_;intro n hn)|(refine efB ?_)|(refine efBS ?_)|(refine wl_skip rfl rfl ?_)|((with_reducible refine wc_seq ?_);intro K hK)|(refine auC ?_)|(refine wc_cond rfl (fun hc=>?_) (fun hc=>?_))|(refine wc_draw (by kernel_rfl) (by kernel_rfl) (by decide +kernel) ?_;intro w0 hw0 hm0;(try simp only [List.append_eq,List.cons_append,List.nil_append]))|(refine auP ?_)|((refine auR ?_);clear hK K)|(refine auR ?_)|((with_reducible refine hK _ _ ?_);clear hK K)|fail)
   exact ⟨(i+1,(j:Int)::s),⟨hlt,hc⟩,by dsimp only;omega,Fits.of ⟨rfl,rfl,rfl,rfl,rfl,trivial⟩ (by repeat (first|exact SubL.nil|exact SubL.refl _|refine SubL.skip ?_)) rfl⟩
 ·obtain rfl:i=m:=by omega
  have u1:decide ((i:Int)<(i:Int))=false:=decide_eq_false (by omega)
  rw [List.drop_of_length_le (by rw [hl];omega)] at hc
  obtain rfl:(0:Int)=R:=hc
  clear h
  repeat' (first|(refine wlS ?_)|(refine wlB ?_)|(refine wlE ?_)|(refine efSvao ?_;intro v oa ho)|(refine efBnn ?_;intro n hn)|(refine efB ?_)|(refine efBS ?_)|(refine wl_skip rfl rfl ?_)|((with_reducible refine wc_seq ?_);intro K hK)|(refine auC ?_)|(refine wc_cond rfl (fun hc=>?_) (fun hc=>?_))|(refine wc_draw (by kernel_rfl) (by kernel_rfl) (by decide +kernel) ?_;intro w0 hw0 hm0;(try simp only [List.append_eq,List.cons_append,List.nil_append]))|(refine auP ?_)|((refine auR ?_);clear hK K)|(refine auR ?_)|((with_reducible refine hK _ _ ?_);clear hK K)|fail)
  first|refine end_ret (ResP.tmp rfl ResP.nil) ?_|refine end_normal (ResP.tmp rfl ResP.nil) ?_
  first|rfl|(show _=_;rfl)|(simp only [tupV, *];done)
end Go.Proofs.YthigacbelefadaaDoor
namespace Go.Proofs.YthigacbelefadaaDoor
open Go.RowKit
set_option linter.unusedVariables false
set_option linter.unusedSimpArgs false
set_option maxRecDepth 100000
instance hold_and {X:Cx}{l:Blks}{Φ Ψ:World→Prop}[h:Hold X l Φ][h':Hold X l Ψ]:Hold X l (fun w=>Φ w∧Ψ w):=⟨fun w hm=>⟨h.out w hm,h'.out w hm⟩⟩
def BodF (Ψ:World→Prop)(l:List Att):Prop:=∀ x∈l,(BL x.2.2.length x.2.2∧Ln x.2.1 x.2.2.length)∧∀ w,Ψ w→Cs w x.2.1 x.2.2.length (bl x.2.2)
theorem BodF.nil {Ψ:World→Prop}:BodF Ψ []:=fun x hx=>by cases hx
theorem BodF.app {a b:Blks}{l m:List Att}(h:BodF (Hd a) l)(h':BodF (Hd b) m):BodF (Hd (a++b)) (l++m):=fun x hx=>by
 rcases List.mem_append.1 hx with hx|hx
 ·obtain ⟨h1,h3⟩:=h x hx;exact ⟨h1,fun w hw=>h3 w hw.left⟩
 ·obtain ⟨h1,h3⟩:=h' x hx;exact ⟨h1,fun w hw=>h3 w hw.right⟩
theorem BodF.one {k:Int}{v:Value}{e n:Nat}{q:List Nat}{oa:Blks}(h:OwnB e v n q oa):BodF (Hd oa) [(k,v,q)]:=fun x hx=>by
 simp only [List.mem_singleton] at hx
 subst hx
 obtain rfl:n=q.length:=h.ok.len.symm
 exact ⟨⟨h.ok,h.own.ln⟩,fun w hw=>h.own.cs.out w hw⟩
theorem BodF.perm {Ψ:World→Prop}{l m:List Att}(hp:m.Perm l)(h:BodF Ψ l):BodF Ψ m:=fun x hx=>h x (hp.mem_iff.1 hx)
theorem BodF.one' {Ψ:World→Prop}{l:List Att}(h:BodF Ψ l):∀ x∈l,x.2.1.oneCell'=true:=fun x hx=>by
 obtain ⟨_,_,hv,_⟩:=(h x hx).1.2.out
 rw [hv];rfl
theorem BodF.sub {Ψ:World→Prop}{l m:List Att}(hp:∀ x∈m,x∈l)(h:BodF Ψ l):BodF Ψ m:=fun x hx=>h x (hp x hx)
theorem Ats.bodF {W:World}{v:Value}{l:List Att}(h:Ats W v l):BodF (Old W []) l:=fun x hx=>⟨⟨(h.body x hx).ok,(h.body x hx).cs.ln⟩,fun w hw=>(h.body x hx).cs.old.out w hw⟩
theorem AtF.mk' {Φ Ψ:World→Prop}{v:Value}{l:List Att}(h:CsF Φ v l.length (atsC l))(h':BodF Ψ l):AtF (fun w=>Φ w∧Ψ w) v l:=
 ⟨⟨h.ln,fun w hw=>h.out w hw.1⟩,fun w hw=>⟨h.out w hw.1,fun x hx=>⟨(h' x hx).2 w hw.2,(h' x hx).1.1⟩⟩⟩
structure OwnT (v:Value)(l:List Att)(oa:Blks):Prop where
 out:∃ oo ob,(∀ q∈oo++ob,q∈oa)∧OwnL 86 2 v l.length (atsC l) oo∧BodF (Hd ob) l
theorem OwnT.cs {v:Value}{l:List Att}{oa:Blks}(h:OwnT v l oa):CsF (Hd oa) v l.length (atsC l):=by
 obtain ⟨oo,ob,hs,h1,h2⟩:=h.out
 exact ⟨h1.ln,fun w hw=>h1.cs.out w fun q hq=>hw q (hs q (List.mem_append_left _ hq))⟩
theorem OwnT.bod {v:Value}{l:List Att}{oa:Blks}(h:OwnT v l oa):BodF (Hd oa) l:=by
 obtain ⟨oo,ob,hs,h1,h2⟩:=h.out
 exact fun x hx=>⟨(h2 x hx).1,fun w hw=>(h2 x hx).2 w fun q hq=>hw q (hs q (List.mem_append_right _ hq))⟩
theorem OwnT.atf {v:Value}{l:List Att}{oa:Blks}(h:OwnT v l oa):AtF (Hd oa) v l:=
 ⟨h.cs,fun w hw=>⟨h.cs.out w hw,fun x hx=>⟨(h.bod x hx).2 w hw,(h.bod x hx).1.1⟩⟩⟩
theorem OwnT.nil:OwnT (.slice none 0 0) [] []:=⟨[],[],fun q h=>h,OwnL.nil _ _,BodF.nil⟩
theorem OwnT.ln {v:Value}{l:List Att}{oa:Blks}(h:OwnT v l oa):Ln v l.length:=h.atf.cs.ln
theorem ats_one {w:World}{v:Value}{l:List Att}(h:Ats w v l):∀ x∈l,x.2.1.oneCell'=true:=fun x hx=>by
 obtain ⟨_,_,hv,_⟩:=(h.body x hx).cs.ln.out
 rw [hv];rfl
theorem abs_len (l:List Att):(abs l).length=l.length:=by simp [abs]
theorem abs_app (l m:List Att):abs (l++m)=abs l++abs m:=by simp [abs]
structure IsNorm (m l:List Ab):Prop where
 rises:Rises m
 perm:m.Perm l
theorem IsNorm.only {m m' l:List Ab}(h:IsNorm m l)(h':IsNorm m' l):m=m':=rises_only h.rises h'.rises (h.perm.trans h'.perm.symm)
end Go.Proofs.YthigacbelefadaaDoor
namespace Go.Proofs.YthigacbelefadaaDoor
open Go.RowKit
set_option linter.unusedVariables false
set_option linter.unusedSimpArgs false
set_option maxRecDepth 100000
def getA (l:List Ab)(k:Int):Option (List Nat):=(l.find? fun x=>x.1 == k).map (·.2)
def isA (l:List Ab)(k:Int):Bool:=getA l k == some [1]
def hiddenB (l:List Ab):Bool:=isA l 8 || ((getA l 9).isSome && !isA l 9)
theorem find_abs (l:List Att)(k:Int):getA (abs l) k=(l.find? fun x=>x.1 == k).map (·.2.2):=by
 unfold getA abs
 rw [List.find?_map,Option.map_map]
 rfl
theorem getA_none {l:List Att}{k:Int}(h:getA (abs l) k=none):findI l k = -1:=by
 rw [find_abs,Option.map_eq_none_iff] at h
 cases hx:l.findIdx? (fun x=>x.1 == k) with
 | none=>rw [findI,hx]
 | some i=>
  obtain ⟨y,_,h2⟩:=findIdx_find.1 i hx
  rw [h] at h2;cases h2
theorem getA_some {l:List Att}{k:Int}{q:List Nat}(h:getA (abs l) k=some q):∃ j y,findI l k=((j:Nat):Int)∧l[j]? = some y∧y.2.2=q∧y.1=k:=by
 rw [find_abs,Option.map_eq_some_iff] at h
 obtain ⟨y,hy,rfl⟩:=h
 cases hx:l.findIdx? (fun x=>x.1 == k) with
 | none=>rw [findIdx_find.2 hx] at hy;cases hy
 | some i=>
  obtain ⟨z,h1,h2⟩:=findIdx_find.1 i hx
  rw [h2] at hy;cases hy
  exact ⟨i,_,by rw [findI,hx],h1,rfl,by simpa using List.find?_some h2⟩
set_option maxHeartbeats 4000000 in
theorem get_no (w:World){u:Value}{l:List Att}{k:Int}(h:Ats w u l)(hk:getA (abs l) k=none):Calls Tryd.prog 41 [u,.int .i64 k].toArray w (Ret (.tuple #[.slice none 0 0,.bool false]) w):=by
 haveI:=h.old
 haveI:=h.cs.old
 have FC:∀ w',Ats w' u l→Calls Tryd.prog 44 [u,.int .i64 k].toArray w' (Ret (.int .i64 (-1)) w'):=fun w' h=>by
  have:=find_c w' (k:=k) h
  rwa [getA_none hk] at this
 have t1:decide ((-1:Int)<0)=true:=rfl
 clear h
 refine fn_ret (N:=_) Tryd.func41 rfl Tryd.ntmps41 Tryd.results41 (by simp) ?_
 simp only [initS,Nat.reduceAdd,Nat.zero_add]
 repeat' (first|(refine wlS ?_)|(refine wlB ?_)|((with_reducible refine sel_call ?_);refine wl_rd rfl rfl (rd_call rfl rfl rfl (fun w hm=>by with_reducible exact FC w (VwT.out w hm))) ?_)|(refine wlE ?_)|(refine efSvao ?_;intro v oa ho)|(refine wl_skip rfl rfl ?_)|((with_reducible refine wc_seq ?_);intro K hK)|(refine auC ?_)|(refine wc_cond rfl (fun hc=>?_) (fun hc=>?_))|(refine wc_draw (by kernel_rfl) (by kernel_rfl) (by decide +kernel) ?_;intro w0 hw0 hm0;(try simp only [List.append_eq,List.cons_append,List.nil_append]))|(refine auP ?_)|((refine auR ?_);clear hK K)|(refine auR ?_)|((with_reducible refine hK _ _ ?_);clear hK K)|fail)
 first|refine end_ret (ResP.tmp rfl (ResP.tmp rfl ResP.nil)) ?_|refine end_normal (ResP.tmp rfl (ResP.tmp rfl ResP.nil)) ?_
 first|rfl|(show _=_;rfl)|(simp only [tupV, *];done)
set_option maxHeartbeats 4000000 in
theorem get_yes (w:World){u:Value}{l:List Att}{k:Int}{q:List Nat}(h:Ats w u l)(hk:getA (abs l) k=some q)(hq:q.length≤1099511627776):Calls Tryd.prog 41 [u,.int .i64 k].toArray w (RetO (fun v:Value=>.tuple #[v,.bool true]) (fun v oa=>OwnB 5 v q.length q oa) w):=by
 haveI:=h.old
 haveI:=h.cs.old
 obtain ⟨j,⟨z,vy,r⟩,h1,h2,rfl,rfl⟩:=getA_some hk
 dsimp only at *
 have FC:∀ w',Ats w' u l→Calls Tryd.prog 44 [u,.int .i64 z].toArray w' (Ret (.int .i64 (j:Int)) w'):=fun w' h=>by
  have:=find_c w' (k:=z) h
  rwa [h1] at this
 have CL:∀ w' {v:Value},Cb w' v r.length r→Calls Tryd.prog 28 [v].toArray w' (RetO (fun u=>u) (fun u oa=>OwnB 5 u r.length r oa) w'):=fun w' {v} h=>clone_b w' h hq
 have hjl:=(List.getElem?_eq_some_iff.1 h2).1
 have hl63:l.length≤9223372036854775807:=by obtain ⟨_,_,_,h1,h2,_⟩:=h.cs.ln.out;simp only [maxLen] at h2;omega
 have by':=(h.body _ (List.mem_of_getElem? h2)).old
 have hyv:=atsC_val h2
 have t1:decide ((j:Int)<0)=false:=decide_eq_false (by omega)
 have j2:(j:Int)<(l.length:Int):=by omega
 dsimp only at by' hyv
 clear h hk h1 h2
 refine fn_own (N:=_) Tryd.func41 rfl Tryd.ntmps41 Tryd.results41 (by simp) ?_
 simp only [initS,Nat.reduceAdd,Nat.zero_add]
 repeat' (first|(refine wlS ?_)|(refine wlB ?_)|((with_reducible refine sel_call ?_);refine wl_rd rfl rfl (rd_call rfl rfl rfl (fun w hm=>by with_reducible exact FC w (VwT.out w hm))) ?_)|(refine wlE ?_)|(refine efSvao ?_;intro v oa ho)|((with_reducible refine sel_call ?_);first|(refine wl_newO rfl rfl rfl rfl rfl (fun w hm=>by with_reducible exact CL w (VwB.out w hm)) ?_;intro x oa hx))|(refine wl_skip rfl rfl ?_)|((with_reducible refine wc_seq ?_);intro K hK)|(refine auC ?_)|(refine wc_cond rfl (fun hc=>?_) (fun hc=>?_))|(refine wc_draw (by kernel_rfl) (by kernel_rfl) (by decide +kernel) ?_;intro w0 hw0 hm0;(try simp only [List.append_eq,List.cons_append,List.nil_append]))|(refine auP ?_)|((refine auR ?_);clear hK K)|(refine auR ?_)|((with_reducible refine hK _ _ ?_);clear hK K)|fail)
 first|refine end_ret (ResP.tmp rfl (ResP.tmp rfl ResP.nil)) ?_|refine end_normal (ResP.tmp rfl (ResP.tmp rfl ResP.nil)) ?_
 (try dsimp only [tupV])
 exact ⟨_,_,rfl,hx,SubL.refl _⟩
set_option maxHeartbeats 8000000 in
theorem is_c (w:World){u:Value}{l:List Att}{k:Int}{r:Bool}(h:Ats w u l)(hr:isA (abs l) k=r):Calls Tryd.prog 24 [u,.int .i64 k].toArray w (Ret (.bool r) w):=by
 haveI:=h.old
 haveI:=h.cs.old
 cases hk:getA (abs l) k with
 | none=>
  have FC:∀ w',Ats w' u l→Calls Tryd.prog 44 [u,.int .i64 k].toArray w' (Ret (.int .i64 (-1)) w'):=fun w' h=>by
   have:=find_c w' (k:=k) h
   rwa [getA_none hk] at this
  have t1:decide ((-1:Int)≥0)=false:=rfl
  obtain rfl:r=false:=by rw [←hr,isA,hk];rfl
  clear h hr
  refine fn_ret (N:=_) Tryd.func24 rfl Tryd.ntmps24 Tryd.results24 (by simp) ?_
  simp only [initS,Nat.reduceAdd,Nat.zero_add]
  repeat' (first|(refine wlS ?_)|(refine wlB ?_)|((with_reducible refine sel_call ?_);refine wl_rd rfl rfl (rd_call rfl rfl rfl (fun w hm=>by with_reducible exact FC w (VwT.out w hm))) ?_)|(refine wlE ?_)|(refine efSvao ?_;intro v oa ho)|(refine wl_skip rfl rfl ?_)|((with_reducible refine wc_seq ?_);intro K hK)|(refine auC ?_)|(refine wc_cond rfl (fun hc=>?_) (fun hc=>?_))|(refine wc_draw (by kernel_rfl) (by kernel_rfl) (by decide +kernel) ?_;intro w0 hw0 hm0;(try simp only [List.append_eq,List.cons_append,List.nil_append]))|(refine auP ?_)|((refine auR ?_);clear hK K)|(refine auR ?_)|((with_reducible refine hK _ _ ?_);clear hK K)|fail)
  first|refine end_ret (ResP.tmp rfl ResP.nil) ?_|refine end_normal (ResP.tmp rfl ResP.nil) ?_
  first|rfl|(show _=_;rfl)|(simp only [tupV, *];done)
 | some q=>
  obtain ⟨j,⟨z,vy,p⟩,h1,h2,rfl,rfl⟩:=getA_some hk
  dsimp only at *
  have FC:∀ w',Ats w' u l→Calls Tryd.prog 44 [u,.int .i64 z].toArray w' (Ret (.int .i64 (j:Int)) w'):=fun w' h=>by
   have:=find_c w' (k:=z) h
   rwa [h1] at this
  have hjl:=(List.getElem?_eq_some_iff.1 h2).1
  have hl63:l.length≤9223372036854775807:=by obtain ⟨_,_,_,h1,h2,_⟩:=h.cs.ln.out;simp only [maxLen] at h2;omega
  have by':=(h.body _ (List.mem_of_getElem? h2)).old
  have hyv:=atsC_val h2
  have t1:decide ((j:Int)≥0)=true:=decide_eq_true (by omega)
  have j2:(j:Int)<(l.length:Int):=by omega
  dsimp only at by' hyv
  rw [isA,hk] at hr
  clear h hk h1 h2
  by_cases hp:p.length=1
  ·obtain ⟨b,rfl⟩:=List.length_eq_one_iff.1 hp
   have t2:((([b].length:Nat):Int) == 1)=true:=rfl
   have g0:(bl [b])[0]? = some (.int .u8 (b:Int)):=rfl
   have t3:((b:Int) == 1)=r:=by
    rw [←hr,Bool.eq_iff_iff]
    simp only [beq_iff_eq,Option.some.injEq,List.cons.injEq,and_true]
    omega
   clear hr
   refine fn_ret (N:=_) Tryd.func24 rfl Tryd.ntmps24 Tryd.results24 (by simp) ?_
   simp only [initS,Nat.reduceAdd,Nat.zero_add]
   repeat' (first|(refine wlS ?_)|(refine wlB ?_)|((with_reducible refine sel_call ?_);refine wl_rd rfl rfl (rd_call rfl rfl rfl (fun w hm=>by with_reducible exact FC w (VwT.out w hm))) ?_)|(refine wlE ?_)|(refine efSvao ?_;intro v oa ho)|(refine wl_skip rfl rfl ?_)|((with_reducible refine wc_seq ?_);intro K hK)|(refine auC ?_)|(refine wc_cond rfl (fun hc=>?_) (fun hc=>?_))|(refine wc_draw (by kernel_rfl) (by kernel_rfl) (by decide +kernel) ?_;intro w0 hw0 hm0;(try simp only [List.append_eq,List.cons_append,List.nil_append]))|(refine auP ?_)|((refine auR ?_);clear hK K)|(refine auR ?_)|((with_reducible refine hK _ _ ?_);clear hK K)|fail)
   first|refine end_ret (ResP.tmp rfl ResP.nil) ?_|refine end_normal (ResP.tmp rfl ResP.nil) ?_
   first|rfl|(show _=_;rfl)|(simp only [tupV, *];done)
  ·have t2:((p.length:Int) == 1)=false:=by simp only [beq_eq_false_iff_ne,ne_eq];omega
   obtain rfl:r=false:=by
    rw [←hr,beq_eq_false_iff_ne]
    intro e
    have:=Option.some.inj e
    rw [this] at hp;exact hp rfl
   clear hr
   refine fn_ret (N:=_) Tryd.func24 rfl Tryd.ntmps24 Tryd.results24 (by simp) ?_
   simp only [initS,Nat.reduceAdd,Nat.zero_add]
   repeat' (first|(refine wlS ?_)|(refine wlB ?_)|((with_reducible refine sel_call ?_);refine wl_rd rfl rfl (rd_call rfl rfl rfl (fun w hm=>by with_reducible exact FC w (VwT.out w hm))) ?_)|(refine wlE ?_)|(refine efSvao ?_;intro v oa ho)|(refine wl_skip rfl rfl ?_)|((with_reducible refine wc_seq ?_);intro K hK)|(refine auC ?_)|(refine wc_cond rfl (fun hc=>?_) (fun hc=>?_))|(refine wc_draw (by kernel_rfl) (by kernel_rfl) (by decide +kernel) ?_;intro w0 hw0 hm0;(try simp only [List.append_eq,List.cons_append,List.nil_append]))|(refine auP ?_)|((refine auR ?_);clear hK K)|(refine auR ?_)|((with_reducible refine hK _ _ ?_);clear hK K)|fail)
   first|refine end_ret (ResP.tmp rfl ResP.nil) ?_|refine end_normal (ResP.tmp rfl ResP.nil) ?_
   first|rfl|(show _=_;rfl)|(simp only [tupV, *];done)
end Go.Proofs.YthigacbelefadaaDoor
namespace Go.Proofs.YthigacbelefadaaDoor
open Go.RowKit
set_option linter.unusedVariables false
set_option linter.unusedSimpArgs false
set_option maxRecDepth 100000
structure Small (l:List Att):Prop where
 len:l.length≤1048576
 each:∀ x∈l,x.2.2.length≤1048576
structure OwS where
 i:Nat
 its:List Att
 v:Value
 oo:Blks
 ob:Blks
structure OwS.Ok (l:List Att)(x:OwS):Prop where
 le:x.i≤l.length
 own:OwnL 86 2 x.v x.i (atsC x.its) x.oo
 bod:BodF (Hd x.ob) x.its
 eq:abs x.its=abs (l.take x.i)
 len:x.its.length=x.i
set_option maxHeartbeats 8000000 in
theorem own_c (w:World){v:Value}{l:List Att}(h:Ats w v l)(hk:Small l):Calls Tryd.prog 37 [v].toArray w (RetO (fun u:Value=>u) (fun u oa=>∃ its,OwnT u its oa∧abs its=abs l) w):=by
 haveI i0:=h.old
 haveI i1:=h.cs.old
 have hlen:=hk.len
 have hbody:=h.body
 have CL:∀ w' {v:Value} {k:Nat} {q:List Nat},Cb w' v k q→k≤1099511627776→Calls Tryd.prog 28 [v].toArray w' (RetO (fun u=>u) (fun u oa=>OwnB 5 u k q oa) w'):=fun w' {v k q} h hk=>clone_b w' h hk
 have t0:((0:Int) != 0)=false:=rfl
 clear h
 refine fn_own (N:=_) Tryd.func37 rfl Tryd.ntmps37 Tryd.results37 (by simp) ?_
 simp only [initS,Nat.reduceAdd,Nat.zero_add]
 repeat' (first|(refine wlS ?_)|(refine wlB ?_)|(refine wlE ?_)|(refine efSvao ?_;intro v oa ho)|(refine efBnn ?_;intro n hn)|(refine efB ?_)|(refine efBS ?_)|(refine wl_skip rfl rfl ?_)|((with_reducible refine wc_seq ?_);intro K hK)|(refine auC ?_)|(refine wc_cond rfl (fun hc=>?_) (fun hc=>?_))|(refine wc_draw (by kernel_rfl) (by kernel_rfl) (by decide +kernel) ?_;intro w0 hw0 hm0;(try simp only [List.append_eq,List.cons_append,List.nil_append]))|(refine auP ?_)|((refine auR ?_);clear hK K)|(refine auR ?_)|((with_reducible refine hK _ _ ?_);clear hK K)|fail)
 refine wc_loop (σ:=OwS) (fun x=>[(3,x.v),(6,v),(7,.int .i64 (l.length:Int)),(8,.int .i64 (x.i:Int))]) (fun x=>x.oo++x.ob) (OwS.Ok l) (fun x=>l.length - x.i) ⟨0,[],.slice none 0 0,[],[]⟩
  ⟨Nat.zero_le _,OwnL.nil _ _,BodF.nil,rfl,rfl⟩ (Fits.of ⟨rfl,rfl,rfl,rfl,trivial⟩ (SubL.refl _) rfl) ?_
 rintro ⟨i,its,u,oo,ob⟩ ⟨hi,ho,hb,he,hil⟩
 dsimp only at hi ho hb he hil ⊢
 by_cases hlt:i<l.length
 ·obtain ⟨⟨kk,bv,p⟩,hx⟩:∃ x,l[i]? = some x:=⟨l[i]'(by omega),List.getElem?_eq_getElem _⟩
  have hlx:=hx
  have hmem:=List.mem_of_getElem? hx
  have hcb:=hbody _ hmem
  dsimp only at hcb
  obtain ⟨pu,cu,rfl,hcu,_⟩:=hcb.cs.ln.out
  haveI i2:=hcb.old
  have hget:=atsC_get hx
  dsimp only at hget
  have hpl:p.length≤1048576:=hk.each _ hmem
  have CL1:=fun w' {v:Value} (h:Cb w' v p.length p)=>(show Calls Tryd.prog 28 [v].toArray w' (RetO (fun y:Option Addr×Nat=>.slice y.1 p.length y.2) (fun y oa=>OwnB 5 (.slice y.1 p.length y.2) p.length p oa) w') from (CL w' h (by omega)).mono fun e w2 ⟨y,oa,h1,h2,h3⟩=>by
   obtain ⟨pp,cc,rfl,_⟩:=h2.own.ln.out
   exact ⟨(pp,cc),oa,h1,h2,h3⟩)
  have u1:decide ((i:Int)<(l.length:Int))=true:=decide_eq_true (by omega)
  have u2:IntKind.i64.wrap ((i:Int)+1)=((i+1:Nat):Int):=by rw [wrap_i64 _ (by omega) (by omega)];omega
  have j1:(i:Int)<(l.length:Int):=by omega
  clear CL hbody hcb hx hmem hk
  repeat' (first|(refine wlS ?_)|(refine wlB ?_)|(refine wlE ?_)|(refine efSvao ?_;intro v oa ho)|(refine efZCnn ?_;intro n hn)|((with_reducible refine sel_call ?_);first|(refine wl_newO rfl rfl rfl rfl rfl (fun w hm=>by with_reducible exact CL1 w (VwB.out w hm)) ?_;intro x oa hx))|(refine efBnn ?_;intro n hn)|(refine efB ?_)|(refine efBS ?_)|(refine wl_skip rfl rfl ?_)|((with_reducible refine wc_seq ?_);intro K hK)|(refine auC ?_)|(refine wc_cond rfl (fun hc=>?_) (fun hc=>?_))|(refine wc_draw (by kernel_rfl) (by kernel_rfl) (by decide +kernel) ?_;intro w0 hw0 hm0;(try simp only [List.append_eq,List.cons_append,List.nil_append]))|(refine auP ?_)|((refine auR ?_);clear hK K)|(refine auR ?_)|((with_reducible refine hK _ _ ?_);clear hK K)|fail)
  rename_i oc vs os hs
  refine ⟨⟨i+1,its++[(kk,.slice x.1 p.length x.2,p)],v,oa,ob++oc⟩,⟨hlt,by dsimp only;rw [atsC_app];exact ho,hb.app (BodF.one hx),?_,by simp [hil]⟩,by dsimp only;omega,Fits.of ⟨rfl,rfl,rfl,rfl,trivial⟩ ?_ rfl⟩
  ·dsimp only
   rw [abs_app,he,List.take_add_one,hlx,abs_app];rfl
  ·dsimp only
   repeat (first|exact SubL.nil|exact SubL.refl _|refine SubL.keep ?_|exact SubL.headA _ _|refine SubL.keepA ?_ _|refine SubL.skip ?_|refine SubL.skipA ?_ _)
 ·obtain rfl:i=l.length:=by omega
  have u1:decide ((l.length:Int)<(l.length:Int))=false:=decide_eq_false (by omega)
  rw [List.take_length] at he
  clear CL hbody
  repeat' (first|(refine wlS ?_)|(refine wlB ?_)|(refine wlE ?_)|(refine efSvao ?_;intro v oa ho)|(refine efBnn ?_;intro n hn)|(refine efB ?_)|(refine efBS ?_)|(refine wl_skip rfl rfl ?_)|((with_reducible refine wc_seq ?_);intro K hK)|(refine auC ?_)|(refine wc_cond rfl (fun hc=>?_) (fun hc=>?_))|(refine wc_draw (by kernel_rfl) (by kernel_rfl) (by decide +kernel) ?_;intro w0 hw0 hm0;(try simp only [List.append_eq,List.cons_append,List.nil_append]))|(refine auP ?_)|((refine auR ?_);clear hK K)|(refine auR ?_)|((with_reducible refine hK _ _ ?_);clear hK K)|fail)
  first|refine end_ret (ResP.tmp rfl ResP.nil) ?_|refine end_normal (ResP.tmp rfl ResP.nil) ?_
  (try dsimp only [tupV])
  exact ⟨u,oo++ob,rfl,⟨its,⟨oo,ob,fun q h=>h,by rw [hil];exact ho,hb⟩,he⟩,SubL.refl _⟩
end Go.Proofs.YthigacbelefadaaDoor
namespace Go.Proofs.YthigacbelefadaaDoor
set_option linter.unusedVariables false
set_option linter.unusedSimpArgs false
abbrev Kp:=Int×Int×Value×List Att×Nat
def kpV (x:Kp):Value:=.agg #[.int .i64 x.1,.int .i64 x.2.1,x.2.2.1]
def kpE (x:Kp):Ent:=(x.1,kpV x,x.2.2.2.2)
structure Sto where
 most:Int
 next:Int
 m:List Kp
 clock:Nat
def stoC (g:Nat)(S:Sto):Array Value:=#[.int .i64 S.most,.int .i64 S.next,.map (some g)]
structure StoOk (S:Sto):Prop where
 lo:1≤S.most
 hi:S.most≤16
 next0:1≤S.next
 next1:S.next≤1073741824
 few:(S.m.length:Int)≤S.most
 lt:∀ x∈S.m,x.2.2.2.2<S.clock
 nd:(S.m.map (·.2.2.2.2)).Nodup
 rise:(S.m.map (·.1)).Pairwise (· < ·)
 pos:∀ x∈S.m,1≤x.1∧x.1<S.next
theorem lt_nodup {l:List Int}(h:l.Pairwise (· < ·)):l.Nodup:=by
 rw [List.nodup_iff_pairwise_ne]
 exact h.imp fun hlt e=>by omega
theorem StoOk.keys {S:Sto}(h:StoOk S):(S.m.map (·.1)).Nodup:=lt_nodup h.rise
theorem StoOk.mok {S:Sto}(h:StoOk S):MOk (S.m.map kpE) S.clock where
 lt:=fun x hx=>by obtain ⟨y,hy,rfl⟩:=List.mem_map.1 hx;exact h.lt y hy
 nd:=by have:=h.nd;simpa [kpE,Function.comp_def] using this
 keys:=by have:=h.keys;simpa [kpE,Function.comp_def] using this
theorem StoOk.wf {S:Sto}(h:StoOk S):∀ x∈S.m.map kpE,(Lit.int .i64 x.1).wf=true:=fun x hx=>by
 obtain ⟨y,hy,rfl⟩:=List.mem_map.1 hx
 have h1:=h.pos y hy
 have h2:=h.next1
 have h3:(kpE y).1=y.1:=rfl
 rw [h3]
 have e1:IntKind.i64.min = -9223372036854775808:=rfl
 have e2:IntKind.i64.max=9223372036854775807:=rfl
 simp only [Lit.wf,e1,e2,Bool.and_eq_true,decide_eq_true_eq]
 omega
def kget (m:List Kp)(k:Int):Option Kp:=m.find? fun x=>x.1 == k
theorem mfind_kp (k:Int):∀ (m:List Kp) (i:Nat),(mfind k (m.map kpE) i).map (·.2)=(kget m k).map kpV
 | [],_=>rfl
 | x::r,i=>by
  rw [List.map_cons,mfind,kget,List.find?_cons]
  by_cases e:k=x.1
  ·subst e;simp [kpE]
  ·rw [show (k == (kpE x).1)=false by simpa [kpE] using e,cond_false,show (x.1 == k)=false by simpa using fun h=>e h.symm]
   exact mfind_kp k r (i+1)
theorem mget_kp (m:List Kp)(k:Int):mget (m.map kpE) k=(kget m k).map kpV:=mfind_kp k m 0
theorem kget_of {m:List Kp}(h:(m.map (·.1)).Nodup){x:Kp}(hx:x∈m):kget m x.1=some x:=by
 induction m with
 | nil=>cases hx
 | cons y r ih=>
  rw [List.map_cons,List.nodup_cons] at h
  rw [kget,List.find?_cons]
  rcases List.mem_cons.1 hx with rfl|hx
  ·simp
  ·have:(y.1 == x.1)=false:=by
    simp only [beq_eq_false_iff_ne,ne_eq]
    exact fun e=>h.1 (by rw [e];exact List.mem_map_of_mem hx)
   rw [this]
   exact ih h.2 hx
theorem kget_mem {m:List Kp}{k:Int}{x:Kp}(h:kget m k=some x):x∈m∧x.1=k:=
 ⟨List.mem_of_find?_eq_some h,by simpa using List.find?_some h⟩
theorem kget_none {m:List Kp}{k:Int}:kget m k=none↔∀ x∈m,x.1≠k:=by
 unfold kget
 rw [List.find?_eq_none]
 simp
def kdel (m:List Kp)(k:Int):List Kp:=m.filter fun x=>x.1 != k
theorem mfind_shiftK (k:Int):∀ (m:List Ent) (i:Nat),mfind k m (i+1)=(mfind k m i).map fun x=>(x.1+1,x.2)
 | [],_=>rfl
 | x::r,i=>by
  rw [mfind,mfind]
  cases k == x.1 with
  | true=>rfl
  | false=>exact mfind_shiftK k r (i+1)
theorem kdel_none {m:List Kp}{k:Int}(h:∀ x∈m,x.1≠k):kdel m k=m:=List.filter_eq_self.2 fun x hx=>by simpa using h x hx
theorem mdel_kp:∀ {m:List Kp} (k:Int),(m.map (·.1)).Nodup→mdel (m.map kpE) k=(kdel m k).map kpE
 | [],_,_=>rfl
 | x::r,k,h=>by
  rw [List.map_cons,List.nodup_cons] at h
  unfold mdel
  rw [List.map_cons,mfind]
  by_cases e:k=x.1
  ·subst e
   have hk:kdel (x::r) x.1=r:=by
    rw [kdel,List.filter_cons]
    simp only [bne_self_eq_false,Bool.false_eq_true,if_false]
    exact kdel_none fun y hy he=>h.1 (by rw [←he];exact List.mem_map_of_mem hy)
   rw [hk]
   simp [kpE]
  ·have hk:kdel (x::r) k=x::kdel r k:=by
    rw [kdel,List.filter_cons,if_pos (by simpa using fun h=>e h.symm)]
    rfl
   rw [hk,show (k == (kpE x).1)=false by simpa [kpE] using e,cond_false,mfind_shiftK]
   have ih:=mdel_kp k h.2
   unfold mdel at ih
   rw [List.map_cons,←ih]
   cases mfind k (r.map kpE) 0 with
   | none=>rfl
   | some y=>rfl
theorem mset_kp {m:List Kp}{x:Kp}{clock:Nat}(h:kget m x.1=none)(hc:x.2.2.2.2=clock):mset (m.map kpE) x.1 (kpV x) clock=((m++[x]).map kpE,clock+1):=by
 unfold mset
 have h1:=mget_kp m x.1
 rw [h] at h1
 unfold mget at h1
 cases h2:mfind x.1 (m.map kpE) 0 with
 | some y=>rw [h2] at h1;cases h1
 | none=>subst hc;simp [kpE]
theorem sto_new {most next:Int}(h:1≤most∧most≤16)(h':1≤next∧next≤1073741824):StoOk ⟨most,next,[],0⟩:=
 ⟨h.1,h.2,h'.1,h'.2,by simp;omega,by simp,by simp,by simp,by simp⟩
theorem StoOk.del {S:Sto}(h:StoOk S)(k:Int):StoOk {S with m:=kdel S.m k}:=by
 have hs:(kdel S.m k).Sublist S.m:=List.filter_sublist
 exact ⟨h.lo,h.hi,h.next0,h.next1,by have:=h.few;have:=hs.length_le;dsimp only;omega,fun x hx=>h.lt x (hs.subset hx),(hs.map _).nodup h.nd,h.rise.sublist (hs.map _),fun x hx=>h.pos x (hs.subset hx)⟩
theorem StoOk.add {S:Sto}(h:StoOk S){k o:Int}{v:Value}{its:List Att}{nx:Int}(hf:(S.m.length:Int)<S.most)(hk:1≤k)(hbe:∀ x∈S.m,x.1<k)(hn:k<nx)(hn2:S.next≤nx)(hn1:nx≤1073741824) :
  StoOk ⟨S.most,nx,S.m++[(k,o,v,its,S.clock)],S.clock+1⟩:=by
 refine ⟨h.lo,h.hi,by have:=h.next0;dsimp only;omega,hn1,by simp;omega,fun x hx=>?_,?_,?_,fun x hx=>?_⟩
 ·dsimp only
  rcases List.mem_append.1 hx with hx|hx
  ·have:=h.lt x hx;omega
  ·simp only [List.mem_singleton] at hx;subst hx;exact Nat.lt_succ_self _
 ·dsimp only
  rw [List.map_append,List.nodup_append]
  refine ⟨h.nd,by simp,fun a ha b hb e=>?_⟩
  simp at hb;subst hb;subst e
  obtain ⟨y,hy,he⟩:=List.mem_map.1 ha
  have:=h.lt y hy
  omega
 ·dsimp only
  rw [List.map_append,List.pairwise_append]
  refine ⟨h.rise,by simp,fun a ha b hb=>?_⟩
  simp at hb;subst hb
  obtain ⟨y,hy,rfl⟩:=List.mem_map.1 ha
  exact hbe y hy
 ·dsimp only
  rcases List.mem_append.1 hx with hx|hx
  ·have:=h.pos x hx;omega
  ·simp only [List.mem_singleton] at hx;subst hx;exact ⟨hk,hn⟩
def KpF (ob:Blks)(m:List Kp):Prop:=∀ x∈m,AtF (Hd ob) x.2.2.1 x.2.2.2.1∧Small x.2.2.2.1
theorem KpF.nil (ob:Blks):KpF ob []:=fun x hx=>by cases hx
theorem KpF.sub {ob:Blks}{m m':List Kp}(h:KpF ob m)(hs:∀ x∈m',x∈m):KpF ob m':=fun x hx=>h x (hs x hx)
theorem AtF.weak {Φ Ψ:World→Prop}{v:Value}{l:List Att}(h:AtF Φ v l)(hs:∀ w,Ψ w→Φ w):AtF Ψ v l:=⟨⟨h.cs.ln,fun w hw=>h.cs.out w (hs w hw)⟩,fun w hw=>h.out w (hs w hw)⟩
theorem KpF.more {ob oc:Blks}{m:List Kp}(h:KpF ob m)(hs:∀ p∈ob,p∈oc):KpF oc m:=fun x hx=>⟨(h x hx).1.weak fun w hw p hp=>hw p (hs p hp),(h x hx).2⟩
theorem KpF.app {ob:Blks}{m m':List Kp}(h:KpF ob m)(h':KpF ob m'):KpF ob (m++m'):=fun x hx=>by
 rcases List.mem_append.1 hx with hx|hx
 ·exact h x hx
 ·exact h' x hx
end Go.Proofs.YthigacbelefadaaDoor
namespace Go.Proofs.YthigacbelefadaaDoor
open Go.RowKit
set_option linter.unusedVariables false
set_option linter.unusedSimpArgs false
set_option maxRecDepth 100000
def stoB (b g:Nat)(S:Sto):Blks:=[(b,(stoC g S,101)),(g,mapB (S.m.map kpE) S.clock)]
theorem sto_nd {b g:Nat}{S:Sto}(h:b≠g):(keys (stoB b g S)).Nodup:=by simp [keys,stoB,h]
abbrev He:=Int×Int×Value×List Att
def heC (x:He):List Value:=[.int .i64 x.1,.int .i64 x.2.1,x.2.2.1]
def hesC (l:List He):List Value:=(l.map heC).flatten
theorem hesC_len:∀ l:List He,(hesC l).length=l.length * 3
 | []=>rfl
 | x::r=>by
  have:=hesC_len r
  simp only [hesC,List.map_cons,List.flatten_cons,List.length_append,List.length_cons] at *
  rw [this]
  simp only [heC,List.length_cons,List.length_nil]
  omega
theorem hesC_app (a b:List He):hesC (a++b)=hesC a++hesC b:=by simp [hesC]
theorem hesC_get:∀ {l:List He} {i:Nat} {x:He},l[i]? = some x→((hesC l).drop (i * 3)).take 3=heC x
 | [],i,x,h=>by simp at h
 | y::r,0,x,h=>by
  simp only [List.getElem?_cons_zero,Option.some.injEq] at h
  subst h
  simp [hesC,heC]
 | y::r,i+1,x,h=>by
  rw [List.getElem?_cons_succ] at h
  have:=hesC_get h
  rw [show (i+1) * 3=3+i * 3 by omega,←List.drop_drop]
  have e:(hesC (y::r)).drop 3=hesC r:=by simp [hesC,heC]
  rw [e];exact this
abbrev Ho:=Int×Int×List Ab
def absH (x:He):Ho:=(x.1,x.2.1,abs x.2.2.2)
def absK (x:Kp):Ho:=(x.1,x.2.1,abs x.2.2.2.1)
def BodH (Ψ:World→Prop)(l:List He):Prop:=∀ x∈l,AtF Ψ x.2.2.1 x.2.2.2
theorem BodH.nil {Ψ:World→Prop}:BodH Ψ []:=fun x hx=>by cases hx
theorem BodH.app {a b:Blks}{l m:List He}(h:BodH (Hd a) l)(h':BodH (Hd b) m):BodH (Hd (a++b)) (l++m):=fun x hx=>by
 rcases List.mem_append.1 hx with hx|hx
 ·exact (h x hx).weak fun w hw=>hw.left
 ·exact (h' x hx).weak fun w hw=>hw.right
theorem BodH.one {h o:Int}{v:Value}{its:List Att}{oa:Blks}(ht:OwnT v its oa):BodH (Hd oa) [(h,o,v,its)]:=fun x hx=>by
 simp only [List.mem_singleton] at hx
 subst hx
 exact ht.atf
structure OwnH (v:Value)(l:List He)(oa:Blks):Prop where
 out:∃ oo ob,(∀ q∈oo++ob,q∈oa)∧OwnL 49 3 v l.length (hesC l) oo∧BodH (Hd ob) l
theorem OwnH.cs {v:Value}{l:List He}{oa:Blks}(h:OwnH v l oa):CsF (Hd oa) v l.length (hesC l):=by
 obtain ⟨oo,ob,hs,h1,h2⟩:=h.out
 exact ⟨h1.ln,fun w hw=>h1.cs.out w fun q hq=>hw q (hs q (List.mem_append_left _ hq))⟩
theorem OwnH.bod {v:Value}{l:List He}{oa:Blks}(h:OwnH v l oa):BodH (Hd oa) l:=by
 obtain ⟨oo,ob,hs,h1,h2⟩:=h.out
 exact fun x hx=>(h2 x hx).weak fun w hw q hq=>hw q (hs q (List.mem_append_right _ hq))
section
variable {b g:Nat}{S:Sto}
theorem stoB_heap {w:World}(hd:Hd (stoB b g S) w):w.heap[b]? = some (.cells (stoC g S) 101)∧w.heap[g]? = some (.map ((S.m.map kpE).map entE).toArray S.clock):=
 ⟨(hd _ (List.mem_cons_self (l:=[(g,mapB (S.m.map kpE) S.clock)]))).trans (congrArg some (toObj_cells rfl)),(hd _ (List.mem_cons_of_mem (b,(stoC g S,101)) (List.mem_singleton.2 rfl))).trans (congrArg some (toObj_map _ _))⟩
def putS (S:Sto)(o:Int)(v:Value)(its:List Att):Sto:=⟨S.most,S.next+1,S.m++[(S.next,o,v,its,S.clock)],S.clock+1⟩
theorem own_o {w0 w:World}{v:Value}{l:List Att}(h:Ats w0 v l)(hk:Small l)(h2:Below w0.heap.size w0 w):Calls Tryd.prog 37 [v].toArray w (RetO (fun y:Option Addr×Nat×Nat=>.slice y.1 y.2.1 y.2.2) (fun y oa=>∃ its',OwnT (.slice y.1 y.2.1 y.2.2) its' oa∧abs its'=abs l) w):=
 (own_c w (h.below h2) hk).mono fun e w2 ⟨y,oa,h1,⟨it2,h2,h3⟩,h4⟩=>by
  obtain ⟨pp,cc,rfl,_⟩:=h2.ln.out
  exact ⟨(pp,_,cc),oa,h1,⟨it2,h2,h3⟩,h4⟩
end
end Go.Proofs.YthigacbelefadaaDoor
