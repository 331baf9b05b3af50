/- Slices of digests of 32 bytes. Calls that write blocks which they are given. The core. Calls that write blocks which they are given. The beginning of a slice of the walk's own is again one. A block of one's own,seen in a world. Worlds seen from one in which none of the walk's own blocks was. What arguments are that came in,with how much they hold: shapes built out of shapes. Arguments that are slices of slices of bytes,and slices of integers. Calls that write blocks of the walk's own,seen from a world in which none of these was. Bytes out of a seed: the state,and its next byte walked. Bytes out of a seed: Place,Skip,Bytes,New walked. Bytes out of a seed: Bytes walked. Bytes that are told as strings;bytes.Equal. Bytes out of a seed: the contracts,by key and place. Equality told by a fact about the values;a slice against nil. slices.Clone of bytes,walked. A lock's cells in memory. pin.Restore,walked: a lock,or none. -/
import Derived.Test.YthigacbelefadaaDoorJnAB
import Derived.Test.YthigacbelefadaaDoorLwH
import Derived.Test.YthigacbelefadaaDoorOwnB
import Derived.Test.YthigacbelefadaaDoorJnAA
import Derived.Test.YthigacbelefadaaDoorRows
import Derived.ChangeSlices
import Derived.OpenShut
import Derived.WideShapes
import Derived.DataReads
import Derived.ChangeSame
import Derived.Test.YthigacbelefadaaDoorTyS
import Derived.Laws.BytesArg
import Derived.Laws.Strings
import Derived.Test.YthigacbelefadaaDoorOwnOps
namespace Go.Proofs.YthigacbelefadaaDoor
open Go.RowKit
set_option linter.unusedVariables false
set_option linter.unusedSimpArgs false
def dgs (ds:List (List Nat)):List Value:=(ds.map bl).flatten
def Dgo (ds:List (List Nat)):Prop:=∀ d∈ds,d.length=32∧∀ x∈d,x<256
theorem dgs_app (a b:List (List Nat)):dgs (a++b)=dgs a++dgs b:=by simp [dgs]
theorem dgs_len:∀ {ds:List (List Nat)},Dgo ds→(dgs ds).length=ds.length * 32
 | [],_=>rfl
 | d::r,h=>by
  have:=dgs_len (ds:=r) fun x hx=>h x (by simp [hx])
  rw [dgs,List.map_cons,List.flatten_cons,List.length_append,bl_len,(h d (by simp)).1,←dgs,this,List.length_cons];omega
theorem dgs_drop:∀ {ds:List (List Nat)} (k:Nat),Dgo ds→(dgs ds).drop (k * 32)=dgs (ds.drop k)
 | [],k,_=>by simp [dgs]
 | d::r,0,_=>by simp
 | d::r,k+1,h=>by
  have:=dgs_drop (ds:=r) k fun x hx=>h x (by simp [hx])
  rw [List.drop_succ_cons,←this,dgs,List.map_cons,List.flatten_cons,←dgs,List.drop_append,bl_len,(h d (by simp)).1,List.drop_of_length_le (by rw [bl_len,(h d (by simp)).1];omega),List.nil_append]
  congr 1;omega
theorem dgs_take:∀ {ds:List (List Nat)} (k:Nat),Dgo ds→(dgs ds).take (k * 32)=dgs (ds.take k)
 | [],k,_=>by simp [dgs]
 | d::r,0,_=>by simp [dgs]
 | d::r,k+1,h=>by
  have:=dgs_take (ds:=r) k fun x hx=>h x (by simp [hx])
  rw [List.take_succ_cons,dgs,List.map_cons,List.flatten_cons,←dgs,List.take_append,bl_len,(h d (by simp)).1,List.take_of_length_le (by rw [bl_len,(h d (by simp)).1];omega),show (k+1) * 32 - 32=k * 32 by omega,this]
  rfl
theorem Dgo.drop {ds:List (List Nat)}(h:Dgo ds)(k:Nat):Dgo (ds.drop k):=fun d hd=>h d (List.mem_of_mem_drop hd)
theorem Dgo.take {ds:List (List Nat)}(h:Dgo ds)(k:Nat):Dgo (ds.take k):=fun d hd=>h d (List.mem_of_mem_take hd)
theorem Dgo.app {a b:List (List Nat)}(h:Dgo a)(h':Dgo b):Dgo (a++b):=fun d hd=>(List.mem_append.1 hd).elim (h d) (h' d)
theorem dgs_get {ds:List (List Nat)}{i:Nat}{d:List Nat}(h:Dgo ds)(hd:ds[i]? = some d):((dgs ds).drop (i * 32)).take 32=bl d:=by
 have hi:=(List.getElem?_eq_some_iff.1 hd).1
 rw [dgs_drop i h,show 32=1 * 32 from rfl,dgs_take 1 (h.drop i),List.drop_eq_getElem_cons hi,List.take_succ_cons,List.take_zero]
 have:=(List.getElem?_eq_some_iff.1 hd).2
 simp [dgs,this]
structure Cd (w:World)(v:Value)(n:Nat)(ds:List (List Nat)):Prop where
 cs:Cs w v n (dgs ds)
 len:ds.length=n
 ok:Dgo ds
class CsD (Φ:outParam (World→Prop))(v:Value)(n:outParam Nat)(ds:outParam (List (List Nat))):Prop where
 cs:CsF Φ v n (dgs ds)
 len:ds.length=n
 ok:Dgo ds
instance CsD.csf {Φ:World→Prop}{v:Value}{n:Nat}{ds:List (List Nat)}[h:CsD Φ v n ds]:CsF Φ v n (dgs ds):=h.cs
class OwnD (v:Value)(n:outParam Nat)(ds:outParam (List (List Nat)))(oa:outParam Blks):Prop where
 own:OwnL 23 32 v n (dgs ds) oa
 len:ds.length=n
 ok:Dgo ds
instance OwnD.csd {v:Value}{n:Nat}{ds:List (List Nat)}{oa:Blks}[h:OwnD v n ds oa]:CsD (Hd oa) v n ds:=⟨h.own.cs,h.len,h.ok⟩
instance CsD.nil:CsD (Hd []) (.slice none 0 0) 0 []:=⟨inferInstance,rfl,by intro d hd;cases hd⟩
theorem OwnD.nil:OwnD (.slice none 0 0) 0 [] []:=⟨OwnL.nil _ _,rfl,by intro d hd;cases hd⟩
instance:OwnD (.slice none 0 0) 0 [] []:=OwnD.nil
theorem Cd.old {W:World}{v:Value}{n:Nat}{ds:List (List Nat)}(h:Cd W v n ds):CsD (Old W []) v n ds:=⟨h.cs.old,h.len,h.ok⟩
theorem Cd.below {w w':World}{v:Value}{n:Nat}{ds:List (List Nat)}(h:Cd w v n ds)(hb:Below w.heap.size w w'):Cd w' v n ds:=⟨h.cs.below hb,h.len,h.ok⟩
class VwD (X:Cx)(l:Blks)(v:Value)(n:outParam Nat)(ds:outParam (List (List Nat))):Prop where
 out:∀ w,Mem X l w→Cd w v n ds
instance {X:Cx}{l:Blks}{Φ:World→Prop}{v:Value}{n:Nat}{ds:List (List Nat)}[h:CsD Φ v n ds][h':Hold X l Φ]:VwD X l v n ds:=⟨fun w hm=>⟨h.cs.out w (h'.out w hm),h.len,h.ok⟩⟩
section
variable {X:Cx}{s:Slots}{l:Blks}{o:Oper}{v:Value}{Q:Post}{ops:Array Oper}{r:List Oper}
theorem bl_bys (d:List Nat):(bl d).toArray=bys d:=by simp [bys]
theorem ld_D {t n i:Nat}{u:Value}{ds:List (List Nat)}{d:List Nat}[hu:KD X.P t true][hs:SZ X.P t 32][hv:VwD X l u n ds](hd:ds[i]? = some d:=by with_reducible assumption):Ld X l t (elB u) (elO u+i * 32) (.agg (bys d)):=fun w hm=>by
 have h:=hv.out w hm
 haveI:Vw X l u n (dgs ds):=⟨fun w hm=>(hv.out w hm).cs⟩
 have hne:bl d≠[]:=by
  have:=(h.ok d (List.mem_of_getElem? hd)).1
  intro e
  have:=bl_len d
  rw [e] at this
  simp at this
  omega
 have:=ld_OR (X:=X) (l:=l) (t:=t) (k:=32) (u:=u) (j:=i * 32) (cs:=bl d) (xs:=dgs ds) (dgs_get h.ok hd) (by rw [bl_len,(h.ok d (List.mem_of_getElem? hd)).1]) hne w hm
 rwa [bl_bys] at this
theorem wl_subD {t e n n' lo hi:Nat}{x:Operand}{ol oh:Option Operand}{Φ:World→Prop}{ds ds':List (List Nat)}{s':Value→Slots}(hg:gd s ops o=some true)(hd:dOk X.N o.dst=true)(ho:o.op=.slice t x ol oh none)(hx:val s x=some v)
  [ht:UT X.P t (.slice e)] [hs:SZ X.P e 32] {la ha:Int} [hv:CsD Φ v n ds] (hl:loV s ol=some la) (hh:hiV s n oh=some ha) (hnl:la=(lo:Int)) (hnh:ha=(hi:Int))
  (h:∀ v',CsD Φ v' n' ds'→Part v v' (lo * 32) n'→Wl X ops Q r (s' v') l)
  (h1:lo≤hi:=by first|(with_reducible assumption)|omega) (h2:hi≤n:=by first|(with_reducible assumption)|omega)
  (hn:hi - lo=n':=by first|(with_reducible assumption)|rfl) (hxs:(ds.drop lo).take (hi - lo)=ds':=by first|(with_reducible assumption)|rfl)
  (hs':∀ v',sputO s o.dst v'=s' v':=by intro _;(try dsimp only [sputO,sput,Nat.reduceBEq,cond_true,cond_false,beq_self_eq_true]);first|done|exact rfl):Wl X ops Q (o::r) s l:=by
 haveI:=hv.cs
 subst hn;subst hxs
 refine wl_sub (xs':=dgs ((ds.drop lo).take (hi - lo))) hg hd ho hx hl hh hnl hnh (fun v' h3 h4=>h v' ⟨h3,?_,(hv.ok.drop lo).take _⟩ h4) h1 h2 rfl (by rw [dgs_drop lo hv.ok,dgs_take _ (hv.ok.drop lo)]) hs'
 rw [List.length_take,List.length_drop,hv.len];omega
theorem wl_appendD {x y:Operand}{t bytes n m:Nat}{z:Array Value}{u:Value}{ds es:List (List Nat)}{oa:Blks}{f:Blks→Blks}{s':Value→Slots}
  (hg:gd s ops o=some true) (hd:dOk X.N o.dst=true) (hop:o.op=.call {callee:=.builtin .append,args:=#[x,y],argTypes:=#[t,t]})
  (hx:val s x=some v) (hy:val s y=some u) [ht:UT X.P t (.slice 23)] [hei:EI X.P 23 32 bytes z] [hown:OwnD v n ds oa] [hseg:Seg l oa f] [hu:VwD X l u m es]
  (h:∀ v' oa',OwnD v' (n+m) (ds++es) oa'→Wl X ops Q r (s' v') (f oa'))
  (h63:(n+m) * bytes≤1152921504606846976∧n+m≤1152921504606846976∧(n+m) * bytes≤140737488355328:=by (refine ⟨?_,?_,?_⟩ <;> omega))
  (hs':∀ v',sputO s o.dst v'=s' v':=by intro _;(try dsimp only [sputO,sput,Nat.reduceBEq,cond_true,cond_false,beq_self_eq_true]);first|done|exact rfl):Wl X ops Q (o::r) s l:=fun ac w hst=>by
 haveI:=hown.own
 have hq:=hu.out w hst.mem
 haveI:Vw X l u m (dgs es):=⟨fun w hm=>(hu.out w hm).cs⟩
 exact wl_appendO (ys:=dgs es) hg hd hop hx hy (fun v' oa' ho=>h v' oa' ⟨ho,by rw [List.length_append,hown.len,hq.len],hown.ok.app hq.ok⟩) (by rw [dgs_len hq.ok,hq.len]) (fun y hy=>by
  obtain ⟨a,ha,hy⟩:=List.mem_flatten.1 hy
  obtain ⟨d,_,rfl⟩:=List.mem_map.1 ha
  exact bl_one d y hy) h63 (dgs_app _ _).symm hs' ac w hst
theorem wl_bsliceD {t bytes:Nat}{z:Array Value}{ps:Array (Nat×Operand)}{d:List Nat}{f:Blks→Blks}{s':Value→Slots}
  (hg:gd s ops o=some true) (hd:dOk X.N o.dst=true) (hop:o.op=.buildSlice t 1 ps) (hx:valsP s ps.toList=some [(0,.agg (bys d))]) [ht:UT X.P t (.slice 23)] [hei:EI X.P 23 32 bytes z] [hf:Snoc l f] [hnb:NBy d 32]
  (h:∀ v' oa',OwnD v' 1 [d] oa'→Wl X ops Q r (s' v') (f oa')) (hby:∀ x∈d,x<256)
  (hs':∀ v',sputO s o.dst v'=s' v':=by intro _;(try dsimp only [sputO,sput,Nat.reduceBEq,cond_true,cond_false,beq_self_eq_true]);first|done|exact rfl):Wl X ops Q (o::r) s l:=by
 refine wl_bslice (k:=32) (xs:=dgs [d]) hg hd hop hx (fun v' oa' ho=>h v' oa' ⟨ho,rfl,fun e he=>?_⟩) rfl ?_ rfl (by decide) ?_ hs'
 ·simp only [List.mem_singleton] at he
  subst he
  exact ⟨hnb.out,hby⟩
 ·simp only [List.all_cons,List.all_nil,Bool.and_true,Value.cells,beq_iff_eq]
  simp [bys,bl_len,hnb.out]
 ·simp [Value.cells,bys,dgs]
end
section
variable {X:Cx}{G:Hg}{s:Slots}{b:Blks}{v:Value}{Q:Post}{l:List Nat}{fuel:Nat}
theorem wh_subD {i:Nat}{oi:Oper}{r:List Oper}{lp:Blks}{late:List Nat}{t e n n' lo hi:Nat}{x:Operand}{ol oh:Option Operand}{Φ:World→Prop}{p p':List (List Nat)}{s':Value→Slots}(hpk:pickS steadyB r idx l=some i)(hi':opAt r i=some oi)(hg:gd s r.toArray oi=some true)(hd:dOk X.N oi.dst=true)(ho:oi.op=.slice t x ol oh none)(hx:val s x=some v)
  [ht:UT X.P t (.slice e)] [hs:SZ X.P e 32] {la ha:Int} [hv:CsD Φ v n p] (hl:loV s ol=some la) (hh:hiV s n oh=some ha) (hnl:la=(lo:Int)) (hnh:ha=(hi:Int))
  (h:∀ v',CsD Φ v' n' p'→Part v v' (lo * 32) n'→Wh X ⟨r.toArray,lp,late⟩ Q fuel (i::l) (s' v') b)
  (h1:lo≤hi:=by first|(with_reducible assumption)|omega) (h2:hi≤n:=by first|(with_reducible assumption)|omega)
  (hn:hi - lo=n':=by first|(with_reducible assumption)|rfl) (hxs:(p.drop lo).take (hi - lo)=p':=by first|(with_reducible assumption)|rfl)
  (hs':∀ v',sputO s oi.dst v'=s' v':=by intro _;(try dsimp only [sputO,sput,Nat.reduceBEq,cond_true,cond_false,beq_self_eq_true]);first|done|exact rfl)
  (hr:(Region.ready .any r.toArray (arrOf r.toArray.size l)).contains i=true:=by kernel_rfl) (hns:Region.noSelect r.toArray=true:=by kernel_rfl) (hf:Region.free .any r.toArray (arrOf r.toArray.size l) i=true:=by kernel_rfl)
  (hn':memB i late=false:=by kernel_rfl):Wh X ⟨r.toArray,lp,late⟩ Q (fuel+1) l s b:=by
 obtain rfl:(fun v'=>sputO s oi.dst v')=s':=funext hs'
 subst hn;subst hxs
 obtain ⟨v',h3,h4,h5⟩:=sub_ex (xs':=dgs ((p.drop lo).take (hi - lo))) ho hx ht hs hv.cs hl hh hnl hnh h1 h2 rfl (by rw [dgs_drop lo hv.ok,dgs_take _ (hv.ok.drop lo)])
 exact wh_take hpk hi' hg hd h3 (.inl rfl) (h v' ⟨h4,by rw [List.length_take,List.length_drop,hv.len];omega,(hv.ok.drop lo).take _⟩ h5) rfl hr hns hf hn'
end
end Go.Proofs.YthigacbelefadaaDoor
namespace Go.Proofs.YthigacbelefadaaDoor
open Go.RowKit
set_option linter.unusedVariables false
set_option linter.unusedSimpArgs false
def RetU {T:Type}(mk:T→Value)(oa:Blks)(Φ:T→Blks→Prop)(w:World)(e:Ending)(w':World):Prop:=∃ x oa',e=.returned (mk x)∧Φ x oa'∧Upd w oa w' oa'
theorem Mem.initO {P:Program}{W:World}{N:Nat}{oa:Blks}(nd:(keys oa).Nodup)(hd:Hd oa W):Mem ⟨P,W,N,keys oa⟩ oa W:=
 ⟨nd,⟨rfl,rfl,rfl,Nat.le_refl _,fun _ _ _=>rfl,fun k c t h=>hd (k,(c,t)) (mu_in h)⟩,fun _ h _=>h⟩
theorem Mem.toUpd {P:Program}{W w:World}{N:Nat}{oa oa':Blks}(hm:Mem ⟨P,W,N,keys oa⟩ oa' w):Upd W oa w oa':=
 ⟨hm.cls.os,hm.cls.tape,hm.cls.output,hm.cls.size,fun k hk hn=>hm.cls.old k hk hn,hm.nd,fun p hp=>hm.cls.now p.1 p.2.1 p.2.2 (mu_mem_of hp hm.nd),fun n hn=>by
  rcases Nat.lt_or_ge n W.heap.size with h|h
  ·exact .inl (hm.fresh n hn h)
  ·exact .inr h⟩
theorem fn_upd {T:Type}{mk:T→Value}{oa:Blks}{Φ:T→Blks→Prop}{P:Program}{f:Nat}{fn:Func}{c:Code}{vs:List Value}{W:World}{N:Nat}(hf:P.funcs[f]? = some fn)(hb:fn.body=some c)(hN:fn.ntmps=N){rs:List ResultVar}(hrs:fn.results=rs.toArray)(hl:vs.length≤N)
  (nd:(keys oa).Nodup) (hd:Hd oa W) (h:Wc ⟨P,W,N,keys oa⟩ c (endP ⟨P,W,N,keys oa⟩ rs fun u l=>∃ x oa',u=mk x∧Φ x oa'∧SubL oa' l) (initS vs 0) oa):Calls P f vs.toArray W (RetU mk oa Φ W):=
 (fn_calls hf hb hN hrs hl (Mem.initO nd hd) h).mono fun e w' ⟨u,l,he,⟨x,oa',hu,hφ,hs⟩,hm⟩=>⟨x,oa',by rw [he,hu],hφ,(hm.sub hs).toUpd⟩
theorem Cs.oldX {W:World}{v:Value}{n:Nat}{xs:List Value}{own:List Nat}(h:Cs W v n xs)(ha:elB v∉own):CsF (Old W own) v n xs:=⟨h.ln,fun w ho=>h.stay fun b off cap hv hlt=>ho b hlt (by subst hv;exact ha)⟩
theorem Cb.oldX {W:World}{v:Value}{n:Nat}{p:List Nat}{own:List Nat}(h:Cb W v n p)(ha:elB v∉own):CsB (Old W own) v n p:=⟨h.cs.oldX ha,h.ok⟩
section
variable {X:Cx}{s:Slots}{l:Blks}{o:Oper}{v:Value}{Q:Post}{ops:Array Oper}{r:List Oper}
theorem Mem.hd {w:World}{oa:Blks}{f:Blks→Blks}(hm:Mem X l w)[hs:Seg l oa f]:Hd oa w:=fun p hp=>by
 obtain ⟨pre,post,rfl,_⟩:=hs.out
 exact hm.cls.now p.1 p.2.1 p.2.2 (mu_mem_of (by simp [hp]) hm.nd)
theorem wl_updO {T:Type}{mk:T→Value}{oa:Blks}{Φ:T→Blks→Prop}{c:Call}{fi:Nat}{vs:List Value}{f:Blks→Blks}{s':T→Slots}(hg:gd s ops o=some true)(hd:dOk X.N o.dst=true)(ho:o.op=.call c)(hc:c.callee=.value (.func fi))(ha:vals s c.args.toList=some vs)
  (hC:∀ w,Mem X l w→Hd oa w→Calls X.P fi vs.toArray w (RetU mk oa Φ w)) [hf:Seg l oa f] (h:∀ x oa',Φ x oa'→Wl X ops Q r (s' x) (f oa')) (hk:callOk X.P fi=true:=by kernel_rfl)
  (hs':∀ x,sputO s o.dst (mk x)=s' x:=by intro _;(try dsimp only [sputO,sput,Nat.reduceBEq,cond_true,cond_false,beq_self_eq_true]);first|done|exact rfl):Wl X ops Q (o::r) s l:=fun a w hst=>by
 obtain rfl:(fun x=>sputO s o.dst (mk x))=s':=funext hs'
 have hw:=gd_wanted hst.env hg
 unfold wpList
 rw [if_pos hw]
 refine .inl ?_
 unfold Oper.wp
 rw [run_op_call ho hc hst.env ha,run_enter hk]
 refine (hC w hst.mem hst.mem.hd).mono fun e w' ⟨x,oa',he,hφ,hup⟩=>?_
 subst he
 exact h x oa' hφ _ _ ⟨hst.env.put hd _,hup.mem hst.mem⟩
end
end Go.Proofs.YthigacbelefadaaDoor
namespace Go.Proofs.YthigacbelefadaaDoor
open Go.RowKit
set_option linter.unusedVariables false
set_option linter.unusedSimpArgs false
section
variable {X:Cx}{s:Slots}{l:Blks}{o:Oper}{v:Value}{Q:Post}{ops:Array Oper}{r:List Oper}
def RetP {T:Type}(mk:T→Value)(n:Nat)(c:Array Value)(t:TypeId)(Φ:T→Array Value→Prop)(w:World)(e:Ending)(w':World):Prop:=∃ x c',e=.returned (mk x)∧Φ x c'∧Upd w [(n,(c,t))] w' [(n,(c',t))]
theorem fn_updP {T:Type}{mk:T→Value}{n:Nat}{cs:Array Value}{t:TypeId}{Φ:T→Array Value→Prop}{P:Program}{f:Nat}{fn:Func}{c:Code}{vs:List Value}{W:World}{N:Nat}(hf:P.funcs[f]? = some fn)(hb:fn.body=some c)(hN:fn.ntmps=N){rs:List ResultVar}(hrs:fn.results=rs.toArray)(hl:vs.length≤N)
  (hd:W.heap[n]? = some (.cells cs t)) (h:Wc ⟨P,W,N,[n]⟩ c (endP ⟨P,W,N,[n]⟩ rs fun u l=>∃ x c',u=mk x∧Φ x c'∧SubL [(n,(c',t))] l) (initS vs 0) [(n,(cs,t))]) (htb:Nat.blt t BIG=true:=by first|rfl|assumption):Calls P f vs.toArray W (RetP mk n cs t Φ W):=
 (fn_calls hf hb hN hrs hl (Mem.initO (oa:=[(n,(cs,t))]) (by simp [keys]) (hd_one (hd.trans (congrArg some (toObj_cells htb).symm)))) h).mono fun e w' ⟨u,l,he,⟨x,c',hu,hφ,hs⟩,hm⟩=>⟨x,c',by rw [he,hu],hφ,(hm.sub hs).toUpd⟩
theorem At.ex {n:Nat}{x:Array Value×TypeId}(y:Array Value×TypeId){l l':Blks}(h:At l n x y l'):∃ pre post,l=pre++((n,x)::post)∧l'=pre++((n,y)::post):=by
 induction h with
 | here=>exact ⟨[],_,rfl,rfl⟩
 | there _ ih=>
  obtain ⟨pre,post,h1,h2⟩:=ih
  exact ⟨_::pre,post,by rw [h1];rfl,by rw [h2];rfl⟩
theorem wl_updP {T:Type}{mk:T→Value}{n:Nat}{cs:Array Value}{t:TypeId}{Φ:T→Array Value→Prop}{c:Call}{fi:Nat}{vs:List Value}{l':Array Value→Blks}{s':T→Slots}(hg:gd s ops o=some true)(hd:dOk X.N o.dst=true)(ho:o.op=.call c)(hc:c.callee=.value (.func fi))(ha:vals s c.args.toList=some vs)
  (hC:∀ w,Mem X l w→w.heap[n]? = some (.cells cs t)→Calls X.P fi vs.toArray w (RetP mk n cs t Φ w)) (h:∀ x c',Φ x c'→Wl X ops Q r (s' x) (l' c')) (hk:callOk X.P fi=true:=by kernel_rfl)
  (hat:∀ c',At l n (cs,t) (c',t) (l' c'):=by intro _;repeat (first|exact At.here|apply At.there))
  (hs':∀ x,sputO s o.dst (mk x)=s' x:=by intro _;(try dsimp only [sputO,sput,Nat.reduceBEq,cond_true,cond_false,beq_self_eq_true]);first|done|exact rfl) (htb:Nat.blt t BIG=true:=by first|rfl|assumption):Wl X ops Q (o::r) s l:=fun a w hst=>by
 obtain rfl:(fun x=>sputO s o.dst (mk x))=s':=funext hs'
 have hw:=gd_wanted hst.env hg
 unfold wpList
 rw [if_pos hw]
 refine .inl ?_
 unfold Oper.wp
 rw [run_op_call ho hc hst.env ha,run_enter hk]
 refine (hC w hst.mem (Has.at (hat cs) htb w hst.mem)).mono fun e w' ⟨x,c',he,hφ,hup⟩=>?_
 subst he
 refine h x c' hφ _ _ ⟨hst.env.put hd _,?_⟩
 obtain ⟨pre,post,e1,e2⟩:=At.ex _ (hat c')
 haveI:Seg l [(n,(cs,t))] (fun o=>pre++(o++post)):=⟨pre,post,by rw [e1];rfl,fun _=>rfl⟩
 have:=hup.mem hst.mem
 rw [e2]
 exact this
end
end Go.Proofs.YthigacbelefadaaDoor
namespace Go.Proofs.YthigacbelefadaaDoor
open Go.RowKit
set_option linter.unusedVariables false
set_option maxRecDepth 100000
set_option linter.unusedSimpArgs false
instance {p:Nat×(Array Value×TypeId)}{oa r:Blks}:Seg (p::(oa++r)) (p::oa) (fun o=>o++r):=⟨[],r,rfl,fun _=>rfl⟩
theorem OwnL.cut {e k:Nat}{n hi cap:Nat}{p:Option Addr}{xs:List Value}{oa:Blks}(h:OwnL e k (.slice p n cap) n xs oa)(h2:hi≤n):OwnL e k (sliced p 0 hi cap k) hi (xs.take (hi * k)) oa:=by
 have hl:=h.len
 refine ⟨?_,?_,h.tb⟩
 ·rw [List.length_take,hl,Nat.min_eq_left (Nat.mul_le_mul_right _ h2)]
 ·rcases h.out with ⟨hv,h0,ho⟩ | ⟨g,c,cur,hv,hnc,hcm,hcs,htake,ho⟩
  ·injection hv with e1 e2 e3
   subst e1;subst e2;subst e3
   obtain rfl:hi=0:=by omega
   exact .inl ⟨by simp [sliced],rfl,ho⟩
  ·injection hv with e1 e2 e3
   subst e1;subst e3
   refine .inr ⟨g,cap,cur,?_,by omega,hcm,hcs,?_,ho⟩
   ·unfold sliced
    by_cases hc:cap=0
    ·simp [hc]
    ·simp [hc,Addr.add_mid]
   ·rw [←htake,List.take_take,Nat.min_eq_left (Nat.mul_le_mul_right _ h2)]
section
variable {X:Cx}{s:Slots}{l:Blks}{o:Oper}{v:Value}{Q:Post}{ops:Array Oper}{r:List Oper}
theorem cut_ex {t e k n hi:Nat}{x:Operand}{ol oh:Option Operand}{xs:List Value}{oa:Blks}(ho:o.op=.slice t x ol oh none)(hx:val s x=some v)
  (ht:UT X.P t (.slice e)) (hs:SZ X.P e k) {la ha:Int} (hv:OwnL e k v n xs oa) (hl:loV s ol=some la) (hh:hiV s n oh=some ha) (hnl:la=0) (hnh:ha=(hi:Int))
  (h2:hi≤n):∃ v',RdV X s [] o v'∧OwnL e k v' hi (xs.take (hi * k)) oa:=by
 subst hnl
 rw [hnh] at hh
 obtain ⟨p,cap,rfl,h3,h4,h5⟩:=hv.ln.out
 refine ⟨sliced p 0 hi cap k,fun ac w he hm=>?_,hv.cut h2⟩
 have hr:=run_sub (P:=X.P) (w:=w) he (p:=p) (lo:=0) ht.out hs hl hh (Nat.zero_le _) h2 h3
 simp only [execOp,ho,he.eval hx,Sem.run_bind,Option.map_none]
 rw [show (Instr.sliceAt t (Value.slice p n cap) (Option.map ac.eval ol) (Option.map ac.eval oh) none).run X.P w=_ from hr]
 simp
theorem wl_cutD {t n hi:Nat}{x:Operand}{ol oh:Option Operand}{ds ds':List (List Nat)}{oa:Blks}{s':Value→Slots}(hg:gd s ops o=some true)(hd:dOk X.N o.dst=true)(ho:o.op=.slice t x ol oh none)(hx:val s x=some v)
  [ht:UT X.P t (.slice 23)] [hs:SZ X.P 23 32] {la ha:Int} [hv:OwnD v n ds oa] (hl:loV s ol=some la) (hh:hiV s n oh=some ha) (hnl:la=0) (hnh:ha=(hi:Int))
  (h:∀ v',OwnD v' hi ds' oa→Wl X ops Q r (s' v') l)
  (h2:hi≤n:=by first|(with_reducible assumption)|omega) (hxs:ds.take hi=ds':=by first|(with_reducible assumption)|rfl)
  (hs':∀ v',sputO s o.dst v'=s' v':=by intro _;(try dsimp only [sputO,sput,Nat.reduceBEq,cond_true,cond_false,beq_self_eq_true]);first|done|exact rfl):Wl X ops Q (o::r) s l:=by
 obtain rfl:(fun v'=>sputO s o.dst v')=s':=funext hs'
 subst hxs
 obtain ⟨v',h3,h4⟩:=cut_ex ho hx ht hs hv.own hl hh hnl hnh h2
 exact wl_rd hg hd (RdV.rd fun a w he hm=>h3 a w he (hm.sub .nil)) (h v' ⟨by rw [dgs_take hi hv.ok] at h4;exact h4,by rw [List.length_take,hv.len];omega,hv.ok.take _⟩) rfl
end
section
variable {X:Cx}{G:Hg}{s:Slots}{b:Blks}{v:Value}{Q:Post}{l:List Nat}{fuel:Nat}
theorem wh_cutD {i:Nat}{oi:Oper}{r:List Oper}{lp:Blks}{late:List Nat}{t n hi:Nat}{x:Operand}{ol oh:Option Operand}{ds ds':List (List Nat)}{oa:Blks}{s':Value→Slots}(hpk:pickS steadyB r idx l=some i)(hi':opAt r i=some oi)(hg:gd s r.toArray oi=some true)(hd:dOk X.N oi.dst=true)(ho:oi.op=.slice t x ol oh none)(hx:val s x=some v)
  [ht:UT X.P t (.slice 23)] [hs:SZ X.P 23 32] {la ha:Int} [hv:OwnD v n ds oa] (hl:loV s ol=some la) (hh:hiV s n oh=some ha) (hnl:la=0) (hnh:ha=(hi:Int))
  (h:∀ v',OwnD v' hi ds' oa→Wh X ⟨r.toArray,lp,late⟩ Q fuel (i::l) (s' v') b)
  (h2:hi≤n:=by first|(with_reducible assumption)|omega) (hxs:ds.take hi=ds':=by first|(with_reducible assumption)|rfl)
  (hs':∀ v',sputO s oi.dst v'=s' v':=by intro _;(try dsimp only [sputO,sput,Nat.reduceBEq,cond_true,cond_false,beq_self_eq_true]);first|done|exact rfl)
  (hr:(Region.ready .any r.toArray (arrOf r.toArray.size l)).contains i=true:=by kernel_rfl) (hns:Region.noSelect r.toArray=true:=by kernel_rfl) (hf:Region.free .any r.toArray (arrOf r.toArray.size l) i=true:=by kernel_rfl)
  (hn':memB i late=false:=by kernel_rfl):Wh X ⟨r.toArray,lp,late⟩ Q (fuel+1) l s b:=by
 obtain rfl:(fun v'=>sputO s oi.dst v')=s':=funext hs'
 subst hxs
 obtain ⟨v',h3,h4⟩:=cut_ex ho hx ht hs hv.own hl hh hnl hnh h2
 exact wh_take hpk hi' hg hd h3 (.inl rfl) (h v' ⟨by rw [dgs_take hi hv.ok] at h4;exact h4,by rw [List.length_take,hv.len];omega,hv.ok.take _⟩) rfl hr hns hf hn'
end
end Go.Proofs.YthigacbelefadaaDoor
namespace Go.Proofs.YthigacbelefadaaDoor
open Go.RowKit
set_option linter.unusedVariables false
set_option linter.unusedSimpArgs false
theorem At.skipA {n:Nat}{x y:Array Value×TypeId}{r r':Blks}(h:At r n x y r'):∀ ob:Blks,At (ob++r) n x y (ob++r')
 | []=>h
 | _::o=>.there (At.skipA h o)
theorem Inn.skipA {n:Nat}{x:Array Value×TypeId}{r:Blks}(h:Inn r n x):∀ ob:Blks,Inn (ob++r) n x
 | []=>h
 | _::o=>.there (Inn.skipA h o)
theorem Has.sees {X:Cx}{l:Blks}{n:Nat}{c:Array Value}{e:Nat}{w:World}(hm:Mem X l w)(h:Inn l n (c,e):=by repeat (first|exact Inn.here (by first|with_unfolding_all rfl|assumption)|apply Inn.there|apply Inn.skipA)):w.heap[n]? = some (.cells c e):=Has.inn h w hm
end Go.Proofs.YthigacbelefadaaDoor
namespace Go.Proofs.YthigacbelefadaaDoor
open Go.RowKit
set_option linter.unusedVariables false
set_option maxRecDepth 100000
set_option linter.unusedSimpArgs false
theorem Msk.belowO {w0 W w:World}{own:List Nat}{m:Mu}(h:Msk W own m w)(hb:Below w0.heap.size w0 W)(hf:∀ k∈own,w0.heap.size≤k):Below w0.heap.size w0 w:=
 ⟨h.os.trans hb.os,h.tape.trans hb.tape,h.output.trans hb.output,Nat.le_trans hb.size h.size,fun k hk=>by
  rw [h.old k (Nat.lt_of_lt_of_le hk hb.size) (fun hin=>absurd (hf k hin) (by omega))]
  exact hb.block k hk⟩
theorem Mem.belowO {P:Program}{w0 W w:World}{N:Nat}{own:List Nat}{l:Blks}(h:Mem ⟨P,W,N,own⟩ l w)(hb:Below w0.heap.size w0 W)(hf:∀ k∈own,w0.heap.size≤k):Below w0.heap.size w0 w:=h.cls.belowO hb hf
theorem Mem.freshS {P:Program}{W w:World}{N:Nat}{l oa:Blks}{f:Blks→Blks}(h:Mem ⟨P,W,N,[]⟩ l w)[hs:Seg l oa f]:∀ k∈keys oa,W.heap.size≤k:=fun k hk=>by
 obtain ⟨pre,post,rfl,_⟩:=hs.out
 rcases Nat.lt_or_ge k W.heap.size with h1|h1
 ·have:=h.fresh k (by simp only [keys_app,List.mem_append];exact .inr (.inl hk)) h1
  cases this
 ·exact h1
theorem Mem.freshO {P:Program}{w0 W w:World}{N:Nat}{own:List Nat}{l oa:Blks}{f:Blks→Blks}(h:Mem ⟨P,W,N,own⟩ l w)(hb:Below w0.heap.size w0 W)(hf:∀ k∈own,w0.heap.size≤k)[hs:Seg l oa f]:∀ k∈keys oa,w0.heap.size≤k:=fun k hk=>by
 obtain ⟨pre,post,rfl,_⟩:=hs.out
 rcases Nat.lt_or_ge k W.heap.size with h1|h1
 ·exact hf k (h.fresh k (by simp only [keys_app,List.mem_append];exact .inr (.inl hk)) h1)
 ·exact Nat.le_trans hb.size h1
theorem Mem.freshK {P:Program}{W w:World}{N:Nat}{l:Blks}(h:Mem ⟨P,W,N,[]⟩ l w){n:Nat}{x:Array Value×TypeId}(hi:Inn l n x:=by repeat (first|exact Inn.here|apply Inn.there|apply Inn.skipA)):W.heap.size≤n:=by
 rcases Nat.lt_or_ge n W.heap.size with h1|h1
 ·have:=h.fresh n hi.at.mem h1
  cases this
 ·exact h1
theorem Mem.ndS {X:Cx}{w:World}{l oa:Blks}{f:Blks→Blks}(h:Mem X l w)[hs:Seg l oa f]:(keys oa).Nodup:=by
 obtain ⟨pre,post,rfl,_⟩:=hs.out
 have:=h.nd
 simp only [keys_app,List.nodup_append] at this
 exact this.2.1.1
theorem Cs.nl {W:World}{v:Value}{n:Nat}{xs:List Value}(h:Cs W v n xs)(hx:xs≠[]):elB v<W.heap.size:=by
 cases xs with
 | nil=>exact absurd rfl hx
 | cons y r=>
  obtain ⟨b,off,cap,rfl,hc⟩:=h.cell 0 y rfl
  exact World.block_lt_of_cell? _ _ hc
theorem Cs.oldY {W:World}{v:Value}{n:Nat}{xs:List Value}{own:List Nat}(h:Cs W v n xs)(ha:xs≠[]→elB v∉own):CsF (Old W own) v n xs:=by
 by_cases hx:xs=[]
 ·subst hx
  exact ⟨h.ln,fun w _=>⟨h.ln,fun j u hj=>by simp at hj⟩⟩
 ·exact h.oldX (ha hx)
theorem Cs.oldB {w0 W:World}{v:Value}{n:Nat}{xs:List Value}{own:List Nat}(h:Cs w0 v n xs)(hb:Below w0.heap.size w0 W)(hf:∀ k∈own,w0.heap.size≤k):CsF (Old W own) v n xs:=
 (h.below hb).oldY fun hx hin=>by
  have:=h.nl hx
  have:=hf _ hin
  omega
theorem Cb.oldB {w0 W:World}{v:Value}{n:Nat}{p:List Nat}{own:List Nat}(h:Cb w0 v n p)(hb:Below w0.heap.size w0 W)(hf:∀ k∈own,w0.heap.size≤k):CsB (Old W own) v n p:=⟨h.cs.oldB hb hf,h.ok⟩
theorem cell_of {w:World}{n j:Nat}{c:Array Value}{t:TypeId}{v:Value}(h:w.heap[n]? = some (.cells c t))(hv:c[j]? = some v):w.cell? ⟨n,j,none⟩=some v:=by
 simp [World.cell?,h,hv]
end Go.Proofs.YthigacbelefadaaDoor
namespace Go.Proofs.YthigacbelefadaaDoor
open Go.RowKit Go.ChangeShapes Go.WideShapes
set_option linter.unusedVariables false
set_option linter.unusedSimpArgs false
theorem bulk_one {H:Type}(d:DataW H):1≤Rows.uptoBulk d:=by
 cases d with
 | lit l=>cases l <;> simp [Rows.uptoBulk]
 | _=>simp [Rows.uptoBulk]
theorem bulk_len {H:Type}:∀ l:List (DataW H),l.length≤Rows.uptoBulkAll l
 | []=>Nat.zero_le _
 | d::r=>by have:=bulk_one d;have:=bulk_len r;simp only [Rows.uptoBulkAll,List.length_cons];omega
theorem bulk_sum {H:Type}:∀ l:List (DataW H),Rows.uptoBulkAll l=(l.map Rows.uptoBulk).sum
 | []=>rfl
 | d::r=>by simp only [Rows.uptoBulkAll,List.map_cons,List.sum_cons,bulk_sum r]
theorem bulk_slice {H:Type}(a b:List (DataW H)):Rows.uptoBulkAll a+1≤Rows.uptoBulk (.slice a b):=by simp only [Rows.uptoBulk];omega
theorem bulk_agg {H:Type}(a:List (DataW H)):Rows.uptoBulk (.agg a)=Rows.uptoBulkAll a+1:=by simp only [Rows.uptoBulk]
def Rdg (P:Program)(W:World)(t:TypeId)(F:List Value→Nat→Prop):Prop:=
 ∀ (H:Type) (enc:TypeId×Value→H) fuel cs x,DataW.trod enc P W 0 (fun _=>true) true fuel t cs=some x→F cs (Rows.uptoBulk x.1)
section
variable {P:Program}{W:World}{t e:TypeId}
theorem Rdg.mono {F G:List Value→Nat→Prop}(h:Rdg P W t F)(hg:∀ cs b,F cs b→G cs b):Rdg P W t G:=fun H enc fuel cs x hx=>hg _ _ (h H enc fuel cs x hx)
theorem rdg_int {k:IntKind}(ht:P.underlying t=some (.int k)):Rdg P W t fun cs b=>∃ z,cs=[.int k z]∧(Lit.int k z).wf=true:=fun H enc fuel cs x hx=>by
 obtain ⟨m,h1,h2,h3⟩:=DataW.trod_int ht hx
 exact ⟨m,h1,h3⟩
theorem spot_none {w:World}{a:Addr}{u:Value}(h:w.cell? a=some u):a.spot=none:=by
 simp only [World.cell?] at h
 split at h
 ·cases hs:a.spot with
  | none=>rfl
  | some x=>simp [hs] at h
 ·cases h
theorem rdg_slice {F:List Value→Nat→Prop}{k:Nat}(ht:P.underlying t=some (.slice e))(hk:P.cellsOf e=k)(hpos:0<k)(hF:Rdg P W e F) :
  Rdg P W t fun cs b=>∃ v n,∃ cc:List (List Value×Nat),cs=[v]∧cc.length=n∧(∀ c∈cc,F c.1 c.2∧c.1.length=k)∧Cs W v n (cc.map (·.1)).flatten∧(cc.map (·.2)).sum+1≤b:=fun H enc fuel cs x hx=>by
 rcases DataW.trod_slice ht hx with ⟨rfl,rfl⟩ | ⟨a,len,cap,elems,rest,n,rfl,rfl,rfl,_,hl,hm,hlen,hel,_,_⟩
 ·exact ⟨.slice none 0 0,0,[],rfl,rfl,by simp,⟨⟨none,0,rfl,Nat.le_refl _,Nat.zero_le _,fun h=>absurd h (by omega)⟩,fun j u h=>by simp at h⟩,by simp [Rows.uptoBulk]⟩
 ·have each:∀ i,i<len→∃ ci:List Value,W.cells? 0 (a.add (i * k)) k=some ci∧∃ y,elems[i]? = some y∧DataW.trod enc P W 0 (fun _=>true) true n e ci=some y:=fun i hi=>by
   have h1:=hel i hi
   rw [hk,List.getElem?_eq_getElem (by omega),Option.bind_eq_some_iff] at h1
   obtain ⟨ci,h2,h3⟩:=h1
   exact ⟨ci,h2,elems[i]'(by omega),List.getElem?_eq_getElem (by omega),h3⟩
  let f:Nat→List Value:=fun i=>(W.cells? 0 (a.add (i * k)) k).getD []
  have hf:∀ i,i<len→W.cells? 0 (a.add (i * k)) k=some (f i):=fun i hi=>by
   obtain ⟨ci,h2,_⟩:=each i hi
   simp only [f,h2,Option.getD_some]
  have hfl:∀ i,i<len→(f i).length=k:=fun i hi=>(World.cells?_some (hf i hi)).2.1
  refine ⟨.slice (some a) len cap,len,(List.range len).map fun i=>(f i,Rows.uptoBulk ((elems.map (·.1)).getD i .nil)),rfl,by simp,?_,?_,?_⟩
  ·intro c hc
   obtain ⟨i,hi,rfl⟩:=List.mem_map.1 hc
   have hi:=List.mem_range.1 hi
   refine ⟨?_,hfl i hi⟩
   obtain ⟨ci,h2,y,h3,h4⟩:=each i hi
   rw [hf i hi] at h2
   cases h2
   have:(elems.map (·.1)).getD i .nil=y.1:=by simp [List.getD,h3]
   dsimp only
   rw [this]
   exact hF H enc n _ y h4
  ·have sp:0<len→a.spot=none:=fun h0=>by
    have h1:=hf 0 h0
    rw [Nat.zero_mul] at h1
    have h2:=(World.cells?_some h1).2.2 0 hpos
    have hlt:0<(f 0).length:=by rw [hfl 0 h0];exact hpos
    rw [List.getElem?_eq_getElem hlt] at h2
    simpa [Addr.add] using spot_none h2
   have hfl':(List.map (fun x=>x.1) (List.map (fun i=>(f i,Rows.uptoBulk ((elems.map (·.1)).getD i .nil))) (List.range len))).flatten=((List.range len).map f).flatten:=by rw [List.map_map];rfl
   rw [hfl']
   refine ⟨⟨_,_,rfl,hl,hm,fun h0=>?_⟩,fun j u hj=>?_⟩
   ·obtain ⟨b,off,spot⟩:=a
    obtain rfl:spot=none:=sp h0
    exact ⟨b,off,rfl⟩
   ·have hfind:∀ m,(∀ i,i<m→i<len)→∀ j u,(((List.range m).map f).flatten)[j]? = some u→∃ i,i<m∧i * k≤j∧j<i * k+k∧(f i)[j - i * k]? = some u:=by
     intro m
     induction m with
     | zero=>intro _ j u h;simp at h
     | succ m ih=>
      intro hm' j u h
      have hlm:(((List.range m).map f).flatten).length=m * k:=by
       have:∀ q,q≤m→(((List.range q).map f).flatten).length=q * k:=fun q=>by
        induction q with
        | zero=>intro _;simp
        | succ q ihq=>intro hq;rw [List.range_succ,List.map_append,List.flatten_append,List.length_append,ihq (by omega)];simp [hfl q (hm' q (by omega)),Nat.succ_mul]
       exact this m (Nat.le_refl _)
      rw [List.range_succ,List.map_append,List.flatten_append] at h
      rcases Nat.lt_or_ge j (m * k) with hj|hj
      ·rw [List.getElem?_append_left (by omega)] at h
       obtain ⟨i,h1,h2,h3,h4⟩:=ih (fun i hi=>hm' i (by omega)) j u h
       exact ⟨i,by omega,h2,h3,h4⟩
      ·rw [List.getElem?_append_right (by omega),hlm] at h
       simp only [List.map_cons,List.map_nil,List.flatten_cons,List.flatten_nil,List.append_nil] at h
       have hlt:=(List.getElem?_eq_some_iff.1 h).1
       rw [hfl m (hm' m (by omega))] at hlt
       exact ⟨m,by omega,hj,by omega,h⟩
    obtain ⟨i,h1,h2,h3,h4⟩:=hfind len (fun i hi=>hi) j u hj
    obtain ⟨b,off,spot⟩:=a
    obtain rfl:spot=none:=sp (by omega)
    refine ⟨b,off,cap,rfl,?_⟩
    have h5:=(World.cells?_some (hf i h1)).2.2 (j - i * k) (by omega)
    rw [Addr.add_mid,Addr.add_mid,h4] at h5
    rw [←h5]
    congr 2
    omega
  ·have hb:=bulk_slice (elems.map (·.1)) (rest.map (·.1))
   rw [bulk_sum] at hb
   have:(List.map (fun x=>x.2) (List.map (fun i=>(f i,Rows.uptoBulk ((elems.map (·.1)).getD i .nil))) (List.range len)))=(elems.map (·.1)).map Rows.uptoBulk:=by
    rw [List.map_map]
    apply List.ext_getElem?
    intro i
    by_cases hi:i<len
    ·simp [hi,hlen,List.getD]
    ·simp [hi,hlen]
   rw [this]
   exact hb
theorem rdg_bytes (ht:P.underlying t=some (.slice e))(he:P.underlying e=some (.int .u8))(hk:P.cellsOf e=1):Rdg P W t fun cs b=>∃ v n p,cs=[v]∧Cb W v n p∧n+1≤b:=fun H enc fuel cs x hx=>by
 obtain ⟨v,n,cc,h1,h2,h3,h4,h5⟩:=rdg_slice ht hk (by decide) (rdg_int he) H enc fuel cs x hx
 have hb:∀ c∈cc,c.1=[.int .u8 ((byteOf (c.1.headD undef):Nat):Int)]∧byteOf (c.1.headD undef)<256:=fun c hc=>by
  obtain ⟨⟨z,hz,hw⟩,_⟩:=h3 c hc
  simp [Lit.wf,IntKind.min,IntKind.max,IntKind.signed,IntKind.bits] at hw
  rw [hz]
  simp only [List.headD_cons,byteOf]
  refine ⟨by rw [Int.toNat_of_nonneg hw.1],by omega⟩
 have hfl:∀ l:List (List Value×Nat),(∀ c∈l,c∈cc)→(l.map (·.1)).flatten=bl (l.map fun c=>byteOf (c.1.headD undef)):=fun l=>by
  induction l with
  | nil=>intro _;rfl
  | cons c r ih=>intro h;rw [List.map_cons,List.flatten_cons,ih fun d hd=>h d (by simp [hd]),(hb c (h c (by simp))).1];simp [bl,byteOf]
 have hsum:∀ l:List (List Value×Nat),(∀ c∈l,c∈cc)→True:=fun _ _=>trivial
 refine ⟨v,n,cc.map fun c=>byteOf (c.1.headD undef),h1,⟨by rw [←hfl cc fun _ h=>h];exact h4,⟨by rw [List.length_map,h2],fun y hy=>?_⟩⟩,?_⟩
 ·obtain ⟨c,hc,rfl⟩:=List.mem_map.1 hy
  exact (hb c hc).2
 ·rcases DataW.trod_slice ht hx with ⟨rfl,rfl⟩ | ⟨a,len,cap,elems,rest,m,rfl,rfl,rfl,_,hl,hm,hlen,hel,_,_⟩
  ·obtain rfl:v=.slice none 0 0:=by simpa using h1.symm
   obtain ⟨_,_,hv,_⟩:=h4.ln.out
   injection hv with _ hn _
   subst hn
   simp [Rows.uptoBulk]
  ·obtain ⟨_,_,hv,_⟩:=h4.ln.out
   have hv':v=.slice (some a) len cap:=by simpa using h1.symm
   rw [hv'] at hv
   injection hv with _ hn _
   subst hn
   have hb:=bulk_slice (elems.map (·.1)) (rest.map (·.1))
   have:=bulk_len (elems.map (·.1))
   simp only [List.length_map] at this
   dsimp only
   omega
theorem rdg_struct2 {f0 f1:Field}{F0 F1:List Value→Nat→Prop}(ht:P.underlying t=some (.struct #[f0,f1]))(h0:Rdg P W f0.type F0)(h1:Rdg P W f1.type F1) :
  Rdg P W t fun cs b=>∃ b0 b1,cs.length=P.cellsOf t∧F0 ((cs.drop f0.offset).take (P.cellsOf f0.type)) b0∧F1 ((cs.drop f1.offset).take (P.cellsOf f1.type)) b1∧b0+b1+1≤b:=fun H enc fuel cs x hx=>by
 obtain ⟨y0,y1,n,rfl,hl,e0,e1⟩:=trod_struct2 ht hx
 refine ⟨_,_,hl,h0 H enc n _ _ e0,h1 H enc n _ _ e1,?_⟩
 rw [bulk_agg]
 simp only [Rows.uptoBulkAll]
 omega
theorem rdg_struct {fs:Array Field}(ht:P.underlying t=some (.struct fs))(F:Nat→List Value→Nat→Prop)(hF:∀ i f,fs[i]? = some f→Rdg P W f.type (F i)) :
  Rdg P W t fun cs b=>∃ bs:List Nat,cs.length=P.cellsOf t∧bs.length=fs.size∧(∀ i f,fs[i]? = some f→F i ((cs.drop f.offset).take (P.cellsOf f.type)) (bs.getD i 0))∧bs.sum+1≤b:=fun H enc fuel cs x hx=>by
 obtain ⟨xs,n,rfl,rfl,hl,hlen,hf⟩:=DataW.trod_struct ht hx
 refine ⟨xs.map fun y=>Rows.uptoBulk y.1,hl,by simp [hlen],fun i f hi=>?_,?_⟩
 ·have h1:=hf i f hi
  have hlt:i<xs.length:=by rw [hlen];exact (Array.getElem?_eq_some_iff.1 hi).1
  rw [List.getElem?_eq_getElem hlt] at h1
  have:=hF i f hi H enc n _ _ h1
  simpa [List.getD,hlt] using this
 ·rw [bulk_agg,bulk_sum,List.map_map]
  exact Nat.le_refl _
end
section
variable {H:Type}{enc:TypeId×Value→H}{P:Program}{W:World}
theorem open_cell {t:TypeId}{r:Reach}{b0:Nat}{v:Value}{d:DataW H}{q:List MemPlace}{F:List Value→Nat→Prop}(hF:Rdg P W t F)(hv:v.cells=#[v])(h:DataW.Trod enc P W 0 (fun _=>true) true t v d q):F [v] (Rows.uptoBulk d):=by
 obtain ⟨fuel,hf⟩:=h
 have:=hF H enc fuel _ _ hf
 rwa [hv] at this
theorem open_bl {t e:TypeId}{r:Reach}{b0:Nat}{v:Value}{d:DataW H}{q:List MemPlace}(ht:P.underlying t=some (.slice e))(he:P.underlying e=some (.int .u8))(hk:P.cellsOf e=1)(hv:Value.okWide P W r b0 t v)(h:DataW.Trod enc P W 0 (fun _=>true) true t v d q) :
  ∃ n p,Cb W v n p∧n+1≤Rows.uptoBulk d:=by
 obtain ⟨a,len,cap,rfl⟩:=okWide_slice ht hv
 obtain ⟨v',n,p,h1,h2,h3⟩:=open_cell (r:=r) (b0:=b0) (rdg_bytes ht he hk) rfl h
 cases h1
 exact ⟨n,p,h2,h3⟩
end
end Go.Proofs.YthigacbelefadaaDoor
namespace Go.Proofs.YthigacbelefadaaDoor
open Go.RowKit Go.ChangeShapes Go.WideShapes
set_option linter.unusedVariables false
set_option linter.unusedSimpArgs false
def Els (w:World):List Value→List (List Nat)→Prop
 | [],[]=>True
 | x::xs,q::qs=>Cb w x q.length q∧Els w xs qs
 | _,_=>False
theorem Els.len {w:World}:∀ {xs:List Value} {qs:List (List Nat)},Els w xs qs→qs.length=xs.length
 | [],[],_=>rfl
 | _::_,_::_,h=>by rw [List.length_cons,List.length_cons,Els.len h.2]
theorem Els.at {w:World}:∀ {xs:List Value} {qs:List (List Nat)} {i:Nat},Els w xs qs→i<xs.length→∃ x q,xs[i]? = some x∧qs[i]? = some q∧Cb w x q.length q
 | x::_,q::_,0,h,_=>⟨x,q,rfl,rfl,h.1⟩
 | _::_,_::_,i+1,h,hi=>by
  obtain ⟨x,q,h1,h2,h3⟩:=Els.at (i:=i) h.2 (by simpa using hi)
  exact ⟨x,q,by simpa using h1,by simpa using h2,h3⟩
theorem Els.below {w w':World}(hb:Below w.heap.size w w'):∀ {xs:List Value} {qs:List (List Nat)},Els w xs qs→Els w' xs qs
 | [],[],_=>trivial
 | _::_,_::_,h=>⟨h.1.below hb,Els.below hb h.2⟩
theorem Els.app {w:World}:∀ {xs ys:List Value} {qs rs:List (List Nat)},Els w xs qs→Els w ys rs→Els w (xs++ys) (qs++rs)
 | [],_,[],_,_,h=>h
 | _::_,_,_::_,_,h,h'=>⟨h.1,Els.app h.2 h'⟩
theorem Els.one {w:World}:∀ {xs:List Value} {qs:List (List Nat)},Els w xs qs→∀ y∈xs,y.oneCell'=true
 | [],[],_,y,hy=>by cases hy
 | x::_,_::_,h,y,hy=>by
  rcases List.mem_cons.1 hy with rfl|hy
  ·obtain ⟨_,_,hv,_⟩:=h.1.cs.ln.out
   rw [hv];rfl
  ·exact Els.one h.2 y hy
theorem Els.take {w:World}(k:Nat):∀ {xs:List Value} {qs:List (List Nat)},Els w xs qs→Els w (xs.take k) (qs.take k):=by
 induction k with
 | zero=>intro xs qs _;simp [Els]
 | succ k ih=>
  intro xs qs h
  match xs,qs,h with
  | [],[],_=>trivial
  | _::_,_::_,h=>exact ⟨h.1,ih h.2⟩
theorem Els.drop {w:World}(k:Nat):∀ {xs:List Value} {qs:List (List Nat)},Els w xs qs→Els w (xs.drop k) (qs.drop k):=by
 induction k with
 | zero=>intro xs qs h;exact h
 | succ k ih=>
  intro xs qs h
  match xs,qs,h with
  | [],[],h=>exact h
  | _::_,_::_,h=>exact ih h.2
structure Cll (w:World)(v:Value)(n:Nat)(xs:List Value)(qs:List (List Nat)):Prop where
 cs:Cs w v n xs
 len:xs.length=n
 el:Els w xs qs
theorem Cll.below {w w':World}{v:Value}{n:Nat}{xs:List Value}{qs:List (List Nat)}(h:Cll w v n xs qs)(hb:Below w.heap.size w w'):Cll w' v n xs qs:=⟨h.cs.below hb,h.len,Els.below hb h.el⟩
section
variable {P:Program}{W:World}{t e e':TypeId}
theorem rdg_bll (ht:P.underlying t=some (.slice e))(hk:P.cellsOf e=1)(ht':P.underlying e=some (.slice e'))(he:P.underlying e'=some (.int .u8))(hk':P.cellsOf e'=1) :
  Rdg P W t fun cs b=>∃ v n xs qs,cs=[v]∧Cll W v n xs qs∧qs.length+(qs.map List.length).sum+1≤b:=fun H enc fuel cs x hx=>by
 obtain ⟨v,n,cc,h1,h2,h3,h4,h5⟩:=rdg_slice ht hk (by decide) (rdg_bytes ht' he hk') H enc fuel cs x hx
 have hgo:∀ l:List (List Value×Nat),(∀ c∈l,c∈cc)→∃ xs qs,(l.map (·.1)).flatten=xs∧xs.length=l.length∧Els W xs qs∧qs.length+(qs.map List.length).sum≤(l.map (·.2)).sum:=fun l=>by
  induction l with
  | nil=>intro _;exact ⟨[],[],rfl,rfl,trivial,by simp⟩
  | cons c r ih=>
   intro h
   obtain ⟨xs,qs,e1,e2,e3,e4⟩:=ih fun d hd=>h d (by simp [hd])
   obtain ⟨⟨y,m,p,f1,f2,f3⟩,_⟩:=h3 c (h c (by simp))
   refine ⟨y::xs,p::qs,by rw [List.map_cons,List.flatten_cons,e1,f1];rfl,by simp [e2],⟨by rw [f2.ok.len];exact f2,e3⟩,?_⟩
   have:=f2.ok.len
   simp only [List.map_cons,List.sum_cons,List.length_cons]
   omega
 obtain ⟨xs,qs,e1,e2,e3,e4⟩:=hgo cc fun _ h=>h
 rw [e1] at h4
 exact ⟨v,n,xs,qs,h1,⟨h4,by rw [e2,h2],e3⟩,by omega⟩
theorem rdg_ints (ht:P.underlying t=some (.slice e))(he:P.underlying e=some (.int .i64))(hk:P.cellsOf e=1) :
  Rdg P W t fun cs b=>∃ v n,∃ zs:List Int,cs=[v]∧Cs W v n (zs.map (Value.int .i64))∧zs.length=n∧(∀ z∈zs,-9223372036854775808≤z∧z<9223372036854775808)∧n+1≤b:=fun H enc fuel cs x hx=>by
 have hb:Rdg P W e fun cs b=>(∃ z,cs=[.int .i64 z]∧(Lit.int .i64 z).wf=true)∧1≤b:=fun H enc fuel cs x hx=>⟨rdg_int he H enc fuel cs x hx,bulk_one _⟩
 obtain ⟨v,n,cc,h1,h2,h3,h4,h5⟩:=rdg_slice ht hk (by decide) hb H enc fuel cs x hx
 have hgo:∀ l:List (List Value×Nat),(∀ c∈l,c∈cc)→∃ zs:List Int,(l.map (·.1)).flatten=zs.map (Value.int .i64)∧zs.length=l.length∧(∀ z∈zs,-9223372036854775808≤z∧z<9223372036854775808)∧l.length≤(l.map (·.2)).sum:=fun l=>by
  induction l with
  | nil=>intro _;exact ⟨[],rfl,rfl,by simp,by simp⟩
  | cons c r ih=>
   intro h
   obtain ⟨zs,e1,e2,e3,e4⟩:=ih fun d hd=>h d (by simp [hd])
   obtain ⟨⟨⟨z,f1,f2⟩,f3⟩,_⟩:=h3 c (h c (by simp))
   simp [Lit.wf,IntKind.min,IntKind.max,IntKind.signed,IntKind.bits] at f2
   refine ⟨z::zs,by rw [List.map_cons,List.flatten_cons,e1,f1];rfl,by simp [e2],fun y hy=>?_,by simp only [List.map_cons,List.sum_cons,List.length_cons];omega⟩
   rcases List.mem_cons.1 hy with rfl|hy
   ·omega
   ·exact e3 y hy
 obtain ⟨zs,e1,e2,e3,e4⟩:=hgo cc fun _ h=>h
 rw [e1] at h4
 exact ⟨v,n,zs,h1,h4,by rw [e2,h2],e3,by omega⟩
end
section
variable {H:Type}{enc:TypeId×Value→H}{P:Program}{W:World}
theorem open_bll' {t e e':TypeId}{r:Reach}{b0:Nat}{v:Value}{d:DataW H}{q:List MemPlace}(ht:P.underlying t=some (.slice e))(hk:P.cellsOf e=1)(ht':P.underlying e=some (.slice e'))(he:P.underlying e'=some (.int .u8))(hk':P.cellsOf e'=1)(hv:Value.okWide P W r b0 t v)(h:DataW.Trod enc P W 0 (fun _=>true) true t v d q) :
  ∃ x:Nat×List Value×List (List Nat),Cll W v x.1 x.2.1 x.2.2∧x.2.2.length+(x.2.2.map List.length).sum+1≤Rows.uptoBulk d:=by
 obtain ⟨a,len,cap,rfl⟩:=okWide_slice ht hv
 obtain ⟨v',n,xs,qs,h1,h2,h3⟩:=open_cell (r:=r) (b0:=b0) (rdg_bll ht hk ht' he hk') rfl h
 cases h1
 exact ⟨(n,xs,qs),h2,h3⟩
theorem open_ints' {t e:TypeId}{r:Reach}{b0:Nat}{v:Value}{d:DataW H}{q:List MemPlace}(ht:P.underlying t=some (.slice e))(he:P.underlying e=some (.int .i64))(hk:P.cellsOf e=1)(hv:Value.okWide P W r b0 t v)(h:DataW.Trod enc P W 0 (fun _=>true) true t v d q) :
  ∃ zs:List Int,(Cs W v zs.length (zs.map (Value.int .i64))∧∀ z∈zs,-9223372036854775808≤z∧z<9223372036854775808)∧zs.length+1≤Rows.uptoBulk d:=by
 obtain ⟨a,len,cap,rfl⟩:=okWide_slice ht hv
 obtain ⟨v',n,zs,h1,h2,h3,h4,h5⟩:=open_cell (r:=r) (b0:=b0) (rdg_ints ht he hk) rfl h
 cases h1
 subst h3
 exact ⟨zs,⟨h2,h4⟩,h5⟩
end
theorem hold_old {P:Program}{W w:World}{N:Nat}(hb:Below W.heap.size W w)(l:Blks):Hold ⟨P,w,N,[]⟩ l (Old W []):=
 ⟨fun w' hm k hk _=>(hm.cls.old k (Nat.lt_of_lt_of_le hk hb.size) (by simp)).trans (hb.block k hk)⟩
end Go.Proofs.YthigacbelefadaaDoor
namespace Go.Proofs.YthigacbelefadaaDoor
open Go.RowKit
set_option linter.unusedVariables false
set_option maxRecDepth 100000
set_option linter.unusedSimpArgs false
theorem rw_cell {g:Sg}[hok:SgOk g]{off:Nat}{v:Value}(ha:atL g off 1=some #[v]):(rwA g)[off]? = some v:=by
 obtain ⟨h1,h2,h3⟩:=atL_spec hok ha
 have:=congrArg (·[0]?) h1
 simpa [rwA] using this
def RetPO {T:Type}(mk:T→Value)(n:Nat)(c:Array Value)(t:TypeId)(Φ:T→Array Value→Blks→Prop)(w:World)(e:Ending)(w':World):Prop:=
 ∃ x c' oa',e=.returned (mk x)∧Φ x c' oa'∧Upd w [(n,(c,t))] w' ((n,(c',t))::oa')
theorem fn_updPO {T:Type}{mk:T→Value}{n:Nat}{cs:Array Value}{t:TypeId}{Φ:T→Array Value→Blks→Prop}{P:Program}{f:Nat}{fn:Func}{c:Code}{vs:List Value}{W:World}{N:Nat}(hf:P.funcs[f]? = some fn)(hb:fn.body=some c)(hN:fn.ntmps=N){rs:List ResultVar}(hrs:fn.results=rs.toArray)(hl:vs.length≤N)
  (hd:W.heap[n]? = some (.cells cs t)) (h:Wc ⟨P,W,N,[n]⟩ c (endP ⟨P,W,N,[n]⟩ rs fun u l=>∃ x c' oa',u=mk x∧Φ x c' oa'∧SubL ((n,(c',t))::oa') l) (initS vs 0) [(n,(cs,t))]) (htb:Nat.blt t BIG=true:=by first|rfl|assumption):Calls P f vs.toArray W (RetPO mk n cs t Φ W):=
 (fn_calls hf hb hN hrs hl (Mem.initO (oa:=[(n,(cs,t))]) (by simp [keys]) (hd_one (hd.trans (congrArg some (toObj_cells htb).symm)))) h).mono fun e w' ⟨u,l,he,⟨x,c',oa',hu,hφ,hs⟩,hm⟩=>⟨x,c',oa',by rw [he,hu],hφ,(hm.sub hs).toUpd⟩
section
variable {X:Cx}{s:Slots}{l:Blks}{o:Oper}{v:Value}{Q:Post}{ops:Array Oper}{r:List Oper}
theorem wl_updPO {T:Type}{mk:T→Value}{n:Nat}{cs:Array Value}{t:TypeId}{Φ:T→Array Value→Blks→Prop}{c:Call}{fi:Nat}{vs:List Value}{l':Array Value→Blks}{f:Array Value→Blks→Blks}{s':T→Slots}(hg:gd s ops o=some true)(hd:dOk X.N o.dst=true)(ho:o.op=.call c)(hc:c.callee=.value (.func fi))(ha:vals s c.args.toList=some vs)
  (hC:∀ w,Mem X l w→w.heap[n]? = some (.cells cs t)→Calls X.P fi vs.toArray w (RetPO mk n cs t Φ w))
  (hat:∀ c',At l n (cs,t) (c',t) (l' c'):=by intro _;repeat (first|exact At.here|apply At.there|apply At.skipA)) [hf:∀ c',Snoc (l' c') (f c')] (h:∀ x c' oa',Φ x c' oa'→Wl X ops Q r (s' x) (f c' oa')) (hk:callOk X.P fi=true:=by kernel_rfl)
  (hs':∀ x,sputO s o.dst (mk x)=s' x:=by intro _;(try dsimp only [sputO,sput,Nat.reduceBEq,cond_true,cond_false,beq_self_eq_true]);first|done|exact rfl) (htb:Nat.blt t BIG=true:=by first|rfl|assumption):Wl X ops Q (o::r) s l:=fun a w hst=>by
 obtain rfl:(fun x=>sputO s o.dst (mk x))=s':=funext hs'
 have hw:=gd_wanted hst.env hg
 unfold wpList
 rw [if_pos hw]
 refine .inl ?_
 unfold Oper.wp
 rw [run_op_call ho hc hst.env ha,run_enter hk]
 refine (hC w hst.mem (Has.at (hat cs) htb w hst.mem)).mono fun e w' ⟨x,c',oa',he,hφ,hup⟩=>?_
 subst he
 refine h x c' oa' hφ _ _ ⟨hst.env.put hd _,?_⟩
 obtain ⟨pre,post,e1,e2⟩:=At.ex _ (hat c')
 haveI:Seg l [(n,(cs,t))] (fun o=>pre++(o++post)):=⟨pre,post,by rw [e1];rfl,fun _=>rfl⟩
 have:=hup.mem hst.mem
 rw [(hf c').out,e2]
 refine this.perm ?_
 rw [List.append_assoc]
 refine List.Perm.append_left pre ?_
 rw [List.cons_append,List.cons_append]
 exact (List.perm_append_comm).cons _
end
end Go.Proofs.YthigacbelefadaaDoor
namespace Go.Proofs.YthigacbelefadaaDoor
open Go.RowKit
attribute [local irreducible] rwA bys iw
set_option linter.unusedVariables false
set_option maxRecDepth 100000
set_option linter.unusedSimpArgs false
def be8 (k:Nat):List Nat:=(List.range 8).map fun i=>k / 2 ^ (56 - 8 * i) % 256
def blkD (key:MS)(k:Nat):List Nat:=(key.write (be8 k)).sum
def byteD (key:MS)(p:Nat):Nat:=(blkD key (p / 32)).getD (p % 32) 0
structure Src where
 key:MS
 place:Nat
 block:List Nat
 made:Bool
abbrev sgS (s:Src):Sg:=[(146,rwA (sgM s.key)),(1,#[.int .u64 (s.place:Int)]),(32,bys s.block),(1,#[.bool s.made])]
structure SrcOk (s:Src):Prop where
 key:MSo s.key
 nb:NBy s.block 32
 byl:ByL s.block
 made:s.made=true→s.place % 32≠0→s.block=blkD s.key (s.place / 32)
instance {m:MS}[h:MSo m]:SegL (rwA (sgM m)) 146:=seg_rw rfl
instance {k:Nat}:ByL (be8 k):=⟨fun x hx=>by
 obtain ⟨i,_,rfl⟩:=List.mem_map.1 hx
 exact Nat.mod_lt _ (by decide)⟩
instance {m:MS}{k:Nat}[h:MSo m]:NBy (blkD m k) 32:=inferInstanceAs (NBy (m.write (be8 k)).sum 32)
instance {m:MS}{k:Nat}:ByL (blkD m k):=inferInstanceAs (ByL (m.write (be8 k)).sum)
theorem be8_len (k:Nat):(be8 k).length=8:=by simp [be8]
def beP (k i:Nat):List Nat:=((List.range i).map fun i=>k / 2 ^ (56 - 8 * i) % 256)++List.replicate (8 - i) 0
theorem beP_len (k:Nat){i:Nat}(h:i≤8):(beP k i).length=8:=by simp [beP];omega
theorem beP_step (k:Nat){i:Nat}(h:i<8):(beP k i).set i (k / 2 ^ (56 - 8 * i) % 256)=beP k (i+1):=by
 rw [beP,List.set_append_right _ _ (by simp),List.length_map,List.length_range,Nat.sub_self,show 8 - i=8 - (i+1)+1 by omega,List.replicate_succ,List.set_cons_zero,beP,List.range_succ,List.map_append,List.append_assoc]
 rfl
theorem beP_all (k:Nat):beP k 8=be8 k:=by simp [beP,be8]
theorem byteD_eq (key:MS)(p:Nat){b:List Nat}(h:b=blkD key (p / 32)):byteD key p=b.getD (p % 32) 0:=by rw [byteD,h]
theorem blkD_sum (ky:MS)(k:Nat):blkD ky k=(ky.write (be8 k)).sum:=rfl
theorem byteD_sum (ky:MS)(pl:Nat):byteD ky pl=((ky.write (be8 (pl / 32))).sum).getD (pl % 32) 0:=rfl
attribute [local irreducible] blkD byteD MS.sum MS.write
instance:ZC Tryd.prog 132 (bys (List.replicate 8 0)):=⟨by unfold bys;kernel_rfl⟩
theorem shr_nat (a e:Nat):(a:Int) / 2 ^ e=((a / 2 ^ e:Nat):Int):=by norm_cast
set_option maxRecDepth 100000 in
set_option maxHeartbeats 2000000 in
theorem next_c (w:World)(hT:Tab w)(w':World)(hb:Below w.heap.size w w'){g:Nat}{s:Src}(hs:SrcOk s)(hp:s.place+1<18446744073709551616)(hf:w.heap.size≤g)(hg:w'.heap[g]? = some (.cells (rwA (sgS s)) 123)) :
  Calls Tryd.prog 36 [ptr g].toArray w' (RetP (fun _:Unit=>.int .u8 (byteD s.key s.place:Int)) g (rwA (sgS s)) 123
   (fun _ c=>∃ s':Src,s'.key=s.key∧s'.place=s.place+1∧SrcOk s'∧c=rwA (sgS s')) w'):=by
 obtain ⟨ky,pl,bk,md⟩:=s
 obtain ⟨h1,h2,h3,h4⟩:=hs
 dsimp only [sgS] at *
 have hfo:∀ k∈[g],w.heap.size≤k:=by simpa using hf
 have WG:=mwrite_g w hT
 have SG:=msum_g w hT
 have r1:(pl:Int).tmod 32=((pl % 32:Nat):Int):=by rw [Int.tmod_eq_emod_of_nonneg (by omega)];omega
 have a1:IntKind.u64.wrap ((pl:Int)+1)=((pl+1:Nat):Int):=by
  rw [show (pl:Int)+1=((pl+1:Nat):Int) by omega,wrapU,Nat.mod_eq_of_lt hp]
 have j1:((pl % 32:Nat):Int)<((32:Nat):Int):=by omega
 have hb32:∀ b:List Nat,b.length=32→(bys b)[pl % 32]? = some (.int .u8 ((b.getD (pl % 32) 0:Nat):Int)):=fun b hl=>bys_get (by omega)
 clear hT
 by_cases hmod:pl % 32=0
 ·have t0:(((pl % 32:Nat):Int) == 0)=true:=by rw [beq_iff_eq];omega
  have gv:(bys (ky.write (be8 (pl / 32))).sum)[pl % 32]? = some (.int .u8 (byteD ky pl:Int)):=by rw [byteD_sum];exact hb32 _ NBy.out
  generalize hB:byteD ky pl=B at *
  have q1:IntKind.u64.wrap ((pl:Int).tdiv 32)=((pl / 32:Nat):Int):=by rw [Int.tdiv_eq_ediv_of_nonneg (by omega),show (pl:Int) / 32=((pl / 32:Nat):Int) by omega,wrapU,Nat.mod_eq_of_lt (by omega)]
  clear hb32
  refine fn_updP (N:=_) Tryd.func36 rfl Tryd.ntmps36 Tryd.results36 (by simp) hg ?_
  simp only [initS,Nat.reduceAdd,Nat.zero_add]
  repeat' (first|(refine wlS ?_)|(refine wlG ?_)|(refine wlB ?_)|(refine wlE ?_)|(refine efSvvp ?_;intro v hv hp)|(refine efSvao ?_;intro v oa ho)|(refine efG ?_)|(refine efGnn ?_;intro n hn)|(refine efZCnn ?_;intro n hn)|(refine efBnn ?_;intro n hn)|(refine efB ?_)|(refine efBS ?_)|(refine wl_skip rfl rfl ?_)|((with_reducible refine wc_seq ?_);intro K hK)|(refine auC ?_)|(refine wc_cond rfl (fun hc=>?_) (fun hc=>?_))|((with_reducible refine wc_drawT (by kernel_rfl) ?_);(try simp only [List.append_eq,List.cons_append,List.nil_append,List.length_cons,List.length_nil,Nat.reduceAdd]))|((with_reducible refine sel_wh ?_);(refine wh_if (by decide +kernel) ?_);first|(refine wh_take (lq:=[]) rfl rfl rfl rfl (by first|exact rvS|exact rvG|exact rvB|exact rvE) (Or.inl rfl) ?_)|(refine wh_takeL rfl rfl rfl rfl (by first|exact rvS|exact rvG|exact rvB|exact rvE) (by decide +kernel) ?_))|(refine whS ?_;intro v hv hp)|((with_reducible refine sel_wh ?_);first|(refine wh_pass rfl rfl rfl rfl ?_)|(refine wh_done rfl ?_)|(refine wh_all rfl ?_))|((with_reducible refine sel_rest ?_);first|exact rest_nil rfl|refine rest_cons rfl rfl ?_ ?_)|((with_reducible refine sel_nx ?_);first|refine next_of ?_|refine next_late (by decide +kernel) ?_)|(refine auP ?_)|((refine auR ?_);clear hK K)|(refine auR ?_)|((with_reducible refine hK _ _ ?_);clear hK K)|fail)
  refine wc_loop (σ:=Nat) (fun i=>[(0,ptr g),(3,ptr n),(19,.int .i64 (i:Int))])
   (fun i=>[(n,(bys (beP (pl / 32) i),132)),(g,(rwA [(146,rwA (sgM ky)),(1,#[.int .u64 (pl:Int)]),(32,bys bk),(1,#[.bool md])],123))])
   (fun i=>i≤8) (fun i=>8 - i) 0 (Nat.zero_le _) (Fits.of ⟨rfl,rfl,rfl,trivial⟩ (SubL.refl _) rfl) ?_
  intro i hi
  haveI:NBy (beP (pl / 32) i) 8:=⟨beP_len _ hi⟩
  by_cases hlt:i<8
  ·have t1:decide ((i:Int)<8)=true:=decide_eq_true (by omega)
   have k1:IntKind.i64.wrap ((i:Int)+1)=((i+1:Nat):Int):=by rw [wrap_i64 _ (by omega) (by omega)];omega
   have k2:IntKind.i64.wrap (8 * (i:Int))=((8 * i:Nat):Int):=by rw [wrap_i64 _ (by omega) (by omega)];omega
   have k3:IntKind.i64.wrap (56 - ((8 * i:Nat):Int))=((56 - 8 * i:Nat):Int):=by rw [wrap_i64 _ (by omega) (by omega)];omega
   have k4:IntKind.u64.wrap ((56 - 8 * i:Nat):Int)=((56 - 8 * i:Nat):Int):=by rw [wrapU,Nat.mod_eq_of_lt (by omega)]
   have k5:(((pl / 32:Nat):Int)) / 2 ^ (min (((56 - 8 * i:Nat):Int).toNat) IntKind.u64.bits)=((pl / 32 / 2 ^ (56 - 8 * i):Nat):Int):=by
    rw [Int.toNat_natCast,Nat.min_eq_left (by simp [IntKind.bits];omega)];exact shr_nat _ _
   have k6:IntKind.u8.wrap ((pl / 32 / 2 ^ (56 - 8 * i):Nat):Int)=((pl / 32 / 2 ^ (56 - 8 * i) % 256:Nat):Int):=wrapB _
   have j2:(i:Int)<((8:Nat):Int):=by omega
   have st:=beP_step (pl / 32) hlt
   generalize pl / 32 / 2 ^ (56 - 8 * i) % 256=y at *
   clear WG SG
   repeat' (first|(refine wlS ?_)|(refine wlG ?_)|(refine wlB ?_)|(refine efG ?_)|(refine efGnn ?_;intro n hn)|(refine efBnn ?_;intro n hn)|(refine efB ?_)|(refine efBS ?_)|(refine wl_skip rfl rfl ?_)|(refine wdS ?_)|(refine wdG ?_)|(refine wdV ?_)|(refine wdB ?_)|(refine wdE ?_)|(refine wdT ?_)|(refine wdTO ?_)|(refine wd_skip rfl rfl ?_)|((with_reducible refine seld_nil ?_);refine wd_nil hm0 ?_;clear hm0 hw0)|((with_reducible refine wc_seq ?_);intro K hK)|(refine auC ?_)|(refine wc_cond rfl (fun hc=>?_) (fun hc=>?_))|(refine wc_draw (by kernel_rfl) (by kernel_rfl) (by decide +kernel) ?_;intro w0 hw0 hm0;(try simp only [List.append_eq,List.cons_append,List.nil_append]))|(refine auP ?_)|((refine auR ?_);clear hK K)|(refine auR ?_)|((with_reducible refine hK _ _ ?_);clear hK K)|fail)
   exact ⟨i+1,hlt,by omega,Fits.of ⟨rfl,rfl,rfl,trivial⟩ (by rw [←st];exact SubL.refl _) rfl⟩
  ·obtain rfl:i=8:=by omega
   have t1:decide (((8:Nat):Int)<8)=false:=by decide
   rw [beP_all] at *
   haveI:BLc 8 (be8 (pl / 32)):=⟨⟨be8_len _,ByL.out⟩,by decide⟩
   repeat' (first|(refine wlS ?_)|((with_reducible refine sel_load ?_);refine wv rfl rfl (rd_load rfl rfl (ld_sgC (p:=147) (m:=32))) ?_)|(refine wlG ?_)|(refine wlB ?_)|((with_reducible refine sel_call ?_);refine wl_rd rfl rfl (rd_call rfl rfl rfl (fun w hm=>by with_reducible first|exact WG w (Mem.belowO hm (by with_reducible assumption) (by with_reducible assumption)) (VwB.out w hm)|exact SG w (Mem.belowO hm (by with_reducible assumption) (by with_reducible assumption)))) ?_)|(refine wlE ?_)|(refine efSvvp ?_;intro v hv hp)|(refine efSvao ?_;intro v oa ho)|(refine efG ?_)|(refine efGnn ?_;intro n hn)|((with_reducible refine sel_store ?_);first|refine wl_store rfl rfl (sv_sgC (p:=147) (m:=32) rfl rfl rfl One.out) ?_)|(refine efBnn ?_;intro n hn)|(refine efB ?_)|(refine efBS ?_)|(refine wl_skip rfl rfl ?_)|((with_reducible refine wc_seq ?_);intro K hK)|(refine auC ?_)|(refine wc_cond rfl (fun hc=>?_) (fun hc=>?_))|((with_reducible refine wc_drawT (by kernel_rfl) ?_);(try simp only [List.append_eq,List.cons_append,List.nil_append,List.length_cons,List.length_nil,Nat.reduceAdd]))|((with_reducible refine sel_wh ?_);(refine wh_if (by decide +kernel) ?_);first|(refine wh_take (lq:=[]) rfl rfl rfl rfl (by first|exact rvS|((with_reducible apply selr_load);exact rd_load rfl rfl (ld_sgC (p:=147) (m:=32)))|exact rvG|exact rvB|exact rvE) (Or.inl rfl) ?_)|(refine wh_takeL rfl rfl rfl rfl (by first|exact rvS|((with_reducible apply selr_load);exact rd_load rfl rfl (ld_sgC (p:=147) (m:=32)))|exact rvG|exact rvB|exact rvE) (by decide +kernel) ?_))|(refine whS ?_;intro v hv hp)|((with_reducible refine sel_wh ?_);first|(refine wh_pass rfl rfl rfl rfl ?_)|(refine wh_done rfl ?_)|(refine wh_all rfl ?_))|((with_reducible refine sel_rest ?_);first|exact rest_nil rfl|refine rest_cons rfl rfl ?_ ?_)|((with_reducible refine sel_nx ?_);first|refine next_of ?_|refine next_late (by decide +kernel) ?_)|(refine auP ?_)|((refine auR ?_);clear hK K)|(refine auR ?_)|((with_reducible refine hK _ _ ?_);clear hK K)|fail)
   first|refine end_ret (ResP.tmp rfl ResP.nil) ?_|refine end_normal (ResP.tmp rfl ResP.nil) ?_
   (try dsimp only [tupV])
   exact ⟨(),_,rfl,⟨⟨ky,pl+1,(ky.write (be8 (pl / 32))).sum,true⟩,rfl,rfl,⟨h1,inferInstance,inferInstance,fun _ hne=>by
    show (ky.write (be8 (pl / 32))).sum=blkD ky ((pl+1) / 32)
    rw [←blkD_sum,show (pl+1) / 32=pl / 32 by have:(pl+1) % 32≠0:=hne;omega]⟩,rfl⟩,.skip (SubL.refl _)⟩
 have t0:(((pl % 32:Nat):Int) == 0)=false:=by rw [beq_eq_false_iff_ne];omega
 cases md
 ·skip
  have gv:(bys (ky.write (be8 (pl / 32))).sum)[pl % 32]? = some (.int .u8 (byteD ky pl:Int)):=by rw [byteD_sum];exact hb32 _ NBy.out
  generalize hB:byteD ky pl=B at *
  have q1:IntKind.u64.wrap ((pl:Int).tdiv 32)=((pl / 32:Nat):Int):=by rw [Int.tdiv_eq_ediv_of_nonneg (by omega),show (pl:Int) / 32=((pl / 32:Nat):Int) by omega,wrapU,Nat.mod_eq_of_lt (by omega)]
  clear hb32
  refine fn_updP (N:=_) Tryd.func36 rfl Tryd.ntmps36 Tryd.results36 (by simp) hg ?_
  simp only [initS,Nat.reduceAdd,Nat.zero_add]
  repeat' (first|(refine wlS ?_)|(refine wlG ?_)|(refine wlB ?_)|(refine wlE ?_)|(refine efSvvp ?_;intro v hv hp)|(refine efSvao ?_;intro v oa ho)|(refine efG ?_)|(refine efGnn ?_;intro n hn)|(refine efZCnn ?_;intro n hn)|(refine efBnn ?_;intro n hn)|(refine efB ?_)|(refine efBS ?_)|(refine wl_skip rfl rfl ?_)|((with_reducible refine wc_seq ?_);intro K hK)|(refine auC ?_)|(refine wc_cond rfl (fun hc=>?_) (fun hc=>?_))|((with_reducible refine wc_drawT (by kernel_rfl) ?_);(try simp only [List.append_eq,List.cons_append,List.nil_append,List.length_cons,List.length_nil,Nat.reduceAdd]))|((with_reducible refine sel_wh ?_);(refine wh_if (by decide +kernel) ?_);first|(refine wh_take (lq:=[]) rfl rfl rfl rfl (by first|exact rvS|exact rvG|exact rvB|exact rvE) (Or.inl rfl) ?_)|(refine wh_takeL rfl rfl rfl rfl (by first|exact rvS|exact rvG|exact rvB|exact rvE) (by decide +kernel) ?_))|(refine whS ?_;intro v hv hp)|((with_reducible refine sel_wh ?_);first|(refine wh_pass rfl rfl rfl rfl ?_)|(refine wh_done rfl ?_)|(refine wh_all rfl ?_))|((with_reducible refine sel_rest ?_);first|exact rest_nil rfl|refine rest_cons rfl rfl ?_ ?_)|((with_reducible refine sel_nx ?_);first|refine next_of ?_|refine next_late (by decide +kernel) ?_)|(refine auP ?_)|((refine auR ?_);clear hK K)|(refine auR ?_)|((with_reducible refine hK _ _ ?_);clear hK K)|fail)
  refine wc_loop (σ:=Nat) (fun i=>[(0,ptr g),(3,ptr n),(19,.int .i64 (i:Int))])
   (fun i=>[(n,(bys (beP (pl / 32) i),132)),(g,(rwA [(146,rwA (sgM ky)),(1,#[.int .u64 (pl:Int)]),(32,bys bk),(1,#[.bool false])],123))])
   (fun i=>i≤8) (fun i=>8 - i) 0 (Nat.zero_le _) (Fits.of ⟨rfl,rfl,rfl,trivial⟩ (SubL.refl _) rfl) ?_
  intro i hi
  haveI:NBy (beP (pl / 32) i) 8:=⟨beP_len _ hi⟩
  by_cases hlt:i<8
  ·have t1:decide ((i:Int)<8)=true:=decide_eq_true (by omega)
   have k1:IntKind.i64.wrap ((i:Int)+1)=((i+1:Nat):Int):=by rw [wrap_i64 _ (by omega) (by omega)];omega
   have k2:IntKind.i64.wrap (8 * (i:Int))=((8 * i:Nat):Int):=by rw [wrap_i64 _ (by omega) (by omega)];omega
   have k3:IntKind.i64.wrap (56 - ((8 * i:Nat):Int))=((56 - 8 * i:Nat):Int):=by rw [wrap_i64 _ (by omega) (by omega)];omega
   have k4:IntKind.u64.wrap ((56 - 8 * i:Nat):Int)=((56 - 8 * i:Nat):Int):=by rw [wrapU,Nat.mod_eq_of_lt (by omega)]
   have k5:(((pl / 32:Nat):Int)) / 2 ^ (min (((56 - 8 * i:Nat):Int).toNat) IntKind.u64.bits)=((pl / 32 / 2 ^ (56 - 8 * i):Nat):Int):=by
    rw [Int.toNat_natCast,Nat.min_eq_left (by simp [IntKind.bits];omega)];exact shr_nat _ _
   have k6:IntKind.u8.wrap ((pl / 32 / 2 ^ (56 - 8 * i):Nat):Int)=((pl / 32 / 2 ^ (56 - 8 * i) % 256:Nat):Int):=wrapB _
   have j2:(i:Int)<((8:Nat):Int):=by omega
   have st:=beP_step (pl / 32) hlt
   generalize pl / 32 / 2 ^ (56 - 8 * i) % 256=y at *
   clear WG SG
   repeat' (first|(refine wlS ?_)|(refine wlG ?_)|(refine wlB ?_)|(refine efG ?_)|(refine efGnn ?_;intro n hn)|(refine efBnn ?_;intro n hn)|(refine efB ?_)|(refine efBS ?_)|(refine wl_skip rfl rfl ?_)|(refine wdS ?_)|(refine wdG ?_)|(refine wdV ?_)|(refine wdB ?_)|(refine wdE ?_)|(refine wdT ?_)|(refine wdTO ?_)|(refine wd_skip rfl rfl ?_)|((with_reducible refine seld_nil ?_);refine wd_nil hm0 ?_;clear hm0 hw0)|((with_reducible refine wc_seq ?_);intro K hK)|(refine auC ?_)|(refine wc_cond rfl (fun hc=>?_) (fun hc=>?_))|(refine wc_draw (by kernel_rfl) (by kernel_rfl) (by decide +kernel) ?_;intro w0 hw0 hm0;(try simp only [List.append_eq,List.cons_append,List.nil_append]))|(refine auP ?_)|((refine auR ?_);clear hK K)|(refine auR ?_)|((with_reducible refine hK _ _ ?_);clear hK K)|fail)
   exact ⟨i+1,hlt,by omega,Fits.of ⟨rfl,rfl,rfl,trivial⟩ (by rw [←st];exact SubL.refl _) rfl⟩
  ·obtain rfl:i=8:=by omega
   have t1:decide (((8:Nat):Int)<8)=false:=by decide
   rw [beP_all] at *
   haveI:BLc 8 (be8 (pl / 32)):=⟨⟨be8_len _,ByL.out⟩,by decide⟩
   repeat' (first|(refine wlS ?_)|((with_reducible refine sel_load ?_);refine wv rfl rfl (rd_load rfl rfl (ld_sgC (p:=147) (m:=32))) ?_)|(refine wlG ?_)|(refine wlB ?_)|((with_reducible refine sel_call ?_);refine wl_rd rfl rfl (rd_call rfl rfl rfl (fun w hm=>by with_reducible first|exact WG w (Mem.belowO hm (by with_reducible assumption) (by with_reducible assumption)) (VwB.out w hm)|exact SG w (Mem.belowO hm (by with_reducible assumption) (by with_reducible assumption)))) ?_)|(refine wlE ?_)|(refine efSvvp ?_;intro v hv hp)|(refine efSvao ?_;intro v oa ho)|(refine efG ?_)|(refine efGnn ?_;intro n hn)|((with_reducible refine sel_store ?_);first|refine wl_store rfl rfl (sv_sgC (p:=147) (m:=32) rfl rfl rfl One.out) ?_)|(refine efBnn ?_;intro n hn)|(refine efB ?_)|(refine efBS ?_)|(refine wl_skip rfl rfl ?_)|((with_reducible refine wc_seq ?_);intro K hK)|(refine auC ?_)|(refine wc_cond rfl (fun hc=>?_) (fun hc=>?_))|((with_reducible refine wc_drawT (by kernel_rfl) ?_);(try simp only [List.append_eq,List.cons_append,List.nil_append,List.length_cons,List.length_nil,Nat.reduceAdd]))|((with_reducible refine sel_wh ?_);(refine wh_if (by decide +kernel) ?_);first|(refine wh_take (lq:=[]) rfl rfl rfl rfl (by first|exact rvS|((with_reducible apply selr_load);exact rd_load rfl rfl (ld_sgC (p:=147) (m:=32)))|exact rvG|exact rvB|exact rvE) (Or.inl rfl) ?_)|(refine wh_takeL rfl rfl rfl rfl (by first|exact rvS|((with_reducible apply selr_load);exact rd_load rfl rfl (ld_sgC (p:=147) (m:=32)))|exact rvG|exact rvB|exact rvE) (by decide +kernel) ?_))|(refine whS ?_;intro v hv hp)|((with_reducible refine sel_wh ?_);first|(refine wh_pass rfl rfl rfl rfl ?_)|(refine wh_done rfl ?_)|(refine wh_all rfl ?_))|((with_reducible refine sel_rest ?_);first|exact rest_nil rfl|refine rest_cons rfl rfl ?_ ?_)|((with_reducible refine sel_nx ?_);first|refine next_of ?_|refine next_late (by decide +kernel) ?_)|(refine auP ?_)|((refine auR ?_);clear hK K)|(refine auR ?_)|((with_reducible refine hK _ _ ?_);clear hK K)|fail)
   first|refine end_ret (ResP.tmp rfl ResP.nil) ?_|refine end_normal (ResP.tmp rfl ResP.nil) ?_
   (try dsimp only [tupV])
   exact ⟨(),_,rfl,⟨⟨ky,pl+1,(ky.write (be8 (pl / 32))).sum,true⟩,rfl,rfl,⟨h1,inferInstance,inferInstance,fun _ hne=>by
    show (ky.write (be8 (pl / 32))).sum=blkD ky ((pl+1) / 32)
    rw [←blkD_sum,show (pl+1) / 32=pl / 32 by have:(pl+1) % 32≠0:=hne;omega]⟩,rfl⟩,.skip (SubL.refl _)⟩
 ·skip
  have e1:=h4 rfl hmod
  have gv:=hb32 bk h2.out
  rw [←byteD_eq ky pl e1] at gv
  generalize hB:byteD ky pl=B at *
  clear WG SG hb32
  refine fn_updP (N:=_) Tryd.func36 rfl Tryd.ntmps36 Tryd.results36 (by simp) hg ?_
  simp only [initS,Nat.reduceAdd,Nat.zero_add]
  repeat' (first|(refine wlS ?_)|((with_reducible refine sel_load ?_);refine wv rfl rfl (rd_load rfl rfl (ld_sgC (p:=147) (m:=32))) ?_)|(refine wlG ?_)|(refine wlB ?_)|(refine wlE ?_)|(refine efSvvp ?_;intro v hv hp)|(refine efSvao ?_;intro v oa ho)|(refine efG ?_)|(refine efGnn ?_;intro n hn)|((with_reducible refine sel_store ?_);first|refine wl_store rfl rfl (sv_sgC (p:=147) (m:=32) rfl rfl rfl One.out) ?_)|(refine efBnn ?_;intro n hn)|(refine efB ?_)|(refine efBS ?_)|(refine wl_skip rfl rfl ?_)|((with_reducible refine wc_seq ?_);intro K hK)|(refine auC ?_)|(refine wc_cond rfl (fun hc=>?_) (fun hc=>?_))|((with_reducible refine wc_drawT (by kernel_rfl) ?_);(try simp only [List.append_eq,List.cons_append,List.nil_append,List.length_cons,List.length_nil,Nat.reduceAdd]))|((with_reducible refine sel_wh ?_);(refine wh_if (by decide +kernel) ?_);first|(refine wh_take (lq:=[]) rfl rfl rfl rfl (by first|exact rvS|((with_reducible apply selr_load);exact rd_load rfl rfl (ld_sgC (p:=147) (m:=32)))|exact rvG|exact rvB|exact rvE) (Or.inl rfl) ?_)|(refine wh_takeL rfl rfl rfl rfl (by first|exact rvS|((with_reducible apply selr_load);exact rd_load rfl rfl (ld_sgC (p:=147) (m:=32)))|exact rvG|exact rvB|exact rvE) (by decide +kernel) ?_))|(refine whS ?_;intro v hv hp)|((with_reducible refine sel_wh ?_);first|(refine wh_pass rfl rfl rfl rfl ?_)|(refine wh_done rfl ?_)|(refine wh_all rfl ?_))|((with_reducible refine sel_rest ?_);first|exact rest_nil rfl|refine rest_cons rfl rfl ?_ ?_)|((with_reducible refine sel_nx ?_);first|refine next_of ?_|refine next_late (by decide +kernel) ?_)|(refine auP ?_)|((refine auR ?_);clear hK K)|(refine auR ?_)|((with_reducible refine hK _ _ ?_);clear hK K)|fail)
  first|refine end_ret (ResP.tmp rfl ResP.nil) ?_|refine end_normal (ResP.tmp rfl ResP.nil) ?_
  (try dsimp only [tupV])
  exact ⟨(),_,rfl,⟨⟨ky,pl+1,bk,true⟩,rfl,rfl,⟨h1,h2,h3,fun _ hne=>by
   show bk=blkD ky ((pl+1) / 32)
   rw [show (pl+1) / 32=pl / 32 by have:(pl+1) % 32≠0:=hne;omega];exact e1⟩,rfl⟩,SubL.refl _⟩
end Go.Proofs.YthigacbelefadaaDoor
namespace Go.Proofs.YthigacbelefadaaDoor
open Go.RowKit
attribute [local irreducible] rwA bys iw blkD byteD MS.sum MS.write
set_option linter.unusedVariables false
set_option maxRecDepth 100000
set_option linter.unusedSimpArgs false
theorem byteD_lt (key:MS)(p:Nat):byteD key p<256:=by
 unfold byteD
 rw [List.getD_eq_getElem?_getD]
 cases h:(blkD key (p / 32))[p % 32]? with
 | none=>simp
 | some x=>exact (ByL.out:∀ x∈blkD key (p / 32),x<256) x (List.mem_of_getElem? h)
def bytesD (key:MS)(p n:Nat):List Nat:=(List.range n).map fun j=>byteD key (p+j)
theorem bytesD_len (key:MS)(p n:Nat):(bytesD key p n).length=n:=by simp [bytesD]
theorem bytesD_app (key:MS)(p n m:Nat):bytesD key p (n+m)=bytesD key p n++bytesD key (p+n) m:=by
 unfold bytesD
 rw [List.range_add,List.map_append,List.map_map]
 congr 1
 refine List.map_congr_left fun j _=>?_
 show byteD key (p+(n+j))=byteD key (p+n+j)
 rw [Nat.add_assoc]
theorem bytesD_blk {key:MS}[MSo key](k:Nat):bytesD key (32 * k) 32=blkD key k:=by
 have hl:(blkD key k).length=32:=NBy.out
 refine List.ext_getElem (by rw [bytesD_len,hl]) fun j h1 h2=>?_
 rw [bytesD_len] at h1
 simp only [bytesD,List.getElem_map,List.getElem_range]
 unfold byteD
 rw [show (32 * k+j) / 32=k by omega,show (32 * k+j) % 32=j by omega,List.getD_eq_getElem?_getD,List.getElem?_eq_getElem h2];rfl
instance {key:MS}{p n:Nat}:ByL (bytesD key p n):=⟨fun x hx=>by
 obtain ⟨j,_,rfl⟩:=List.mem_map.1 hx
 exact byteD_lt _ _⟩
def outD (key:MS)(p n i:Nat):List Nat:=bytesD key p i++List.replicate (n - i) 0
theorem outD_step (key:MS)(p:Nat){n i:Nat}(h:i<n):(outD key p n i).set i (byteD key (p+i))=outD key p n (i+1):=by
 rw [outD,List.set_append_right _ _ (by rw [bytesD_len];exact Nat.le_refl _),bytesD_len,Nat.sub_self,show n - i=n - (i+1)+1 by omega,List.replicate_succ,List.set_cons_zero,outD,bytesD_app,List.append_assoc]
 rfl
theorem outD_all (key:MS)(p n:Nat):outD key p n n=bytesD key p n:=by simp [outD]
def zeroS:Src:=⟨zeroM,0,List.replicate 32 0,false⟩
def newS (key:List Nat):Src:=⟨newM key,0,List.replicate 32 0,false⟩
instance {k:Nat}:ByL (List.replicate k 0):=⟨fun x hx=>by rw [(List.mem_replicate.1 hx).2];decide⟩
theorem newS_ok {key:List Nat}[ByL key]:SrcOk (newS key):=⟨inferInstanceAs (MSo (newM key)),inferInstanceAs (NBy (List.replicate 32 0) 32),inferInstanceAs (ByL (List.replicate 32 0)),fun h=>by cases h⟩
set_option maxRecDepth 100000 in
instance:ZG Tryd.prog 123 [(146,rwA (sgM zeroM)),(1,#[.int .u64 0]),(32,bys (List.replicate 32 0)),(1,#[.bool false])]:=⟨by kernel_rfl,inferInstance⟩
set_option maxRecDepth 100000 in
set_option maxHeartbeats 2000000 in
theorem at_c (w:World)(hT:Tab w)(w':World)(hb:Below w.heap.size w w'){v:Value}{n:Nat}{key:List Nat}(hq:Cb w' v n key) :
  Calls Tryd.prog 26 [v,.int .u64 0].toArray w' (RetO (fun n=>ptr n) (fun n oa=>oa=[(n,(rwA (sgS (newS key)),123))]) w'):=by
 have NG:=mnew_g w' (hT.below hb)
 have i1:=hq.old
 haveI:ByL key:=⟨hq.ok.by'⟩
 clear hT hb hq
 refine fn_own (N:=_) Tryd.func26 rfl Tryd.ntmps26 Tryd.results26 (by simp) ?_
 simp only [initS,Nat.reduceAdd,Nat.zero_add]
 repeat' (first|(refine wlS ?_)|(refine wlG ?_)|(refine wlB ?_)|((with_reducible refine sel_call ?_);refine wl_rd rfl rfl (rd_call rfl rfl rfl (fun w hm=>by with_reducible exact NG w (hm.below rfl) (VwB.out w hm))) ?_)|(refine wlE ?_)|(refine efSvao ?_;intro v oa ho)|(refine efBnn ?_;intro n hn)|(refine wl_skip rfl rfl ?_)|((with_reducible refine wc_seq ?_);intro K hK)|(refine auC ?_)|(refine wc_cond rfl (fun hc=>?_) (fun hc=>?_))|(refine wc_draw (by kernel_rfl) (by kernel_rfl) (by decide +kernel) ?_;intro w0 hw0 hm0;(try simp only [List.append_eq,List.cons_append,List.nil_append]))|(refine auP ?_)|((refine auR ?_);clear hK K)|(refine auR ?_)|((with_reducible refine hK _ _ ?_);clear hK K)|fail)
 first|refine end_ret (ResP.tmp rfl ResP.nil) ?_|refine end_normal (ResP.tmp rfl ResP.nil) ?_
 (try dsimp only [tupV])
 exact ⟨_,_,rfl,rfl,SubL.refl _⟩
set_option maxRecDepth 100000 in
set_option maxHeartbeats 2000000 in
theorem new_d (w:World)(hT:Tab w)(w':World)(hb:Below w.heap.size w w'){v:Value}{n:Nat}{key:List Nat}(hq:Cb w' v n key) :
  Calls Tryd.prog 19 [v].toArray w' (RetO (fun n=>ptr n) (fun n oa=>oa=[(n,(rwA (sgS (newS key)),123))]) w'):=by
 have AT:=fun w'' (h:Below w'.heap.size w' w'')=>at_c w' (hT.below hb) w'' h (hq.below h)
 clear hT hb hq
 refine fn_own (N:=_) Tryd.func19 rfl Tryd.ntmps19 Tryd.results19 (by simp) ?_
 simp only [initS,Nat.reduceAdd,Nat.zero_add]
 repeat' (first|(refine wlS ?_)|(refine wlB ?_)|(refine wlE ?_)|(refine efSvao ?_;intro v oa ho)|((with_reducible refine sel_call ?_);first|(refine wl_newO rfl rfl rfl rfl rfl (fun w hm=>by with_reducible exact AT w (hm.below rfl)) ?_;intro x oa hx))|(refine wl_skip rfl rfl ?_)|((with_reducible refine wc_seq ?_);intro K hK)|(refine auC ?_)|(refine wc_cond rfl (fun hc=>?_) (fun hc=>?_))|(refine wc_draw (by kernel_rfl) (by kernel_rfl) (by decide +kernel) ?_;intro w0 hw0 hm0;(try simp only [List.append_eq,List.cons_append,List.nil_append]))|(refine auP ?_)|((refine auR ?_);clear hK K)|(refine auR ?_)|((with_reducible refine hK _ _ ?_);clear hK K)|fail)
 first|refine end_ret (ResP.tmp rfl ResP.nil) ?_|refine end_normal (ResP.tmp rfl ResP.nil) ?_
 (try dsimp only [tupV])
 exact ⟨_,_,rfl,hx,SubL.refl _⟩
theorem fits_ok (w:World){n:Nat}(h:n≤4096):Calls Tryd.prog 35 [.int .i64 (n:Int)].toArray w (Ret (.int .i64 0) w):=by
 have t1:decide ((n:Int)<0)=false:=decide_eq_false (by omega)
 have t2:decide ((n:Int)>4096)=false:=decide_eq_false (by omega)
 refine fn_ret (N:=_) Tryd.func35 rfl Tryd.ntmps35 Tryd.results35 (by simp) ?_
 simp only [initS,Nat.reduceAdd,Nat.zero_add]
 repeat' (first|(refine wlB ?_)|(refine wl_skip rfl rfl ?_)|((with_reducible refine wc_seq ?_);intro K hK)|(refine auC ?_)|(refine wc_cond rfl (fun hc=>?_) (fun hc=>?_))|(refine wc_draw (by kernel_rfl) (by kernel_rfl) (by decide +kernel) ?_;intro w0 hw0 hm0;(try simp only [List.append_eq,List.cons_append,List.nil_append]))|(refine auP ?_)|((refine auR ?_);clear hK K)|(refine auR ?_)|((with_reducible refine hK _ _ ?_);clear hK K)|fail)
 first|refine end_ret (ResP.tmp rfl ResP.nil) ?_|refine end_normal (ResP.tmp rfl ResP.nil) ?_
 first|rfl|(show _=_;rfl)|(simp only [tupV, *];done)
theorem fits_neg (w:World){z:Int}(h:z<0):Calls Tryd.prog 35 [.int .i64 z].toArray w (Ret (.int .i64 1) w):=by
 have t1:decide (z<0)=true:=decide_eq_true h
 refine fn_ret (N:=_) Tryd.func35 rfl Tryd.ntmps35 Tryd.results35 (by simp) ?_
 simp only [initS,Nat.reduceAdd,Nat.zero_add]
 repeat' (first|(refine wlB ?_)|(refine wl_skip rfl rfl ?_)|((with_reducible refine wc_seq ?_);intro K hK)|(refine auC ?_)|(refine wc_cond rfl (fun hc=>?_) (fun hc=>?_))|(refine wc_draw (by kernel_rfl) (by kernel_rfl) (by decide +kernel) ?_;intro w0 hw0 hm0;(try simp only [List.append_eq,List.cons_append,List.nil_append]))|(refine auP ?_)|((refine auR ?_);clear hK K)|(refine auR ?_)|((with_reducible refine hK _ _ ?_);clear hK K)|fail)
 first|refine end_ret (ResP.tmp rfl ResP.nil) ?_|refine end_normal (ResP.tmp rfl ResP.nil) ?_
 first|rfl|(show _=_;rfl)|(simp only [tupV, *];done)
theorem fits_big (w:World){z:Int}(h:z>4096):Calls Tryd.prog 35 [.int .i64 z].toArray w (Ret (.int .i64 2) w):=by
 have t1:decide (z<0)=false:=decide_eq_false (by omega)
 have t2:decide (z>4096)=true:=decide_eq_true h
 refine fn_ret (N:=_) Tryd.func35 rfl Tryd.ntmps35 Tryd.results35 (by simp) ?_
 simp only [initS,Nat.reduceAdd,Nat.zero_add]
 repeat' (first|(refine wlB ?_)|(refine wl_skip rfl rfl ?_)|((with_reducible refine wc_seq ?_);intro K hK)|(refine auC ?_)|(refine wc_cond rfl (fun hc=>?_) (fun hc=>?_))|(refine wc_draw (by kernel_rfl) (by kernel_rfl) (by decide +kernel) ?_;intro w0 hw0 hm0;(try simp only [List.append_eq,List.cons_append,List.nil_append]))|(refine auP ?_)|((refine auR ?_);clear hK K)|(refine auR ?_)|((with_reducible refine hK _ _ ?_);clear hK K)|fail)
 first|refine end_ret (ResP.tmp rfl ResP.nil) ?_|refine end_normal (ResP.tmp rfl ResP.nil) ?_
 first|rfl|(show _=_;rfl)|(simp only [tupV, *];done)
end Go.Proofs.YthigacbelefadaaDoor
namespace Go.Proofs.YthigacbelefadaaDoor
open Go.RowKit
attribute [local irreducible] rwA bys iw blkD byteD MS.sum MS.write
set_option linter.unusedVariables false
set_option maxRecDepth 100000
set_option linter.unusedSimpArgs false
theorem bytes_bad (w':World){g:Nat}{z e:Int}(hF:∀ w'',Calls Tryd.prog 35 [.int .i64 z].toArray w'' (Ret (.int .i64 e) w''))(he:(e != 0)=true) :
  Calls Tryd.prog 20 [ptr g,.int .i64 z].toArray w' (Ret (.tuple #[.slice none 0 0,.int .i64 e]) w'):=by
 refine fn_ret (N:=_) Tryd.func20 rfl Tryd.ntmps20 Tryd.results20 (by simp) ?_
 simp only [initS,Nat.reduceAdd,Nat.zero_add]
 repeat' (first|(refine wlS ?_)|(refine wlB ?_)|((with_reducible refine sel_call ?_);refine wl_rd rfl rfl (rd_call rfl rfl rfl (fun w hm=>by with_reducible exact hF w)) ?_)|(refine wlE ?_)|(refine efSvao ?_;intro v oa ho)|(refine efB ?_)|(refine efBS ?_)|(refine wl_skip rfl rfl ?_)|((with_reducible refine wc_seq ?_);intro K hK)|(refine auC ?_)|(refine wc_cond rfl (fun hc=>?_) (fun hc=>?_))|(refine wc_draw (by kernel_rfl) (by kernel_rfl) (by decide +kernel) ?_;intro w0 hw0 hm0;(try simp only [List.append_eq,List.cons_append,List.nil_append]))|(refine auP ?_)|((refine auR ?_);clear hK K)|(refine auR ?_)|((with_reducible refine hK _ _ ?_);clear hK K)|fail)
 first|refine end_ret (ResP.tmp rfl (ResP.tmp rfl ResP.nil)) ?_|refine end_normal (ResP.tmp rfl (ResP.tmp rfl ResP.nil)) ?_
 first|rfl|(show _=_;rfl)|(simp only [tupV, *];done)
set_option maxRecDepth 100000 in
set_option maxHeartbeats 2000000 in
theorem bytes_c (w:World)(hT:Tab w)(w':World)(hb:Below w.heap.size w w'){g n:Nat}{s:Src}(hs:SrcOk s)(hn:n≤4096)(hp:s.place+n<18446744073709551616)(hf:w.heap.size≤g)(hg:w'.heap[g]? = some (.cells (rwA (sgS s)) 123)) :
  Calls Tryd.prog 20 [ptr g,.int .i64 (n:Int)].toArray w' (RetPO (fun v=>.tuple #[v,.int .i64 0]) g (rwA (sgS s)) 123
   (fun v c oa=>OwnB 5 v n (bytesD s.key s.place n) oa∧∃ s':Src,s'.key=s.key∧s'.place=s.place+n∧SrcOk s'∧c=rwA (sgS s')) w'):=by
 have hfo:∀ k∈[g],w.heap.size≤k:=by simpa using hf
 have FT:=fun w''=>fits_ok w'' hn
 have NX:∀ s':Src,SrcOk s'→s'.place+1<18446744073709551616→∀ w'',Below w.heap.size w w''→w''.heap[g]? = some (.cells (rwA (sgS s')) 123)→Calls Tryd.prog 36 [ptr g].toArray w'' (RetP (fun _:Unit=>.int .u8 (byteD s'.key s'.place:Int)) g (rwA (sgS s')) 123
   (fun _ c=>∃ s2:Src,s2.key=s'.key∧s2.place=s'.place+1∧SrcOk s2∧c=rwA (sgS s2)) w''):=fun s' h1 h2 w'' h hg'=>next_c w hT w'' h h1 h2 hf hg'
 clear hT
 refine fn_updPO (N:=_) Tryd.func20 rfl Tryd.ntmps20 Tryd.results20 (by simp) hg ?_
 simp only [initS,Nat.reduceAdd,Nat.zero_add]
 repeat' (first|(refine wlS ?_)|(refine wlB ?_)|((with_reducible refine sel_call ?_);refine wl_rd rfl rfl (rd_call rfl rfl rfl (fun w hm=>by with_reducible exact FT w)) ?_)|(refine wlE ?_)|(refine efSvao ?_;intro v oa ho)|(refine efM ?_)|(refine efMvao ?_;intro v oa ho)|((with_reducible refine sel_store ?_);first|(refine wl_putB (e:=5) rfl rfl rfl rfl rfl ?_;intro oa ho))|(refine efB ?_)|(refine efBS ?_)|(refine wl_skip rfl rfl ?_)|((with_reducible refine wc_seq ?_);intro K hK)|(refine auC ?_)|(refine wc_cond rfl (fun hc=>?_) (fun hc=>?_))|(refine wc_draw (by kernel_rfl) (by kernel_rfl) (by decide +kernel) ?_;intro w0 hw0 hm0;(try simp only [List.append_eq,List.cons_append,List.nil_append]))|(refine auP ?_)|((refine auR ?_);clear hK K)|(refine auR ?_)|((with_reducible refine hK _ _ ?_);clear hK K)|fail)
 refine wc_loop (σ:=Nat×Src×Blks) (fun x=>[(0,ptr g),(7,v),(17,.int .i64 (n:Int)),(18,.int .i64 (x.1:Int))]) (fun x=>(g,(rwA (sgS x.2.1),123))::x.2.2)
  (fun x=>x.1≤n∧x.2.1.key=s.key∧x.2.1.place=s.place+x.1∧SrcOk x.2.1∧OwnB 5 v n (outD s.key s.place n x.1) x.2.2) (fun x=>n - x.1) (0,s,oa) ⟨Nat.zero_le _,rfl,rfl,hs,ho⟩ (Fits.of ⟨rfl,rfl,rfl,rfl,trivial⟩ (SubL.refl _) rfl) ?_
 clear ho hs FT
 rintro ⟨i,s',oa⟩ ⟨hi,ek,ep,hs,ho⟩
 dsimp only at hi ek ep hs ho ⊢
 by_cases hlt:i<n
 ·have t1:decide ((i:Int)<(n:Int))=true:=decide_eq_true (by omega)
  have k1:IntKind.i64.wrap ((i:Int)+1)=((i+1:Nat):Int):=by rw [wrap_i64 _ (by omega) (by omega)];omega
  have j1:(i:Int)<(n:Int):=by omega
  have NY:=NX s' hs (by omega)
  have hbl:=byteD_lt s'.key s'.place
  have st:=outD_step s.key s.place hlt
  rw [ek,ep] at NY hbl
  clear NX
  generalize byteD s.key (s.place+i)=B at *
  repeat' (first|(refine wlS ?_)|(refine wlB ?_)|(refine wlE ?_)|(refine efSvao ?_;intro v oa ho)|(refine efM ?_)|(refine efMvao ?_;intro v oa ho)|((with_reducible refine sel_store ?_);first|(refine wl_putB (e:=5) rfl rfl rfl rfl rfl ?_;intro oa ho))|((with_reducible refine sel_call ?_);first|(refine wl_updP rfl rfl rfl rfl rfl (fun w hm hw=>by with_reducible exact NY w (Mem.belowO hm (by with_reducible assumption) (by with_reducible assumption)) hw) ?_ (hat:=by intro _;repeat (first|exact At.here|apply At.there|apply At.skipA));intro x c hx))|(refine efB ?_)|(refine efBS ?_)|(refine wl_skip rfl rfl ?_)|((with_reducible refine wc_seq ?_);intro K hK)|(refine auC ?_)|(refine wc_cond rfl (fun hc=>?_) (fun hc=>?_))|(refine wc_draw (by kernel_rfl) (by kernel_rfl) (by decide +kernel) ?_;intro w0 hw0 hm0;(try simp only [List.append_eq,List.cons_append,List.nil_append]))|(refine auP ?_)|((refine auR ?_);clear hK K)|(refine auR ?_)|((with_reducible refine hK _ _ ?_);clear hK K)|fail)
  obtain ⟨s2,e1,e2,e3,rfl⟩:=hx
  rw [st] at ho
  exact ⟨(i+1,s2,_),⟨hlt,e1,by rw [e2,Nat.add_assoc],e3,ho⟩,by show n - (i+1)<n - i;omega,Fits.of ⟨rfl,rfl,rfl,rfl,trivial⟩ (SubL.refl _) rfl⟩
 ·obtain rfl:i=n:=by omega
  have t1:decide ((i:Int)<(i:Int))=false:=decide_eq_false (by omega)
  rw [outD_all] at ho
  clear NX
  repeat' (first|(refine wlS ?_)|(refine wlB ?_)|(refine wlE ?_)|(refine efSvao ?_;intro v oa ho)|(refine efB ?_)|(refine efBS ?_)|(refine wl_skip rfl rfl ?_)|((with_reducible refine wc_seq ?_);intro K hK)|(refine auC ?_)|(refine wc_cond rfl (fun hc=>?_) (fun hc=>?_))|(refine wc_draw (by kernel_rfl) (by kernel_rfl) (by decide +kernel) ?_;intro w0 hw0 hm0;(try simp only [List.append_eq,List.cons_append,List.nil_append]))|(refine auP ?_)|((refine auR ?_);clear hK K)|(refine auR ?_)|((with_reducible refine hK _ _ ?_);clear hK K)|fail)
  first|refine end_ret (ResP.tmp rfl (ResP.tmp rfl ResP.nil)) ?_|refine end_normal (ResP.tmp rfl (ResP.tmp rfl ResP.nil)) ?_
  (try dsimp only [tupV])
  exact ⟨_,_,_,rfl,⟨ho,s',ek,ep,hs,rfl⟩,SubL.refl _⟩
end Go.Proofs.YthigacbelefadaaDoor
namespace Go.Proofs.YthigacbelefadaaDoor
open Go.RowKit
set_option linter.unusedVariables false
set_option linter.unusedSimpArgs false
def strB (l:List Nat):ByteArray:=strOfNums (l.map fun k:Nat=>(k:Int))
theorem strB_data (l:List Nat):(strB l).data.toList=l.map UInt8.ofNat:=by
 rw [strB,strOfNums_data,List.map_map]
 apply List.map_congr_left
 intro k _
 simp
theorem strB_size (l:List Nat):(strB l).size=l.length:=by rw [strB,strOfNums_size,List.length_map]
theorem ofNat_inj {a b:Nat}(ha:a<256)(hb:b<256)(h:UInt8.ofNat a=UInt8.ofNat b):a=b:=by
 have:=congrArg UInt8.toNat h
 rwa [UInt8.toNat_ofNat',UInt8.toNat_ofNat',Nat.mod_eq_of_lt ha,Nat.mod_eq_of_lt hb] at this
theorem map_inj {p q:List Nat}(hp:∀ x∈p,x<256)(hq:∀ x∈q,x<256)(h:p.map UInt8.ofNat=q.map UInt8.ofNat):p=q:=by
 induction p generalizing q with
 | nil=>cases q with
  | nil=>rfl
  | cons b r=>simp at h
 | cons a r ih=>cases q with
  | nil=>simp at h
  | cons b r'=>
   simp only [List.map_cons,List.cons.injEq] at h
   rw [ofNat_inj (hp a (by simp)) (hq b (by simp)) h.1,ih (fun x hx=>hp x (by simp [hx])) (fun x hx=>hq x (by simp [hx])) h.2]
theorem strB_inj {n m:Nat}{p q:List Nat}(hp:BL n p)(hq:BL m q):strB p=strB q↔p=q:=by
 refine ⟨fun h=>?_,fun h=>by rw [h]⟩
 have h1:=congrArg (fun b=>b.data.toList) h
 simp only [strB_data] at h1
 exact map_inj hp.by' hq.by' h1
theorem cs_string {P:Program}{w:World}{v:Value}{n src dst e:Nat}{p:List Nat}(hb:Cb w v n p)(hs:P.underlying src=some (.slice e))(he:P.underlying e=some (.int .u8))(hd:P.underlying dst=some .string) :
  (convert src dst v).run P w=.ok (.string (strB p)) w:=by
 have hp:=hb.ok
 have h:=hb.cs
 clear hb
 obtain ⟨q,cap,rfl,h1,h2,h3⟩:=h.ln.out
 rcases Nat.eq_zero_or_pos n with h0|h0
 ·have hp0:p=[]:=List.eq_nil_of_length_eq_zero (by rw [hp.len,h0])
  subst hp0
  cases q with
  | none=>rw [run_convert_bytes_nil w src e hs he n cap dst hd];rfl
  | some a=>
   obtain ⟨b,off,spot⟩:=a
   have hl:(loadCells ⟨b,off,spot⟩ n).run P w=.ok (([]:List Int).map (Value.int .u8)).toArray w:=by subst h0;simp [loadCells,loadCellsFrom]
   rw [run_convert_bytes_string w src dst e _ n cap hs he hd,run_bytesToString w _ n cap [] hl]
   rfl
 ·obtain ⟨b,off,rfl⟩:=h3 h0
  refine run_convert_bytes_arg w src e hs he b off n cap (p.map fun k:Nat=>(k:Int)) (by rw [List.length_map,hp.len]) (fun i hi=>?_) dst hd
  obtain ⟨b',off',cap',hv,hc⟩:=h.cell i (.int .u8 ((p.getD i 0:Nat):Int)) (bl_get (by rw [hp.len];exact hi))
  injection hv with hv
  injection hv with hv
  injection hv with hb ho
  subst hb;subst ho
  rw [hc]
  have hi':i<p.length:=by rw [hp.len];exact hi
  simp [List.getD,hi']
section
variable {X:Cx}{s:Slots}{l:Blks}{o:Oper}{v:Value}
theorem rd_convS {src dst e n:Nat}{x:Operand}{p:List Nat}(ho:o.op=.convert src dst x)(hx:val s x=some v)[hs:UT X.P src (.slice e)][he:UT X.P e (.int .u8)][hd:UT X.P dst .string][hv:VwB X l v n p]:RdV X s l o (.string (strB p)):=
 rd_val fun a w hev hm=>by
  simp only [execOp,ho,hev.eval hx,Sem.run_bind,cs_string (hv.out w hm) hs.out he.out hd.out,Result.andThen_ok,Sem.run_pure]
theorem rd_eqlS {t yt:Nat}{x y:Operand}{a b:ByteArray}{r:Bool}(ho:o.op=.binOp .eql t x y yt)(hx:val s x=some (.string a))(hy:val s y=some (.string b))(hr:(a.toList == b.toList)=r:=by first|(with_reducible assumption)|rfl):RdV X s l o (.bool r):=
 rd_val fun e w he hm=>by
  subst hr
  simp only [execOp,ho,he.eval hx,he.eval hy,eqGuard]
  simp [binOp_string_eql]
end
theorem strB_beq {n m:Nat}{p q:List Nat}(hp:BL n p)(hq:BL m q):((strB p).toList == (strB q).toList)=(p == q):=by
 rw [Bool.eq_iff_iff,beq_iff_eq,beq_iff_eq,←strB_inj hp hq,ByteArray.toList_eq,ByteArray.toList_eq]
 constructor
 ·intro h
  cases h1:strB p;cases h2:strB q
  rw [h1,h2] at h
  congr 1
  exact Array.ext' h
 ·intro h;rw [h]
set_option maxHeartbeats 1000000 in
set_option maxRecDepth 100000 in
theorem beq_c (w:World){v u:Value}{n m:Nat}{p q:List Nat}(hv:Cb w v n p)(hu:Cb w u m q):Calls Tryd.prog 8 [v,u].toArray w (Ret (.bool (p == q)) w):=by
 haveI:=hv.old
 haveI:=hu.old
 have hr:=strB_beq hv.ok hu.ok
 refine fn_ret (N:=_) Tryd.func8 rfl Tryd.ntmps8 Tryd.results8 (by simp) ?_
 simp only [initS,Nat.reduceAdd,Nat.zero_add]
 repeat' (first|(refine wlS ?_)|(refine wlB ?_)|(refine wl_skip rfl rfl ?_)|((with_reducible refine wc_seq ?_);intro K hK)|(refine auC ?_)|(refine wc_cond rfl (fun hc=>?_) (fun hc=>?_))|(refine wc_draw (by kernel_rfl) (by kernel_rfl) (by decide +kernel) ?_;intro w0 hw0 hm0;(try simp only [List.append_eq,List.cons_append,List.nil_append]))|(refine auP ?_)|((refine auR ?_);clear hK K)|(refine auR ?_)|((with_reducible refine hK _ _ ?_);clear hK K)|fail)
 first|refine end_ret (ResP.tmp rfl ResP.nil) ?_|refine end_normal (ResP.tmp rfl ResP.nil) ?_
 first|rfl|(show _=_;rfl)|(simp only [tupV, *];done)
theorem beq_r (w:World){v u:Value}{n m:Nat}{p q:List Nat}{r:Bool}(hv:Cb w v n p)(hu:Cb w u m q)(h:(p == q)=r):Calls Tryd.prog 8 [v,u].toArray w (Ret (.bool r) w):=by
 rw [←h];exact beq_c w hv hu
end Go.Proofs.YthigacbelefadaaDoor
namespace Go.Proofs.YthigacbelefadaaDoor
open Go.RowKit
attribute [local irreducible] rwA bys iw blkD byteD MS.sum MS.write
set_option linter.unusedVariables false
set_option maxRecDepth 100000
set_option linter.unusedSimpArgs false
theorem new_k (w:World)(hT:Tab w):∀ w',Below w.heap.size w w'→∀ {v:Value} {n:Nat} {key:List Nat},Cb w' v n key→
  Calls Tryd.prog 19 [v].toArray w' (RetO (fun n=>ptr n) (fun n oa=>∃ s:Src,SrcOk s∧s.key=newM key∧s.place=0∧oa=[(n,(rwA (sgS s),123))]) w'):=fun w' hb v n key hq=>by
 haveI:ByL key:=⟨hq.ok.by'⟩
 exact (new_d w hT w' hb hq).mono fun e w'' ⟨x,oa,he,hφ,hu⟩=>⟨x,oa,he,⟨newS key,newS_ok,rfl,rfl,hφ⟩,hu⟩
theorem bytes_k (w:World)(hT:Tab w){K:MS}{p g n:Nat}{s:Src}(hs:SrcOk s)(hk:s.key=K)(hl:s.place=p)(hn:n≤4096)(hp:p+n<18446744073709551616):∀ w',Below w.heap.size w w'→w.heap.size≤g→w'.heap[g]? = some (.cells (rwA (sgS s)) 123)→
  Calls Tryd.prog 20 [ptr g,.int .i64 (n:Int)].toArray w' (RetPO (fun v=>.tuple #[v,.int .i64 0]) g (rwA (sgS s)) 123
   (fun v c oa=>OwnB 5 v n (bytesD K p n) oa∧∃ s':Src,SrcOk s'∧s'.key=K∧s'.place=p+n∧c=rwA (sgS s')) w'):=fun w' hb hf hg=>by
 subst hk;subst hl
 exact (bytes_c w hT w' hb hs hn hp hf hg).mono fun e w'' ⟨x,c,oa,he,⟨h1,s',h2,h3,h4,h5⟩,hu⟩=>⟨x,c,oa,he,⟨h1,s',h4,h2,h3,h5⟩,hu⟩
theorem newM_dig {key:List Nat}(h:key.length>64):newM (dig key)=newM key:=by rw [newM,keyL_long key h,newM]
end Go.Proofs.YthigacbelefadaaDoor
namespace Go.Proofs.YthigacbelefadaaDoor
open Go.RowKit
set_option linter.unusedVariables false
section
variable {X:Cx}{s:Slots}{l:Blks}{o:Oper}
theorem rd_eqlG {t yt:Nat}{x y:Operand}{p:Option Addr}{n c:Nat}{v:Value}{r:Bool}(ho:o.op=.binOp .eql t x y yt)(hx:val s x=some (.slice p n c))(hy:val s y=some v)
  (q:∀ w:World,(binOp .eql t (.slice p n c) v).run X.P w=.ok (.bool r) w):RdV X s l o (.bool r):=
 rd_val fun e w he hm=>by
  simp only [execOp,ho,he.eval hx,he.eval hy,eqGuard]
  simp [q w]
theorem rd_neqG {t yt:Nat}{x y:Operand}{p:Option Addr}{n c:Nat}{v:Value}{r:Bool}(ho:o.op=.binOp .neq t x y yt)(hx:val s x=some (.slice p n c))(hy:val s y=some v)
  (q:∀ w:World,(binOp .neq t (.slice p n c) v).run X.P w=.ok (.bool r) w):RdV X s l o (.bool r):=
 rd_val fun e w he hm=>by
  simp only [execOp,ho,he.eval hx,he.eval hy,eqGuard]
  simp [q w]
end
theorem sl_nil {P:Program}{t e:Nat}(h:P.underlying t=some (.slice e)){p:Option Addr}{n c:Nat}(w:World):(binOp .eql t (.slice p n c) (.slice none 0 0)).run P w=.ok (.bool p.isNone) w:=by
 refine run_eql (r:=p.isNone) w rfl ?_
 rw [show (10000:Nat)=9999+1 from rfl,Op.equalIn,Sem.run_bind,run_underlying h]
 cases p <;> rfl
theorem sl_nonil {P:Program}{t e:Nat}(h:P.underlying t=some (.slice e)){p:Option Addr}{n c:Nat}(w:World):(binOp .neq t (.slice p n c) (.slice none 0 0)).run P w=.ok (.bool (!p.isNone)) w:=by
 refine run_neq (r:=p.isNone) w rfl ?_
 rw [show (10000:Nat)=9999+1 from rfl,Op.equalIn,Sem.run_bind,run_underlying h]
 cases p <;> rfl
end Go.Proofs.YthigacbelefadaaDoor
namespace Go.Proofs.YthigacbelefadaaDoor
open Go.RowKit
set_option linter.unusedVariables false
set_option linter.unusedSimpArgs false
set_option maxRecDepth 100000 in
set_option maxHeartbeats 4000000 in
theorem clone_b (w:World){v:Value}{m:Nat}{p:List Nat}(h:Cb w v m p)(hm:m≤1099511627776) :
  Calls Tryd.prog 28 [v].toArray w (RetO (fun u=>u) (fun u oa=>OwnB 5 u m p oa) w):=by
 have i1:=h.old
 obtain ⟨q,c,rfl,h1,h2,h3⟩:=h.cs.ln.out
 cases q with
 | none=>
  have hm0:m=0:=by
   rcases Nat.eq_zero_or_pos m with h0|h0
   ·exact h0
   ·obtain ⟨_,_,hh⟩:=h3 h0;cases hh
  have hd0:p=[]:=List.eq_nil_of_length_eq_zero (by rw [h.ok.len,hm0])
  have E:∀ w',(binOp .eql 29 (.slice none m c) (.slice none 0 0)).run Tryd.prog w'=.ok (.bool true) w':=fun w'=>sl_nil (e:=5) (by kernel_rfl) w'
  clear h h3
  subst hm0;subst hd0
  refine fn_own (N:=_) Tryd.func28 rfl Tryd.ntmps28 Tryd.results28 (by simp) ?_
  simp only [initS,Nat.reduceAdd,Nat.zero_add]
  repeat' (first|(refine wlS ?_)|(refine wlB ?_)|((with_reducible refine sel_b_eql ?_);refine wv rfl rfl (rd_eqlG rfl rfl rfl (by with_reducible exact E)) ?_)|(refine wlE ?_)|(refine efSvao ?_;intro v oa ho)|(refine wl_skip rfl rfl ?_)|((with_reducible refine wc_seq ?_);intro K hK)|(refine auC ?_)|(refine wc_cond rfl (fun hc=>?_) (fun hc=>?_))|(refine wc_draw (by kernel_rfl) (by kernel_rfl) (by decide +kernel) ?_;intro w0 hw0 hm0;(try simp only [List.append_eq,List.cons_append,List.nil_append]))|(refine auP ?_)|((refine auR ?_);clear hK K)|(refine auR ?_)|((with_reducible refine hK _ _ ?_);clear hK K)|fail)
  first|refine end_ret (ResP.tmp rfl ResP.nil) ?_|refine end_normal (ResP.tmp rfl ResP.nil) ?_
  (try dsimp only [tupV])
  exact ⟨_,_,rfl,⟨OwnL.nil _ _,BL.nil⟩,.nil⟩
 | some a=>
  have E:∀ w',(binOp .eql 29 (.slice (some a) m c) (.slice none 0 0)).run Tryd.prog w'=.ok (.bool false) w':=fun w'=>sl_nil (e:=5) (by kernel_rfl) w'
  have hok:=h.ok
  have hbl:(bl p).length=m * 1:=by rw [bl_len,h.ok.len,Nat.mul_one]
  clear h h3
  refine fn_own (N:=_) Tryd.func28 rfl Tryd.ntmps28 Tryd.results28 (by simp) ?_
  simp only [initS,Nat.reduceAdd,Nat.zero_add]
  repeat' (first|(refine wlS ?_)|(refine wlB ?_)|((with_reducible refine sel_b_eql ?_);refine wv rfl rfl (rd_eqlG rfl rfl rfl (by with_reducible exact E)) ?_)|(refine wlE ?_)|(refine efSvao ?_;intro v oa ho)|(refine wl_skip rfl rfl ?_)|((with_reducible refine wc_seq ?_);intro K hK)|(refine auC ?_)|(refine wc_cond rfl (fun hc=>?_) (fun hc=>?_))|(refine wc_draw (by kernel_rfl) (by kernel_rfl) (by decide +kernel) ?_;intro w0 hw0 hm0;(try simp only [List.append_eq,List.cons_append,List.nil_append]))|(refine auP ?_)|((refine auR ?_);clear hK K)|(refine auR ?_)|((with_reducible refine hK _ _ ?_);clear hK K)|fail)
  first|refine end_ret (ResP.tmp rfl ResP.nil) ?_|refine end_normal (ResP.tmp rfl ResP.nil) ?_
  (try dsimp only [tupV])
  first
  | exact ⟨_,_,rfl,by simpa using ho,SubL.refl _⟩
  | exact ⟨_,_,rfl,⟨by simpa using ho,hok⟩,SubL.refl _⟩
end Go.Proofs.YthigacbelefadaaDoor
namespace Go.Proofs.YthigacbelefadaaDoor
open Go.RowKit
set_option linter.unusedVariables false
set_option linter.unusedSimpArgs false
abbrev sgK (mk:List Nat)(lf:Nat):Sg:=[(32,bys mk),(1,#[.int .i64 (lf:Int)])]
abbrev sgL (sv:Value)(mk:List Nat)(lf:Nat):Sg:=[(1,#[sv]),(32,bys mk),(1,#[.int .i64 (lf:Int)])]
abbrev sgN (sv:Value)(mk:List Nat)(lf:Nat):Sg:=[(1,#[sv]),(33,rwA (sgK mk lf))]
theorem sg_flat (sv:Value)(mk:List Nat)(lf:Nat):rwA (sgL sv mk lf)=rwA (sgN sv mk lf):=by simp [rwA,rwL]
theorem seg_one {v:Value}(h:v.oneCell'=true):SegL #[v] 1:=⟨rfl,by simp [h]⟩
instance (priority:=500){v:Value}[h:One v]:SegL #[v] 1:=seg_one h.out
instance {mk:List Nat}{z:Int}[NBy mk 32]:SegL (rwA [(32,bys mk),(1,#[.int .i64 z])]) 33:=seg_rw rfl
instance {mk:List Nat}{z:Int}[NBy mk 32]:Cells (rwA [(32,bys mk),(1,#[.int .i64 z])]) 33:=⟨rw_size inferInstance,rw_one inferInstance⟩
set_option maxRecDepth 100000 in
instance zg_lock:ZG Tryd.prog 25 (sgK (List.replicate 32 0) 0):=⟨by kernel_rfl,inferInstance⟩
instance one_nil:One (.slice none 0 0):=⟨rfl⟩
set_option maxRecDepth 100000 in
instance zg_pin:ZG Tryd.prog 98 (sgN (.slice none 0 0) (List.replicate 32 0) 0):=⟨by kernel_rfl,inferInstance⟩
instance {X:Cx}{l:Blks}{g:Nat}{p:List Nat}{e lf:Nat}{sv:Value}[hs:One sv][hn:NBy p 32][h:BlkAt l g (rwA (sgL sv p lf),e)][h':BLc 32 p][ht:KD X.P e true]:VwB X l (.slice (some ⟨g,1,none⟩) 32 32) 32 p:=⟨fun w hm=>by
 have hg:=(hm.cls.now g (rwA (sgL sv p lf)) e (mu_mem_of h.out hm.nd)).trans (congrArg some (toObj_cells ht.tb))
 refine ⟨⟨⟨_,_,rfl,Nat.le_refl _,by simp only [maxLen];omega,fun _=>⟨g,1,rfl⟩⟩,fun j u hj=>⟨g,1,32,rfl,?_⟩⟩,h'.out⟩
 rw [cell_of_row w g (1+j) (rwA (sgL sv p lf)) e _ hg]
 have hl:(bl p).length=32:=by rw [bl_len,hn.out]
 have hj':=(List.getElem?_eq_some_iff.1 hj).1
 simp only [rwA,rwL,List.map_cons,List.flatten_cons,bys,List.getElem?_toArray]
 rw [List.getElem?_append_right (by simp),List.getElem?_append_left (by simp;omega)]
 simpa using hj⟩
end Go.Proofs.YthigacbelefadaaDoor
namespace Go.Proofs.YthigacbelefadaaDoor
open Go.RowKit
set_option linter.unusedVariables false
set_option linter.unusedSimpArgs false
set_option maxRecDepth 100000
theorem clone_s (w:World){v:Value}{m:Nat}{p:List Nat}(h:Cb w v m p)(hm:m≤1099511627776) :
  Calls Tryd.prog 28 [v].toArray w (RetO (fun x:Option Addr×Nat=>.slice x.1 m x.2) (fun x oa=>OwnB 5 (.slice x.1 m x.2) m p oa) w):=(clone_b w h hm).mono fun e w' ⟨x,oa,he,ho,hu⟩=>by
 obtain ⟨pp,cc,rfl,_⟩:=ho.own.ln.out
 exact ⟨(pp,cc),oa,he,ho,hu⟩
set_option maxHeartbeats 2000000 in
theorem restore_c (w':World){v:Value}{m lf:Nat}{salt mk:List Nat}[NBy mk 32][ByL mk](hs:Cb w' v m salt)(hm:m≤1099511627776)(hlf:lf≤3) :
  Calls Tryd.prog 21 [v,.agg (rwA (sgK mk lf))].toArray w' (RetO (fun g=>.tuple #[ptr g,.int .i64 0]) (fun g oa=>∃ sv oaS,OwnB 5 sv m salt oaS∧oa=(g,(rwA (sgL sv mk lf),98))::oaS) w'):=by
 have CL:=fun w'' (h:Cb w'' v m salt)=>clone_s w'' h hm
 have i1:=hs.old
 have hsl:=hs.ok.len
 have t1:decide ((lf:Int)<0)=false:=decide_eq_false (by omega)
 have t2:decide ((lf:Int)>3)=false:=decide_eq_false (by omega)
 clear hs
 refine fn_own (N:=_) Tryd.func21 rfl Tryd.ntmps21 Tryd.results21 (by simp) ?_
 simp only [initS,Nat.reduceAdd,Nat.zero_add]
 repeat' (first|(refine wlS ?_)|(refine wlG ?_)|(refine wlB ?_)|(refine wlE ?_)|(refine efSvao ?_;intro v oa ho)|((with_reducible refine sel_call ?_);first|(refine wl_newO rfl rfl rfl rfl rfl (fun w hm=>by with_reducible exact CL w (VwB.out w hm)) ?_;intro x oa hx))|(refine efBnn ?_;intro n hn)|(refine wl_skip rfl rfl ?_)|((with_reducible refine wc_seq ?_);intro K hK)|(refine auC ?_)|(refine wc_cond rfl (fun hc=>?_) (fun hc=>?_))|((with_reducible refine wc_drawT (by kernel_rfl) ?_);(try simp only [List.append_eq,List.cons_append,List.nil_append,List.length_cons,List.length_nil,Nat.reduceAdd]))|((with_reducible refine sel_wh ?_);(refine wh_if (by decide +kernel) ?_);first|(refine wh_take (lq:=[]) rfl rfl rfl rfl (by first|exact rvS|exact rvG|exact rvB|exact rvE) (Or.inl rfl) ?_)|(refine wh_takeL rfl rfl rfl rfl (by first|exact rvS|exact rvG|exact rvB|exact rvE) (by decide +kernel) ?_))|(refine whS ?_;intro v hv hp)|((with_reducible refine sel_wh ?_);first|(refine wh_pass rfl rfl rfl rfl ?_)|(refine wh_done rfl ?_)|(refine wh_all rfl ?_))|((with_reducible refine sel_rest ?_);first|exact rest_nil rfl|refine rest_cons rfl rfl ?_ ?_)|((with_reducible refine sel_nx ?_);first|refine next_of ?_|refine next_late (by decide +kernel) ?_)|(refine auP ?_)|((refine auR ?_);clear hK K)|(refine auR ?_)|((with_reducible refine hK _ _ ?_);clear hK K)|fail)
 first|refine end_ret (ResP.tmp rfl (ResP.tmp rfl ResP.nil)) ?_|refine end_normal (ResP.tmp rfl (ResP.tmp rfl ResP.nil)) ?_
 (try dsimp only [tupV])
 all_goals exact ⟨_,_,rfl,⟨_,_,hx,rfl⟩,by rw [sg_flat];exact .keep (.skip (SubL.refl _))⟩
def lkE (z:Int):Int:=if z<0∨3<z then 1 else 0
set_option maxHeartbeats 2000000 in
theorem restore_p (w':World){v:Value}{m:Nat}{z:Int}{salt mk:List Nat}[NBy mk 32][ByL mk](hs:Cb w' v m salt)(hm:m≤1099511627776) :
  Calls Tryd.prog 21 [v,.agg (rwA [(32,bys mk),(1,#[.int .i64 z])])].toArray w' (RetO (fun x:Option Addr=>.tuple #[.pointer x,.int .i64 (lkE z)]) (fun x oa=>True) w'):=by
 by_cases h0:z<0
 ·have e:lkE z=1:=by rw [lkE,if_pos (.inl h0)]
  rw [e]
  have t1:decide (z<0)=true:=decide_eq_true h0
  have i1:=hs.old
  clear hs
  refine fn_own (N:=_) Tryd.func21 rfl Tryd.ntmps21 Tryd.results21 (by simp) ?_
  simp only [initS,Nat.reduceAdd,Nat.zero_add]
  repeat' (first|(refine wlS ?_)|(refine wlG ?_)|(refine wlB ?_)|(refine efBnn ?_;intro n hn)|(refine wl_skip rfl rfl ?_)|(refine wdS ?_)|(refine wdG ?_)|(refine wdV ?_)|(refine wdB ?_)|(refine wdE ?_)|(refine wd_skip rfl rfl ?_)|((with_reducible refine seld_nil ?_);refine wd_nil hm0 ?_;clear hm0 hw0)|((with_reducible refine wc_seq ?_);intro K hK)|(refine auC ?_)|(refine wc_cond rfl (fun hc=>?_) (fun hc=>?_))|(refine wc_draw (by kernel_rfl) (by kernel_rfl) (by decide +kernel) ?_;intro w0 hw0 hm0;(try simp only [List.append_eq,List.cons_append,List.nil_append]))|(refine auP ?_)|((refine auR ?_);clear hK K)|(refine auR ?_)|((with_reducible refine hK _ _ ?_);clear hK K)|fail)
  first|refine end_ret (ResP.tmp rfl (ResP.tmp rfl ResP.nil)) ?_|refine end_normal (ResP.tmp rfl (ResP.tmp rfl ResP.nil)) ?_
  (try dsimp only [tupV])
  exact ⟨none,[],rfl,trivial,.nil⟩
 ·by_cases h3:3<z
  ·have e:lkE z=1:=by rw [lkE,if_pos (.inr h3)]
   rw [e]
   have t1:decide (z<0)=false:=decide_eq_false h0
   have t2:decide (z>3)=true:=decide_eq_true h3
   have i1:=hs.old
   clear hs
   refine fn_own (N:=_) Tryd.func21 rfl Tryd.ntmps21 Tryd.results21 (by simp) ?_
   simp only [initS,Nat.reduceAdd,Nat.zero_add]
   repeat' (first|(refine wlS ?_)|(refine wlG ?_)|(refine wlB ?_)|(refine efBnn ?_;intro n hn)|(refine wl_skip rfl rfl ?_)|(refine wdS ?_)|(refine wdG ?_)|(refine wdV ?_)|(refine wdB ?_)|(refine wdE ?_)|(refine wd_skip rfl rfl ?_)|((with_reducible refine seld_nil ?_);refine wd_nil hm0 ?_;clear hm0 hw0)|((with_reducible refine wc_seq ?_);intro K hK)|(refine auC ?_)|(refine wc_cond rfl (fun hc=>?_) (fun hc=>?_))|(refine wc_draw (by kernel_rfl) (by kernel_rfl) (by decide +kernel) ?_;intro w0 hw0 hm0;(try simp only [List.append_eq,List.cons_append,List.nil_append]))|(refine auP ?_)|((refine auR ?_);clear hK K)|(refine auR ?_)|((with_reducible refine hK _ _ ?_);clear hK K)|fail)
   first|refine end_ret (ResP.tmp rfl (ResP.tmp rfl ResP.nil)) ?_|refine end_normal (ResP.tmp rfl (ResP.tmp rfl ResP.nil)) ?_
   (try dsimp only [tupV])
   exact ⟨none,[],rfl,trivial,.nil⟩
  ·obtain ⟨lf,rfl⟩:∃ k:Nat,z=(k:Int):=⟨z.toNat,by omega⟩
   have e:lkE (lf:Int)=0:=by rw [lkE,if_neg (by omega)]
   rw [e]
   exact (restore_c w' hs hm (by omega)).mono fun e w2 ⟨g,oa,h1,h2,h3⟩=>⟨some ⟨g,0,none⟩,oa,h1,trivial,h3⟩
end Go.Proofs.YthigacbelefadaaDoor
