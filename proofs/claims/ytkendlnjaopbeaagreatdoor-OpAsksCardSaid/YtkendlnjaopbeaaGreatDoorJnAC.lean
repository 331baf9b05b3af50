/- Structs as rows of segments. Bytes: copy,make,append of noughts,stores into a slice of the walk's own. What hash.Pad answers,in plain terms. What the package hash computes,in plain terms: words of 32 bits as integers,just as the code takes them together. The walk over lists: regions that draw their order and hold effects. What is steady is taken first;the rest comes up in whatever order. What the types of the translation are. Printed by a program. What the elements of slices are. Printed by a program. Small laws of numbers that wrap. The package hash,walked: turning,words. -/
import Derived.Test.YtkendlnjaopbeaaGreatDoorJnAB
import Derived.Laws.CopyRow
import Derived.Laws.IdiomCopy
import Derived.Laws.MakeOwn
import Derived.Lib.AppendZerosOnto
import Derived.Test.YtkendlnjaopbeaaGreatDoorLwOps
import Derived.OrdersHeld
import Derived.Test.YtkendlnjaopbeaaGreatDoorProg
namespace Go.Proofs.YtkendlnjaopbeaaGreatDoor
open Go.RowKit
set_option linter.unusedVariables false
set_option linter.unusedSimpArgs false
abbrev Sg:=List (Nat×Array Value)
def rwL (g:Sg):List Value:=(g.map fun s=>s.2.toList).flatten
def rwA (g:Sg):Array Value:=(rwL g).toArray
def sumG:Sg→Nat
 | []=>0
 | s::r=>s.1+sumG r
class SegL (A:Array Value)(m:Nat):Prop where
 size:A.size=m
 one:A.all (·.oneCell')=true
class SgOk (g:Sg):Prop where
 out:∀ s∈g,s.2.size=s.1∧s.2.all (·.oneCell')=true
instance SgOk.nil:SgOk []:=⟨fun _ h=>by cases h⟩
instance SgOk.cons {A:Array Value}{m:Nat}{r:Sg}[h:SegL A m][h':SgOk r]:SgOk ((m,A)::r):=⟨fun s hs=>by
 rcases List.mem_cons.1 hs with rfl|hs
 ·exact ⟨h.size,h.one⟩
 ·exact h'.out s hs⟩
theorem SgOk.head {s:Nat×Array Value}{r:Sg}(h:SgOk (s::r)):s.2.size=s.1∧s.2.all (·.oneCell')=true:=h.out s (by simp)
theorem SgOk.tail {s:Nat×Array Value}{r:Sg}(h:SgOk (s::r)):SgOk r:=⟨fun q hq=>h.out q (by simp [hq])⟩
theorem rwL_cons (s:Nat×Array Value)(r:Sg):rwL (s::r)=s.2.toList++rwL r:=rfl
theorem rwL_len:∀ {g:Sg},SgOk g→(rwL g).length=sumG g
 | [],_=>rfl
 | s::r,h=>by rw [rwL_cons,List.length_append,Array.length_toList,h.head.1,rwL_len h.tail];rfl
theorem rw_size {g:Sg}(h:SgOk g):(rwA g).size=sumG g:=by rw [rwA,List.size_toArray,rwL_len h]
theorem rwL_one:∀ {g:Sg},SgOk g→(rwL g).all (·.oneCell')=true
 | [],_=>rfl
 | s::r,h=>by
  rw [rwL_cons,List.all_append,rwL_one h.tail,Bool.and_true]
  have:=h.head.2
  rwa [←Array.all_toList] at this
theorem rw_one {g:Sg}(h:SgOk g):(rwA g).all (·.oneCell')=true:=by rw [rwA,List.all_toArray];exact rwL_one h
def atL:Sg→Nat→Nat→Option (Array Value)
 | [],_,_=>none
 | s::r,off,k=>bif Nat.beq off 0 && Nat.beq k s.1 then some s.2 else bif Nat.ble s.1 off then atL r (off - s.1) k else none
def putG:Sg→Nat→Nat→Array Value→Option Sg
 | [],_,_,_=>none
 | s::r,off,k,B=>bif Nat.beq off 0 && Nat.beq k s.1 then some ((s.1,B)::r) else bif Nat.ble s.1 off then (match putG r (off - s.1) k B with
  | some r'=>some (s::r')
  | none=>none) else none
theorem atL_spec:∀ {g:Sg} {off k:Nat} {B:Array Value},SgOk g→atL g off k=some B→((rwL g).drop off).take k=B.toList∧B.size=k∧off+k≤(rwL g).length
 | [],_,_,_,_,h=>by cases h
 | s::r,off,k,B,hok,h=>by
  unfold atL at h
  have hs:=hok.head.1
  by_cases h1:(Nat.beq off 0 && Nat.beq k s.1)=true
  ·rw [h1] at h
   simp only [cond_true,Option.some.injEq] at h
   subst h
   simp only [Bool.and_eq_true,Nat.beq_eq] at h1
   obtain ⟨rfl,rfl⟩:=h1
   refine ⟨?_,hs,by rw [rwL_cons,List.length_append,Array.length_toList,hs];omega⟩
   rw [List.drop_zero,rwL_cons,List.take_append_of_le_length (by rw [Array.length_toList,hs];exact Nat.le_refl _),List.take_of_length_le (by rw [Array.length_toList,hs];exact Nat.le_refl _)]
  ·rw [eq_false_of_ne_true h1,cond_false] at h
   by_cases h2:Nat.ble s.1 off=true
   ·rw [h2,cond_true] at h
    have hle:=Nat.le_of_ble_eq_true h2
    obtain ⟨e1,e2,e3⟩:=atL_spec hok.tail h
    refine ⟨?_,e2,by rw [rwL_cons,List.length_append,Array.length_toList,hs];omega⟩
    rw [rwL_cons,List.drop_append,Array.length_toList,hs,List.drop_of_length_le (by rw [Array.length_toList,hs];exact hle),List.nil_append]
    exact e1
   ·rw [eq_false_of_ne_true h2,cond_false] at h;cases h
theorem putG_spec:∀ {g g':Sg} {off k:Nat} {B:Array Value},SgOk g→B.size=k→B.all (·.oneCell')=true→putG g off k B=some g'→putR (rwL g) off B.toList=rwL g'∧SgOk g'∧sumG g'=sumG g∧off+k≤sumG g
 | [],_,_,_,_,_,_,_,h=>by cases h
 | s::r,g',off,k,B,hok,hk,h1,h=>by
  unfold putG at h
  have hs:=hok.head.1
  by_cases c1:(Nat.beq off 0 && Nat.beq k s.1)=true
  ·rw [c1] at h
   simp only [cond_true,Option.some.injEq] at h
   subst h
   simp only [Bool.and_eq_true,Nat.beq_eq] at c1
   obtain ⟨rfl,rfl⟩:=c1
   refine ⟨?_,⟨fun q hq=>?_⟩,rfl,by simp only [sumG];omega⟩
   ·unfold putR
    rw [rwL_cons,rwL_cons,List.take_zero,List.nil_append,Nat.zero_add,Array.length_toList,hk,List.drop_append,Array.length_toList,hs,List.drop_of_length_le (by rw [Array.length_toList,hs];exact Nat.le_refl _),Nat.sub_self,List.drop_zero,List.nil_append]
   ·rcases List.mem_cons.1 hq with rfl|hq
    ·exact ⟨hk,h1⟩
    ·exact hok.tail.out q hq
  ·rw [eq_false_of_ne_true c1,cond_false] at h
   by_cases c2:Nat.ble s.1 off=true
   ·rw [c2,cond_true] at h
    have hle:=Nat.le_of_ble_eq_true c2
    cases hp:putG r (off - s.1) k B with
    | none=>rw [hp] at h;cases h
    | some r'=>
     rw [hp] at h
     simp only [Option.some.injEq] at h
     subst h
     obtain ⟨e1,e2,e3,e4⟩:=putG_spec hok.tail hk h1 hp
     refine ⟨?_,⟨fun q hq=>?_⟩,by simp only [sumG,e3],by simp only [sumG];omega⟩
     ·rw [rwL_cons,rwL_cons,←e1]
      unfold putR
      have e:s.2.toList.length=s.1:=by rw [Array.length_toList,hs]
      rw [List.take_append,e,List.take_of_length_le (by rw [e];exact hle),List.drop_append,e,List.drop_of_length_le (by rw [e];omega),List.nil_append,show off+B.toList.length - s.1=off - s.1+B.toList.length by omega,List.append_assoc,List.append_assoc,List.append_assoc]
     ·rcases List.mem_cons.1 hq with rfl|hq
      ·exact hok.head
      ·exact e2.out q hq
   ·rw [eq_false_of_ne_true c2,cond_false] at h;cases h
class ZG (P:Program)(t:Nat)(g:outParam Sg):Prop where
 out:(P.info? t).bind (·.zero)=some (.agg (rwA g))
 ok:SgOk g
def bys (l:List Nat):Array Value:=(bl l).toArray
theorem seg_bys {n:Nat}{l:List Nat}(h:l.length=n):SegL (bys l) n:=⟨by simp [bys,bl_len,h],by simp [bys,bl,Value.oneCell']⟩
instance {l:List Nat}{i k:Nat}:PutC (bys l) i (.int .u8 (k:Int)) (bys (l.set i k)):=⟨by simp [bys,putC,bl]⟩
theorem bys_get {l:List Nat}{i:Nat}(h:i<l.length):(bys l)[i]? = some (.int .u8 ((l.getD i 0:Nat):Int)):=by simp [bys,bl,h,List.getD]
class BlkAt (l:Blks)(n:Nat)(x:outParam (Array Value×TypeId)):Prop where
 out:(n,x)∈l
instance {n:Nat}{x:Array Value×TypeId}{l:Blks}:BlkAt ((n,x)::l) n x:=⟨List.mem_cons_self⟩
instance (priority:=900){n:Nat}{x:Array Value×TypeId}{p:Nat×(Array Value×TypeId)}{l:Blks}[h:BlkAt l n x]:BlkAt (p::l) n x:=⟨List.mem_cons_of_mem _ h.out⟩
class BLc (n:Nat)(p:List Nat):Prop where
 out:BL n p
 small:n≤1099511627776
instance {X:Cx}{l:Blks}{n k:Nat}{p:List Nat}{e:Nat}[h:BlkAt l n (bys p,e)][h':BLc k p][ht:KD X.P e true]:VwB X l (.slice (some ⟨n,0,none⟩) k k) k p:=⟨fun w hm=>by
 have hg:=(hm.cls.now n (bys p) e (mu_mem_of h.out hm.nd)).trans (congrArg some (toObj_cells ht.tb))
 refine ⟨⟨⟨_,_,rfl,Nat.le_refl _,by have:=h'.small;simp only [maxLen];omega,fun _=>⟨n,0,rfl⟩⟩,fun j u hj=>⟨n,0,k,rfl,?_⟩⟩,h'.out⟩
 rw [cell_of_row w n (0+j) (bys p) e _ hg,Nat.zero_add]
 simpa [bys] using hj⟩
instance {k:IntKind}{z:Int}:SegL #[.int k z] 1:=⟨rfl,by simp [Value.oneCell']⟩
theorem seg_rw {g:Sg}[h:SgOk g]{k:Nat}(hk:sumG g=k):SegL (rwA g) k:=⟨by rw [rw_size h,hk],rw_one h⟩
section
variable {X:Cx}{s:Slots}{l:Blks}{o:Oper}{v:Value}{Q:Post}{ops:Array Oper}{r:List Oper}
theorem ld_sg {t b off k e:Nat}{g:Sg}{B:Array Value}[hu:KD X.P t true][hs:SZ X.P t k][hok:SgOk g](hh:Has X l b (rwA g,e):=by first|(with_reducible assumption)|(refine Has.inn ?_;repeat (first|exact Inn.here|refine Inn.there ?_)))(ha:atL g off k=some B:=by rfl):Ld X l t b off (.agg B):=by
 obtain ⟨h1,h2,h3⟩:=atL_spec hok ha
 have:=ld_row (X:=X) (l:=l) (t:=t) (b:=b) (off:=off) (k:=k) (c:=rwA g) (cs:=B.toList) hh (by rw [rwA];exact h1) (by rw [Array.length_toList,h2])
 rwa [Array.toArray_toList] at this
theorem ld_sg1 {t b off e:Nat}{g:Sg}[hu:KD X.P t false][hok:SgOk g](hh:Has X l b (rwA g,e):=by first|(with_reducible assumption)|(refine Has.inn ?_;repeat (first|exact Inn.here|refine Inn.there ?_)))(ha:atL g off 1=some #[v]:=by rfl):Ld X l t b off v:=by
 obtain ⟨h1,h2,h3⟩:=atL_spec hok ha
 refine ld_cell (c:=rwA g) hh ?_
 have:=congrArg (·[0]?) h1
 simpa [rwA] using this
theorem ld_wholeG {t b k e:Nat}{g:Sg}[hu:KD X.P t true][hs:SZ X.P t k][hok:SgOk g](hh:Has X l b (rwA g,e):=by first|(with_reducible assumption)|(refine Has.inn ?_;repeat (first|exact Inn.here|refine Inn.there ?_)))(hk:sumG g=k:=by rfl):Ld X l t b 0 (.agg (rwA g)):=
 ld_whole hh (by rw [rw_size hok,hk])
theorem sv_sg {t k off b e:Nat}{x y:Operand}{g g':Sg}{B:Array Value}{l':Blks}(ho:o.op=.store t x y)(hx:val s x=some (.pointer (some ⟨b,off,none⟩)))(hy:val s y=some (.agg B))
  [hs:SZ X.P t k] [hok:SgOk g] [hB:SegL B k] (ha:At l b (rwA g,e) (rwA g',e) l':=by repeat (first|exact At.here|apply At.there)) (hp:putG g off k B=some g':=by rfl) (htb:Nat.blt e BIG=true:=by first|rfl|assumption):Sv X s l o l':=by
 obtain ⟨h1,h2,h3,h4⟩:=putG_spec hok hB.size hB.one hp
 have hB':Value.agg B=.agg B.toList.toArray:=by rw [Array.toArray_toList]
 exact sv_row (cs:=B.toList) (c:=rwA g) (c':=rwL g') ho hx (by rw [hy,hB']) (hk:=by rw [Array.length_toList,hB.size]) (h1:=by have:=hB.one;rwa [←Array.all_toList] at this) (hc:=by rw [rwA,←h1]) ha (hlt:=by rw [Array.length_toList,hB.size,rw_size hok];exact h4)
theorem sv_sg1 {t off b e:Nat}{x y:Operand}{g g':Sg}{l':Blks}(ho:o.op=.store t x y)(hx:val s x=some (.pointer (some ⟨b,off,none⟩)))(hy:val s y=some v)
  [hs:SZ X.P t 1] [hok:SgOk g] [hB:SegL #[v] 1] (ha:At l b (rwA g,e) (rwA g',e) l':=by repeat (first|exact At.here|apply At.there)) (hp:putG g off 1 #[v]=some g':=by rfl) (htb:Nat.blt e BIG=true:=by first|rfl|assumption):Sv X s l o l':=by
 obtain ⟨h1,h2,h3,h4⟩:=putG_spec hok hB.size hB.one hp
 have hv:v.oneCell'=true:=by have:=hB.one;simpa using this
 have hlt:off<(rwA g).size:=by rw [rw_size hok];omega
 refine sv_cell (c:=rwA g) (c':=rwA g') ho hx hy hv ha (hc:=?_) (hlt:=hlt)
 unfold putC rwA
 rw [←h1]
 unfold putR
 have hlt':off<(rwL g).length:=by rw [rwL_len hok];omega
 simp only [List.setIfInBounds_toArray,List.length_cons,List.length_nil]
 congr 1
 rw [List.set_eq_take_append_cons_drop,if_pos hlt']
 simp
theorem sv_wholeG {t k b e:Nat}{x y:Operand}{g g':Sg}{l':Blks}(ho:o.op=.store t x y)(hx:val s x=some (.pointer (some ⟨b,0,none⟩)))(hy:val s y=some (.agg (rwA g')))
  [hs:SZ X.P t k] [hok:SgOk g] [hok':SgOk g'] (ha:At l b (rwA g,e) (rwA g',e) l':=by repeat (first|exact At.here|apply At.there)) (hk:sumG g'=k:=by rfl) (hk':sumG g=k:=by rfl) (htb:Nat.blt e BIG=true:=by first|rfl|assumption):Sv X s l o l':=
 sv_whole ho hx hy (hk:=by rw [rw_size hok',hk]) (h1:=rw_one hok') ha (hlt:=by rw [rw_size hok,rw_size hok',hk,hk'])
theorem mk_allocG {t:Nat}{g:Sg}(ho:o.op=.alloc t)[hz:ZG X.P t g]:Mk X s o (rwA g) t ptr:=by
 haveI:ZR X.P t (.agg (rwA g)):=⟨hz.out⟩
 exact mk_alloc ho rfl
theorem rd_fieldG {t f fo ty k:Nat}{x:Operand}{g:Sg}{B:Array Value}(ho:o.op=.field t x f)(hx:val s x=some (.agg (rwA g)))[hf:FD X.P t f fo ty k][hu:KD X.P ty true][hs:SZ X.P ty k][hok:SgOk g](ha:atL g fo k=some B:=by rfl):RdV X s l o (.agg B):=by
 obtain ⟨h1,h2,h3⟩:=atL_spec hok ha
 refine rd_field ho hx fun w=>?_
 have:=part_row (P:=X.P) (t:=ty) (off:=fo) (cs:=rwA g) (cs':=B.toList) (by rw [rwA];exact h1) w
 rwa [Array.toArray_toList] at this
theorem rd_fieldG1 {t f fo ty k:Nat}{x:Operand}{g:Sg}(ho:o.op=.field t x f)(hx:val s x=some (.agg (rwA g)))[hf:FD X.P t f fo ty k][hu:KD X.P ty false][hok:SgOk g](ha:atL g fo 1=some #[v]:=by rfl):RdV X s l o v:=by
 obtain ⟨h1,h2,h3⟩:=atL_spec hok ha
 refine rd_field ho hx fun w=>part_cell ?_ w
 have:=congrArg (·[0]?) h1
 simpa [rwA] using this
theorem ld_sgC {t b off e p m j:Nat}{g:Sg}{A:Array Value}[hu:KD X.P t false][hok:SgOk g](hh:Has X l b (rwA g,e):=by first|(with_reducible assumption)|(refine Has.inn ?_;repeat (first|exact Inn.here|refine Inn.there ?_)))(ha:atL g p m=some A:=by rfl)(ho:p+j=off:=by first|(with_reducible assumption)|rfl|omega)(hv:A[j]? = some v:=by first|(with_reducible assumption)):Ld X l t b off v:=by
 obtain ⟨h1,h2,h3⟩:=atL_spec hok ha
 subst ho
 have hj:j<m:=by rw [←h2];exact (Array.getElem?_eq_some_iff.1 hv).1
 refine ld_cell (c:=rwA g) hh ?_
 have:=congrArg (·[j]?) h1
 simp only [List.getElem?_take_of_lt hj,List.getElem?_drop] at this
 rw [rwA,List.getElem?_toArray,this]
 simpa using hv
theorem sv_sgC {t off b e p m j:Nat}{x y:Operand}{g g':Sg}{A A':Array Value}{l':Blks}(ho:o.op=.store t x y)(hx:val s x=some (.pointer (some ⟨b,off,none⟩)))(hy:val s y=some v)
  [hs:SZ X.P t 1] [hok:SgOk g] (h1:v.oneCell'=true) (hat:At l b (rwA g,e) (rwA g',e) l':=by repeat (first|exact At.here|apply At.there)) (ha:atL g p m=some A:=by rfl) (hof:p+j=off:=by first|(with_reducible assumption)|rfl|omega) (hc:putC A j v=A':=by first|(with_reducible assumption)|exact PutC.out) (hj:j<m:=by first|(with_reducible assumption)|omega)
  (hp:putG g p m A'=some g':=by rfl) (htb:Nat.blt e BIG=true:=by first|rfl|assumption):Sv X s l o l':=by
 obtain ⟨e1,e2,e3⟩:=atL_spec hok ha
 subst hof;subst hc
 have hA:A.all (·.oneCell')=true:=by
  rw [←Array.all_toList,←e1,List.all_eq_true]
  intro q hq
  exact (List.all_eq_true.1 (rwL_one hok)) q (List.mem_of_mem_drop (List.mem_of_mem_take hq))
 have hB:SegL (putC A j v) m:=⟨by simp [putC,e2],by
  rw [←Array.all_toList,List.all_eq_true]
  intro q hq
  simp only [putC,Array.toList_setIfInBounds] at hq
  rcases List.mem_or_eq_of_mem_set hq with h|h
  ·exact (List.all_eq_true.1 (by rw [Array.all_toList];exact hA)) q h
  ·rw [h];exact h1⟩
 obtain ⟨f1,f2,f3,f4⟩:=putG_spec hok hB.size hB.one hp
 have hlen:A.toList.length=m:=by rw [Array.length_toList,e2]
 refine sv_cell (c:=rwA g) (c':=rwA g') ho hx hy h1 hat (hc:=?_) (hlt:=by rw [rw_size hok];omega)
 unfold putC rwA
 rw [←f1]
 unfold putR
 simp only [List.setIfInBounds_toArray]
 congr 1
 have hpl:p+j<(rwL g).length:=by omega
 apply List.ext_getElem?
 intro i
 have hAi:∀ k,k<m→A.toList[k]? = (rwL g)[p+k]?:=fun k hk=>by rw [←e1,List.getElem?_take_of_lt hk,List.getElem?_drop]
 have hlA:(A.toList.set j v).length=m:=by rw [List.length_set,hlen]
 have htk:((rwL g).take p).length=p:=by rw [List.length_take];omega
 simp only [putC,Array.toList_setIfInBounds]
 rw [hlA,List.getElem?_set]
 by_cases c1:i<p
 ·rw [if_neg (by omega),List.append_assoc,List.getElem?_append_left (by omega),List.getElem?_take_of_lt c1]
 ·by_cases c2:i<p+m
  ·rw [List.append_assoc,List.getElem?_append_right (by omega),htk,List.getElem?_append_left (by omega),List.getElem?_set,hlen]
   by_cases c3:j=i - p
   ·rw [if_pos (by omega),if_pos c3,if_pos hpl,if_pos hj]
   ·rw [if_neg (by omega),if_neg c3,hAi _ (by omega)];congr 1;omega
  ·rw [if_neg (by omega),List.append_assoc,List.getElem?_append_right (by omega),htk,List.getElem?_append_right (by omega),hlA,List.getElem?_drop];congr 1;omega
end
end Go.Proofs.YtkendlnjaopbeaaGreatDoor
namespace Go.Proofs.YtkendlnjaopbeaaGreatDoor
open Go.RowKit
set_option linter.unusedVariables false
set_option linter.unusedSimpArgs false
theorem At.ex2 {n:Nat}{x:Array Value×TypeId}(y:Array Value×TypeId){l l':Blks}(h:At l n x y l'):∃ pre post,l=pre++((n,x)::post)∧l'=pre++((n,y)::post):=by
 induction h with
 | here=>exact ⟨[],_,rfl,rfl⟩
 | there _ ih=>
  obtain ⟨pre,post,h1,h2⟩:=ih
  exact ⟨_::pre,post,by rw [h1];rfl,by rw [h2];rfl⟩
theorem At.same {n:Nat}{x:Array Value×TypeId}{l l':Blks}(h:At l n x x l'):l'=l:=by
 obtain ⟨pre,post,h1,h2⟩:=At.ex2 x h
 rw [h1,h2]
theorem made_one (z:Value)(n:Nat):(madeCells #[z] n).toList=List.replicate n z:=by
 apply List.ext_getElem
 ·simp [size_madeCells]
 ·intro i h1 h2
  simp [madeCells,Nat.mod_one]
theorem zeros_one (z:Value)(n:Nat):(Builtin.zeroCells #[z] n).toList=List.replicate n z:=by
 apply List.ext_getElem
 ·simp [Builtin.zeroCells]
 ·intro i h1 h2
  simp [Builtin.zeroCells,Nat.mod_one]
theorem bl_rep (n k:Nat):bl (List.replicate n k)=List.replicate n (.int .u8 (k:Int)):=by simp [bl]
section
variable {X:Cx}{s:Slots}{l:Blks}{o:Oper}{v:Value}{Q:Post}{ops:Array Oper}{r:List Oper}
theorem putR_bys (q p:List Nat)(off:Nat):((bys q).toList.take off++bl p++(bys q).toList.drop (off+(bl p).length)).toArray=bys (q.take off++(p++q.drop (off+p.length))):=by
 simp [bys,bl]
theorem wl_copyB {x y:Operand}{t t' e te n cap b off m:Nat}{u:Value}{p q q':List Nat}{l':Blks}{s':Slots}(hg:gd s ops o=some true)(hd:dOk X.N o.dst=true)(hop:o.op=.call {callee:=.builtin .copy,args:=#[x,y],argTypes:=#[t,t']})
  (hx:val s x=some (.slice (some ⟨b,off,none⟩) n cap)) (hy:val s y=some u) [ht:UT X.P t (.slice e)] [hs:SZ X.P e 1] [hu:VwB X l u m p] {k:Nat}
  (h:Wl X ops Q r s' l') (hat:At l b (bys q,te) (bys q',te) l':=by repeat (first|exact At.here|apply At.there)) (hk:Nat.min m n=k:=by first|(with_reducible assumption)|rfl)
  (hfit:off+k≤q.length:=by first|(with_reducible assumption)|omega) (hq:q.take off++(p.take k++q.drop (off+k))=q':=by first|(with_reducible assumption)|rfl)
  (hs':sputO s o.dst (.int .i64 (k:Int))=s':=by (try dsimp only [sputO,sput,Nat.reduceBEq,cond_true,cond_false,beq_self_eq_true]);first|done|exact rfl) (htb:Nat.blt te BIG=true:=by first|rfl|assumption):Wl X ops Q (o::r) s l:=fun a w hst=>by
 subst hs'
 have hw:=gd_wanted hst.env hg
 obtain ⟨hcs,hok⟩:=hu.out w hst.mem
 obtain ⟨pu,cu,rfl,h1,h2,h3⟩:=hcs.ln.out
 have hgb:=(hst.mem.cls.now b (bys q) te (hat.now hst.mem.nd)).trans (congrArg some (toObj_cells htb))
 have hkm:k≤m:=by rw [←hk];exact Nat.min_le_left _ _
 have htl:(bl (p.take k)).length=k:=by rw [bl_len,List.length_take,hok.len];omega
 have hrun:∃ w',(Builtin.copy_ #[t,t'] o.type #[.slice (some ⟨b,off,none⟩) n cap,.slice pu m cu]).run X.P w=.ok (.int .i64 (k:Int)) w'∧Mem X l' w':=by
  by_cases h0:k=0
  ·subst h0
   refine ⟨w,run_copy_none (P:=X.P) w t t' o.type e _ pu n cap m cu ht.out hs.out hk,?_⟩
   have e1:q'=q:=by rw [←hq];simp
   subst e1
   have e2:l'=l:=hat.same
   rw [e2];exact hst.mem
  ·obtain ⟨b',off',rfl⟩:=h3 (by omega)
   refine ⟨_,run_copy_row (P:=X.P) w t t' o.type e b off n cap ⟨b',off',none⟩ m cu (bys q) te (bl (p.take k)) ht.out hs.out hgb (by rw [htl,hk]) (fun j y hj=>?_) (by rw [htl];simpa [bys,bl_len] using hfit) (bl_one _) |>.trans (by rw [htl];rfl),?_⟩
   ·have hjl:j<k:=by rw [←htl];exact (List.getElem?_eq_some_iff.1 hj).1
    have hj':(bl p)[j]? = some y:=by
     rw [←bl_take,List.getElem?_take_of_lt hjl] at hj
     exact hj
    obtain ⟨b2,off2,cap2,hv,hc⟩:=hcs.cell j y hj'
    injection hv with hv
    injection hv with hv
    injection hv with hb' ho'
    subst hb';subst ho'
    rw [Addr.add_mid];exact hc
   ·have e0:off+k=off+(bl (p.take k)).length:=by rw [htl]
    rw [e0,putR_bys]
    have e1:q.take off++(p.take k++q.drop (off+(p.take k).length))=q':=by
     rw [←hq,List.length_take,hok.len,Nat.min_eq_left hkm]
    rw [e1]
    exact hst.mem.upd hat
 obtain ⟨w',hrun,hmem⟩:=hrun
 unfold wpList
 rw [if_pos hw]
 refine .inl ?_
 unfold Oper.wp
 have:(execOp a.eval o).run X.P w=.ok (.value (.int .i64 (k:Int))) w':=by
  simp only [execOp,hop,resolve,invoke,builtin,Sem.run_bind,Sem.run_pure,Result.andThen_ok,List.map_toArray,List.map_cons,List.map_nil,hst.env.eval hx,hst.env.eval hy,hrun]
 rw [this]
 exact h _ _ ⟨hst.env.put hd _,hmem⟩
theorem wl_makeB {t e bytes n:Nat}{x y:Operand}{kx ky:IntKind}{s':Value→Slots}{f:Blks→Blks}(hg:gd s ops o=some true)(hd:dOk X.N o.dst=true)(hop:o.op=.makeSlice t x y)(hx:val s x=some (.int kx (n:Int)))(hy:val s y=some (.int ky (n:Int)))
  [ht:UT X.P t (.slice e)] [hei:EI X.P e 1 bytes #[.int .u8 0]] [hf:Snoc l f] (h:∀ v' oa',OwnB e v' n (List.replicate n 0) oa'→Wl X ops Q r (s' v') (f oa'))
  (hb:n * bytes≤140737488355328∧n≤1152921504606846976:=by (refine ⟨?_,?_⟩ <;> omega))
  (hs':∀ v',sputO s o.dst v'=s' v':=by intro _;(try dsimp only [sputO,sput,Nat.reduceBEq,cond_true,cond_false,beq_self_eq_true]);first|done|exact rfl):Wl X ops Q (o::r) s l:=fun ac w hst=>by
 obtain rfl:(fun v'=>sputO s o.dst v')=s':=funext hs'
 have hw:=gd_wanted hst.env hg
 obtain ⟨i,zv,hi,hsz,hby,hz,hzc,hzs⟩:=hei.out
 have hr:=run_make (P:=X.P) w t e i zv ht.out hi hz kx ky (n:Int) (n:Int) (by omega) (Int.le_refl _) (by rw [hby,←Int.natCast_mul,Nat.mul_comm];omega) (by omega)
 rw [hsz,Nat.mul_one,Int.toNat_natCast,hzc] at hr
 unfold wpList
 rw [if_pos hw]
 refine .inl ?_
 unfold Oper.wp
 have:(execOp ac.eval o).run X.P w=.ok (.value (.slice (some ⟨w.heap.size,0,none⟩) n n)) (w.alloc (.cells (madeCells #[.int .u8 0] n) e)):=by
  simp only [execOp,hop,hst.env.eval hx,hst.env.eval hy,Sem.run_bind,hr,Result.andThen_ok,Sem.run_pure]
 rw [this]
 haveI:Seg l [] f:=⟨l,[],by simp,fun o=>by rw [hf.out,List.append_nil]⟩
 refine h _ [(w.heap.size,(madeCells #[.int .u8 0] n,e))] ⟨⟨by rw [bl_len,List.length_replicate,Nat.mul_one],.inr ⟨w.heap.size,n,madeCells #[.int .u8 0] n,rfl,Nat.le_refl _,?_,by rw [size_madeCells,Nat.mul_one],?_,rfl⟩,.inr hei.tb⟩,BL.rep n 0 (by decide)⟩ _ _ ⟨hst.env.put hd _,(upd_new (w:=w) (w1:=w) rfl rfl rfl rfl [] _ e hei.tb).mem hst.mem⟩
 ·simp only [maxLen];omega
 ·rw [made_one,bl_rep,Nat.mul_one,List.take_of_length_le (by simp)];rfl
theorem append_zeros {P:Program}{oa:Blks}{w:World}{t tn ty e bytes:Nat}{v:Value}{n m:Nat}{p:List Nat}{kn kv:IntKind}
  (ht:P.underlying t=some (.slice e)) (htn:P.underlying tn=some (.int kn)) (hei:EI P e 1 bytes #[.int .u8 0]) (hown:OwnB e v n p oa) (hd:Hd oa w)
  (h63:n+m≤maxLen) (hb:(n+m) * bytes≤140737488355328) :
  ∃ v' w' oa',(Builtin.append_ #[t,tn] ty #[v,.int kv (m:Int)]).run P w=.ok v' w'∧OwnB e v' (n+m) (p++List.replicate m 0) oa'∧Upd w oa w' oa':=by
 obtain ⟨i,zv,hi,hsz,hby,hz,hzc,hzs⟩:=hei.out
 have hxl:=hown.own.len
 rw [Nat.mul_one] at hxl
 have hok:BL (n+m) (p++List.replicate m 0):=hown.ok.app (BL.rep m 0 (by decide))
 have hnd:(keys oa).Nodup:=by rcases hown.own.out with ⟨_,_,rfl⟩ | ⟨g,cap,cur,_,_,_,_,_,rfl⟩ <;> simp [keys]
 have hl2:(bl (p++List.replicate m 0)).length=(n+m) * 1:=by rw [bl_len,hok.len,Nat.mul_one]
 have h63':n+m≤9223372036854775807:=by simp only [maxLen] at h63;omega
 have hw:IntKind.i64.wrap (m:Int)=m:=by rw [IntKind.wrap_i64];omega
 have hneg:¬((m:Int)<0):=by omega
 have hmb:m * bytes≤140737488355328:=Nat.le_trans (Nat.mul_le_mul_right _ (by omega)) hb
 have h48i:¬(281474976710656<(m:Int) * (bytes:Int)):=by rw [←Int.natCast_mul];omega
 have hw0:IntKind.i64.wrap 0=0:=by decide
 by_cases h0:m=0
 ·subst h0
  refine ⟨v,w,oa,?_,⟨by simpa using hown.own,by simpa using hok⟩,rfl,rfl,rfl,Nat.le_refl _,fun _ _ _=>rfl,hnd,hd,fun n hn=>.inl hn⟩
  rcases hown.own.out with ⟨rfl,rfl,rfl⟩ | ⟨g,cap,cur,rfl,hnc,hcm,hcs,htake,rfl⟩
  ·simp [Builtin.append_,run_underlying ht,run_underlying htn,sizeOf,typeInfo,hi,asInt,asIntOf,hw0]
  ·simp [Builtin.append_,run_underlying ht,run_underlying htn,sizeOf,typeInfo,hi,asInt,asIntOf,hw0,hnc,storeCells]
 have size_new:∀ k,n+m≤k→((bl p).toArray++Builtin.zeroCells zv.cells m++Builtin.zeroCells zv.cells (k - (n+m))).size=k * 1:=fun k hk=>by
  simp only [Array.size_append,List.size_toArray,size_zeroCells,hzc]
  rw [hxl]
  simp only [List.size_toArray,List.length_cons,List.length_nil]
  omega
 have take_new:∀ k,((bl p).toArray++Builtin.zeroCells zv.cells m++Builtin.zeroCells zv.cells (k - (n+m))).toList.take ((n+m) * 1)=bl (p++List.replicate m 0):=fun k=>by
  rw [Array.toList_append,Array.toList_append,hzc,zeros_one,bl_app,bl_rep,←hl2,bl_app,bl_rep]
  exact List.take_left
 rcases hown.own.out with ⟨rfl,rfl,rfl⟩ | ⟨g,cap,cur,rfl,hnc,hcm,hcs,htake,rfl⟩
 ·have hx:p=[]:=List.eq_nil_of_length_eq_zero (by rw [←hown.ok.len])
  subst hx
  have hr:=Lib.run_append_nil_zeros (P:=P) w t tn ty e i zv kv kn ht htn hi hz m (by omega) (by omega) (by omega) (by rw [hby];omega)
  have hge:=grownCap_ge w m 0 e
  have hcl:=grownCap_le_maxLen w m 0 e (by omega)
  have hs:=size_new (grownCap w m 0 e) (by omega)
  have htk:=take_new (grownCap w m 0 e)
  simp only [Nat.zero_add,bl,List.map_nil,Array.empty_append,List.nil_append] at hs htk hl2 hok ⊢
  exact ⟨_,_,[(w.heap.size,(_,e))],hr,⟨⟨hl2,.inr ⟨w.heap.size,_,_,rfl,hge,hcl,hs,htk,rfl⟩,.inr hei.tb⟩,hok⟩,upd_new (w:=w) (w1:=w.drew) rfl rfl rfl rfl [] _ e hei.tb⟩
 ·have hg:w.heap[g]? = some (.cells cur e (0,0)):=(hd (g,(cur,e)) (by simp)).trans (congrArg some (toObj_cells hei.tb))
  by_cases hroom:n+m≤cap
  ·have hfit:n+(List.replicate m (Value.int .u8 0)).length≤cur.size:=by rw [List.length_replicate,hcs];omega
   have hst:=run_storeCells_at P g n e (List.replicate m (Value.int .u8 0)) 0 cur w hg (by simpa using hfit) (fun y hy=>by rw [(List.mem_replicate.1 hy).2];rfl)
   simp only [Nat.add_zero] at hst
   have hms:¬(m * i.size=0):=by rw [hsz];omega
   have hr:(Builtin.append_ #[t,tn] ty #[.slice (some ⟨g,0,none⟩) n cap,.int kv (m:Int)]).run P w=.ok (.slice (some ⟨g,0,none⟩) (n+m) cap) (w.setRow g (cur.toList.take n++List.replicate m (Value.int .u8 0)++cur.toList.drop (n+(List.replicate m (Value.int .u8 0)).length)).toArray):=by
    simp [Builtin.append_,run_underlying ht,run_underlying htn,sizeOf,typeInfo,zeroValue,hi,hz,hsz,hby,asInt,asIntOf,hw,hneg,h0,h48i,hroom,hzc,zeros_one,Addr.add_lit,hst]
   refine ⟨_,_,[(g,(_,e))],hr,⟨⟨hl2,.inr ⟨g,cap,_,rfl,hroom,hcm,?_,?_,rfl⟩,.inr hei.tb⟩,hok⟩,rfl,rfl,rfl,by simp,fun k hk hne=>setRow_other w g k _ (fun e=>hne (by simp [keys,e])),by simp [keys],hd_one ((setRow_heap w g cur _ e _ hg).trans (congrArg some (toObj_cells hei.tb).symm)),fun n hn=>.inl (by simpa [keys] using hn)⟩
   ·simp only [List.size_toArray,List.length_append,List.length_take,List.length_drop,Array.length_toList,List.length_replicate]
    omega
   ·rw [Nat.mul_one] at htake
    simp only [htake]
    rw [←hl2,bl_app,bl_rep]
    exact List.take_left
  ·have holds:∀ j y,(bl p)[j]? = some y→w.cell? ((⟨g,0,none⟩:Addr).add j)=some y:=(hown.own.row hd).cells (g:=g) rfl
   have hfc:=run_firstCells_some (P:=P) w.drew i.size n ⟨g,0,none⟩ n cap (bl p) (by rw [hxl,hsz,Nat.mul_one]) holds
   have hr:=Lib.run_append_grow_zeros (P:=P) w t tn ty e i zv kv kn ht htn hi hz (some ⟨g,0,none⟩) n cap (bl p) hfc m (by omega) (by omega) (by omega) (by omega) (by rw [hby];omega) (by rw [hby];exact growslice_fits (by omega) hb)
   have hge:=grownCap_ge w (n+m) cap e
   have hcl:=grownCap_le_maxLen w (n+m) cap e h63
   exact ⟨_,_,[(w.heap.size,(_,e))],hr,⟨⟨hl2,.inr ⟨w.heap.size,_,_,rfl,hge,hcl,size_new _ hge,take_new _,rfl⟩,.inr hei.tb⟩,hok⟩,upd_new (w:=w) (w1:=w.drew) rfl rfl rfl rfl _ _ e hei.tb⟩
theorem wl_append0 {x y:Operand}{t tn e bytes n m:Nat}{kn kv:IntKind}{p:List Nat}{oa:Blks}{f:Blks→Blks}{s':Value→Slots}
  (hg:gd s ops o=some true) (hd:dOk X.N o.dst=true) (hop:o.op=.call {callee:=.builtin .append,args:=#[x,y],argTypes:=#[t,tn]})
  (hx:val s x=some v) (hy:val s y=some (.int kv (m:Int))) [ht:UT X.P t (.slice e)] [htn:UT X.P tn (.int kn)] [hei:EI X.P e 1 bytes #[.int .u8 0]] [hown:OwnB e v n p oa] [hseg:Seg l oa f]
  (h:∀ v' oa',OwnB e v' (n+m) (p++List.replicate m 0) oa'→Wl X ops Q r (s' v') (f oa'))
  (h63:(n+m) * bytes≤1152921504606846976∧n+m≤1152921504606846976∧(n+m) * bytes≤140737488355328:=by (refine ⟨?_,?_,?_⟩ <;> omega))
  (hs':∀ v',sputO s o.dst v'=s' v':=by intro _;(try dsimp only [sputO,sput,Nat.reduceBEq,cond_true,cond_false,beq_self_eq_true]);first|done|exact rfl):Wl X ops Q (o::r) s l:=fun ac w hst=>by
 obtain rfl:(fun v'=>sputO s o.dst v')=s':=funext hs'
 have hw:=gd_wanted hst.env hg
 have hdd:Hd oa w:=by
  obtain ⟨pre,post,rfl,_⟩:=hseg.out
  intro p hp
  exact hst.mem.cls.now p.1 p.2.1 p.2.2 (mu_mem_of (by simp [hp]) hst.mem.nd)
 obtain ⟨v',w',oa',hr,ho',hup⟩:=append_zeros (ty:=o.type) (kv:=kv) (m:=m) ht.out htn.out hei hown hdd (by simp only [maxLen];omega) h63.2.2
 unfold wpList
 rw [if_pos hw]
 refine .inl ?_
 unfold Oper.wp
 have:(execOp ac.eval o).run X.P w=.ok (.value v') w':=by
  simp only [execOp,hop,resolve,invoke,builtin,Sem.run_bind,Sem.run_pure,Result.andThen_ok,List.map_toArray,List.map_cons,List.map_nil,hst.env.eval hx,hst.env.eval hy,hr]
 rw [this]
 exact h v' oa' ho' _ _ ⟨hst.env.put hd _,hup.mem hst.mem⟩
theorem wl_putB {x y:Operand}{t e n j k:Nat}{u:Value}{p:List Nat}{oa:Blks}{f:Blks→Blks}(hg:gd s ops o=some true)(hd:dOk X.N o.dst=true)(ho:o.op=.store t x y)
  (hx:val s x=some (.pointer (some ⟨elB u,elO u+j,none⟩))) (hy:val s y=some (.int .u8 (k:Int))) [hs:SZ X.P t 1] [hown:OwnB e u n p oa] [hseg:Seg l oa f]
  (h:∀ oa',OwnB e u n (p.set j k) oa'→Wl X ops Q r s (f oa')) (hj:j<n:=by first|(with_reducible assumption)|omega) (hk:k<256:=by first|(with_reducible assumption)|omega) (hdn:o.dst=none:=by rfl):Wl X ops Q (o::r) s l:=fun ac w hst=>by
 have hw:=gd_wanted hst.env hg
 have hdd:Hd oa w:=by
  obtain ⟨pre,post,rfl,_⟩:=hseg.out
  intro p hp
  exact hst.mem.cls.now p.1 p.2.1 p.2.2 (mu_mem_of (by simp [hp]) hst.mem.nd)
 have hxl:=hown.own.len
 rcases hown.own.out with ⟨rfl,rfl,rfl⟩ | ⟨g,cap,cur,rfl,hnc,hcm,hcs,htake,rfl⟩
 ·omega
 have hbig:=hown.own.big
 have hgb:w.heap[g]? = some (.cells cur e (0,0)):=(hdd (g,(cur,e)) (by simp)).trans (congrArg some (toObj_cells hbig))
 have hlt:0+j<cur.size:=by omega
 have h1:(Value.int .u8 (k:Int)).oneCell'=true:=rfl
 have hrun:=store_run (P:=X.P) (ty:=t) (off:=0+j) (v:=.int .u8 (k:Int)) (w:=w) (.inr ⟨h1,hs.out,hlt⟩) hgb
 have e1:splice cur (0+j) (.int .u8 (k:Int))=cur.setIfInBounds (0+j) (.int .u8 (k:Int)):=rfl
 rw [e1] at hrun
 unfold wpList
 rw [if_pos hw]
 refine .inl ?_
 unfold Oper.wp
 have hx':=hst.env.eval hx
 have:(execOp ac.eval o).run X.P w=.ok .skip (w.setRow g (cur.setIfInBounds (0+j) (.int .u8 (k:Int)))):=by
  simp only [execOp,ho,hx',hst.env.eval hy,Instr.storeAt,Instr.sureAddr,Sem.run_bind,Sem.run_pure,Result.andThen_ok,elB,elO,hrun]
 rw [this]
 have hs0:sputO s o.dst undef=s:=by rw [hdn];rfl
 have hup:Upd w [(g,(cur,e))] (w.setRow g (cur.setIfInBounds (0+j) (.int .u8 (k:Int)))) [(g,(cur.setIfInBounds (0+j) (.int .u8 (k:Int)),e))]:=
  ⟨rfl,rfl,rfl,by simp,fun k' hk' hne=>setRow_other w g k' _ (fun e=>hne (by simp [keys,e])),by simp [keys],hd_one ((setRow_heap w g cur _ e _ hgb).trans (congrArg some (toObj_cells hbig).symm)),fun n hn=>.inl (by simpa [keys] using hn)⟩
 refine (show Wl X ops Q r (sputO s o.dst undef) (f [(g,(cur.setIfInBounds (0+j) (.int .u8 (k:Int)),e))]) from by
  rw [hs0]
  refine h _ ⟨⟨by rw [bl_len,List.length_set,hown.ok.len,Nat.mul_one],.inr ⟨g,cap,_,rfl,hnc,hcm,by simpa using hcs,?_,rfl⟩,.inr hbig⟩,hown.ok.set hk⟩
  rw [Nat.zero_add,Array.toList_setIfInBounds,List.take_set,htake,bl_set]) _ _ ⟨hst.env.put hd _,hup.mem hst.mem⟩
end
end Go.Proofs.YtkendlnjaopbeaaGreatDoor
namespace Go.Proofs.YtkendlnjaopbeaaGreatDoor
def padK (n:Nat):Nat:=(119 - n % 64) % 64
def padTail (n:Nat):List Nat:=(List.range 8).map fun i=>8 * n % 18446744073709551616 / 2 ^ (56 - 8 * i) % 256
def padL (n:Nat):List Nat:=128::(List.replicate (padK n) 0++padTail n)
theorem padK_lt (n:Nat):padK n<64:=Nat.mod_lt _ (by decide)
end Go.Proofs.YtkendlnjaopbeaaGreatDoor
namespace Go.Proofs.YtkendlnjaopbeaaGreatDoor
def add32 (a b:Int):Int:=IntKind.u32.wrap (a+b)
def xor32 (a b:Int):Int:=bits .xor .u32 a b
def or32 (a b:Int):Int:=bits .or .u32 a b
def and32 (a b:Int):Int:=bits .and .u32 a b
def rotI (x:Int)(s:Nat):Int:=or32 (IntKind.u32.wrap (x * 2 ^ s)) (x / 2 ^ (32 - s))
def ss0 (x:Int):Int:=xor32 (xor32 (rotI x 25) (rotI x 14)) (x / 8)
def ss1 (x:Int):Int:=xor32 (xor32 (rotI x 15) (rotI x 13)) (x / 1024)
def bs1 (x:Int):Int:=xor32 (xor32 (rotI x 26) (rotI x 21)) (rotI x 7)
def bs0 (x:Int):Int:=xor32 (xor32 (rotI x 30) (rotI x 19)) (rotI x 10)
def wordI (p:List Nat)(at':Nat):Int:=or32 (or32 (or32 ((p.getD at' 0 * 16777216:Nat):Int) ((p.getD (at'+1) 0 * 65536:Nat):Int)) ((p.getD (at'+2) 0 * 256:Nat):Int)) ((p.getD (at'+3) 0:Nat):Int)
def nextW (l:List Int)(t:Nat):Int:=add32 (add32 (add32 (l.getD (t - 16) 0) (ss0 (l.getD (t - 15) 0))) (l.getD (t - 7) 0)) (ss1 (l.getD (t - 2) 0))
def schedI (b:List Nat):Nat→List Int
 | 0=>List.replicate 64 0
 | t+1=>(schedI b t).set t (if t<16 then wordI b (4 * t) else nextW (schedI b t) t)
theorem schedI_len (b:List Nat):∀ t,(schedI b t).length=64
 | 0=>by simp [schedI]
 | t+1=>by rw [schedI,List.length_set,schedI_len b t]
def roots:List Int:=[0x428a2f98,0x71374491,0xb5c0fbcf,0xe9b5dba5,0x3956c25b,0x59f111f1,0x923f82a4,0xab1c5ed5,
 0xd807aa98,0x12835b01,0x243185be,0x550c7dc3,0x72be5d74,0x80deb1fe,0x9bdc06a7,0xc19bf174,
 0xe49b69c1,0xefbe4786,0x0fc19dc6,0x240ca1cc,0x2de92c6f,0x4a7484aa,0x5cb0a9dc,0x76f988da,
 0x983e5152,0xa831c66d,0xb00327c8,0xbf597fc7,0xc6e00bf3,0xd5a79147,0x06ca6351,0x14292967,
 0x27b70a85,0x2e1b2138,0x4d2c6dfc,0x53380d13,0x650a7354,0x766a0abb,0x81c2c92e,0x92722c85,
 0xa2bfe8a1,0xa81a664b,0xc24b8b70,0xc76c51a3,0xd192e819,0xd6990624,0xf40e3585,0x106aa070,
 0x19a4c116,0x1e376c08,0x2748774c,0x34b0bcb5,0x391c0cb3,0x4ed8aa4a,0x5b9cca4f,0x682e6ff3,
 0x748f82ee,0x78a5636f,0x84c87814,0x8cc70208,0x90befffa,0xa4506ceb,0xbef9a3f7,0xc67178f2]
def oneI (v:List Int)(k w:Int):Int:=add32 (add32 (add32 (add32 (v.getD 7 0) (bs1 (v.getD 4 0))) (xor32 (and32 (v.getD 4 0) (v.getD 5 0)) (and32 (xor32 4294967295 (v.getD 4 0)) (v.getD 6 0)))) k) w
def twoI (v:List Int):Int:=add32 (bs0 (v.getD 0 0)) (xor32 (xor32 (and32 (v.getD 0 0) (v.getD 1 0)) (and32 (v.getD 0 0) (v.getD 2 0))) (and32 (v.getD 1 0) (v.getD 2 0)))
def roundI (v:List Int)(k w:Int):List Int:=[add32 (oneI v k w) (twoI v),v.getD 0 0,v.getD 1 0,v.getD 2 0,add32 (v.getD 3 0) (oneI v k w),v.getD 4 0,v.getD 5 0,v.getD 6 0]
def roundsI (h:List Int)(ws:List Int):Nat→List Int
 | 0=>h
 | t+1=>roundI (roundsI h ws t) (roots.getD t 0) (ws.getD t 0)
def addsI (h v:List Int):Nat→List Int
 | 0=>h
 | i+1=>(addsI h v i).set i (add32 ((addsI h v i).getD i 0) (v.getD i 0))
def pressI (h:List Int)(b:List Nat):List Int:=addsI h (roundsI h (schedI b 64) 64) 8
theorem roundsI_len (h ws:List Int)(hh:h.length=8):∀ t,(roundsI h ws t).length=8
 | 0=>hh
 | _+1=>rfl
theorem addsI_len (h v:List Int):∀ i,(addsI h v i).length=h.length
 | 0=>rfl
 | i+1=>by rw [addsI,List.length_set,addsI_len h v i]
structure HS where
 h:List Int
 n:Nat
 left:List Nat
def HS.ok (s:HS):Prop:=s.h.length=8∧s.n<18446744073709551616∧s.left.length=64∧∀ x∈s.left,x<256
def newH:HS:=⟨[0x6a09e667,0xbb67ae85,0x3c6ef372,0xa54ff53a,0x510e527f,0x9b05688c,0x1f83d9ab,0x5be0cd19],0,List.replicate 64 0⟩
def HS.put (s:HS)(b:Nat):HS:=
 let left:=s.left.set (s.n % 64) b
 let n:=(s.n+1) % 18446744073709551616
 ⟨if n % 64=0 then pressI s.h left else s.h,n,left⟩
def HS.write (s:HS)(p:List Nat):HS:=p.foldl HS.put s
def sumB (h:List Int):List Nat:=(h.map fun x=>[(IntKind.u8.wrap (x / 16777216)).toNat,(IntKind.u8.wrap (x / 65536)).toNat,(IntKind.u8.wrap (x / 256)).toNat,(IntKind.u8.wrap x).toNat]).flatten
def HS.sum (s:HS):List Nat:=sumB (s.write (padL s.n)).h
def dig (p:List Nat):List Nat:=(newH.write p).sum
theorem newH_ok:newH.ok:=⟨rfl,by decide,rfl,by decide⟩
theorem HS.put_ok {s:HS}{b:Nat}(h:s.ok)(hb:b<256):(s.put b).ok:=by
 obtain ⟨h1,h2,h3,h4⟩:=h
 refine ⟨?_,Nat.mod_lt _ (by decide),by simp [HS.put,h3],fun x hx=>?_⟩
 ·simp only [HS.put]
  split
  ·rw [pressI,addsI_len,h1]
  ·exact h1
 ·rcases List.mem_or_eq_of_mem_set hx with h|h
  ·exact h4 x h
  ·rw [h];exact hb
theorem HS.write_ok {p:List Nat}(hp:∀ x∈p,x<256):∀ {s:HS},s.ok→(s.write p).ok:=by
 induction p with
 | nil=>intro s h;exact h
 | cons b r ih=>intro s h;exact ih (fun x hx=>hp x (by simp [hx])) (HS.put_ok h (hp b (by simp)))
theorem HS.write_app (s:HS)(p q:List Nat):s.write (p++q)=(s.write p).write q:=by simp [HS.write,List.foldl_append]
theorem HS.write_snoc (s:HS)(p:List Nat)(b:Nat):s.write (p++[b])=(s.write p).put b:=by rw [HS.write_app];rfl
end Go.Proofs.YtkendlnjaopbeaaGreatDoor
namespace Go.Proofs.YtkendlnjaopbeaaGreatDoor
open Go.RowKit
set_option linter.unusedVariables false
set_option linter.unusedSimpArgs false
section
variable {P:Program}{ops:Array Oper}{Q:Exit→Act→World→Prop}{md:Region.Mode}{S:Array Bool→World→Prop}
def wpAnyS (P:Program)(md:Region.Mode)(ops:Array Oper)(Q:Exit→Act→World→Prop)(S:Array Bool→World→Prop):Nat→Array Bool→Act→World→Prop
 | 0,listed,a,w=>Region.ready md ops listed=[]∧Q .normal a w
 | fuel+1,listed,a,w=>
  (Region.ready md ops listed=[]→Q .normal a w)∧
  ∀ i∈Region.ready md ops listed,wpOp P ops Q i (fun a' w'=>S (listed.setIfInBounds i true) w'∧wpAnyS P md ops Q S fuel (listed.setIfInBounds i true) a' w') a w
theorem wpAny_of_S:∀ (fuel:Nat) (listed:Array Bool) (a:Act) (w:World),wpAnyS P md ops Q S fuel listed a w→wpAny P md ops Q fuel listed a w
 | 0,_,_,_,h=>h
 | fuel+1,_,_,_,h=>⟨h.1,fun i hi=>wpOp_mono (fun a' w' h'=>wpAny_of_S fuel _ a' w' h'.2) (h.2 i hi)⟩
theorem wpAnyS_first {i:Nat}{oi:Oper}{v:Value}{T:World→Prop}(hi:ops[i]? = some oi)(hsel:∀ (j:Nat) (o:Oper) cs b,ops[j]? = some o→o.op≠.select cs b)
  (hQ:∀ c a w,Q (.panic c) (a.put oi.dst v) w→Q (.panic c) a w) (hT:∀ L w,Clo md ops L→L.getD i true=false→S L w→T w) (hSi:∀ L w,S (L.setIfInBounds i true) w↔S L w) :
  ∀ (fuel:Nat) (listed:Array Bool) (a:Act) (w:World),Clo md ops listed→
   (∀ j oj,ops[j]? = some oj→j≠i→listed.getD j true=false→(∀ e∈oj.after,Region.binds md e=true→e.on≠i)→oi.apart ops oj=true)→
   i∈Region.ready md ops listed→YieldsIf P ops T oi v a→S listed w→
   wpAnyS P md ops Q S fuel (listed.setIfInBounds i true) (a.put oi.dst v) w→wpAnyS P md ops Q S (fuel+1) listed a w:=by
 intro fuel
 induction fuel with
 | zero=>
  intro listed a w hcl _ hr hy hS H
  refine ⟨fun h=>(by rw [h] at hr;cases hr),fun j hj=>?_⟩
  by_cases hji:j=i
  ·subst hji;exact hy.wpOp hi (hT listed w hcl (mem_ready.1 hr).1 hS) ⟨(hSi _ _).2 hS,H⟩
  ·have:=ready_mono hj hji
   rw [H.1] at this
   cases this
 | succ fuel ih=>
  intro listed a w hcl hfree hr hy hS H
  refine ⟨fun h=>(by rw [h] at hr;cases hr),fun j hj=>?_⟩
  by_cases hji:j=i
  ·subst hji;exact hy.wpOp hi (hT listed w hcl (mem_ready.1 hr).1 hS) ⟨(hSi _ _).2 hS,H⟩
  ·have h1:=H.2 j (ready_mono hj hji)
   obtain ⟨hjun,oj,hoj,hall⟩:=mem_ready.1 hj
   have hnot:∀ e∈oj.after,Region.binds md e=true→e.on≠i:=fun e he hb heq=>by
    have h1:=hall e he hb
    have h0:=(mem_ready.1 hr).1
    rw [heq] at h1
    rcases Nat.lt_or_ge i listed.size with h'|h'
    ·simp [h'] at h0 h1;rw [h0] at h1;cases h1
    ·simp [Array.getElem?_eq_none h'] at h1
   have h2:=wpOp_putIf hoj (hfree j oj hoj hji hjun hnot) (fun cs b=>hsel i oi cs b hi) (fun cs b=>hsel j oj cs b hoj) hQ hy h1
   have hfree':∀ k ok,ops[k]? = some ok→k≠i→(listed.setIfInBounds j true).getD k true=false→
     (∀ e∈ok.after,Region.binds md e=true→e.on≠i)→oi.apart ops ok=true:=fun k ok hk hki hun hno=>by
    refine hfree k ok hk hki ?_ hno
    by_cases hjk:j=k
    ·subst hjk;exact hjun
    ·rw [getD_set_ne true hjk] at hun;exact hun
   have hcomm:(listed.setIfInBounds i true).setIfInBounds j true=(listed.setIfInBounds j true).setIfInBounds i true:=Array.setIfInBounds_comm _ _ (Ne.symm hji)
   refine wpOp_mono (fun a' w' h3=>?_) h2
   obtain ⟨h3,h4,h5⟩:=h3
   rw [hcomm] at h4 h5
   have h6:=(hSi _ _).1 h4
   exact ⟨h6,ih (listed.setIfInBounds j true) a' w' (hcl.set hj) hfree' (ready_mono hr (Ne.symm hji)) h3 h6 h5⟩
end
theorem wp_mono2 {P:Program}{o:Oper}{a:Act}{w:World}{K K':Act→World→Prop}{Q Q':Exit→Act→World→Prop}(h:∀ a w,K a w→K' a w)(hQ:∀ e a w,Q e a w→e≠.normal→Q' e a w)(hh:o.wp P a w K Q):o.wp P a w K' Q':=by
 unfold Oper.wp at *
 generalize (execOp a.eval o).run P w=r at *
 cases r with
 | ok n w'=>
  cases n <;> simp only [Oper.upon] at hh ⊢ <;> first|exact h _ _ hh|skip
  case enter f args=>
   refine Calls.mono hh fun e w'' he=>?_
   cases e with
   | returned u=>exact h _ _ he
   | panicked c=>exact hQ _ _ _ he (by simp)
   | outgrown=>
    obtain ⟨a,w,h1⟩:=he
    exact ⟨a,w,hQ _ _ _ h1 (by simp)⟩
  case row row args=>exact Rows.mono hh fun u w'' he=>h _ _ he
 | halt x w'=>
  cases x <;> simp only [Oper.upon] at hh ⊢
  case panic u=>exact hQ _ _ _ hh (by simp)
def memB (k:Nat):List Nat→Bool
 | []=>false
 | j::r=>bif Nat.beq k j then true else memB k r
theorem memB_iff {k:Nat}:∀ {l:List Nat},memB k l=true↔k∈l
 | []=>by simp [memB]
 | j::r=>by
  unfold memB
  by_cases h:k=j
  ·subst h;simp
  ·have:Nat.beq k j=false:=by
    rw [←Bool.not_eq_true,Nat.beq_eq];exact h
   rw [this,cond_false,memB_iff,List.mem_cons]
   exact ⟨.inr,fun h'=>h'.resolve_left h⟩
def arrOf (n:Nat)(l:List Nat):Array Bool:=((List.range n).map fun k=>memB k l).toArray
theorem arrOf_set (n:Nat)(l:List Nat)(i:Nat):(arrOf n l).setIfInBounds i true=arrOf n (i::l):=by
 apply Array.ext
 ·simp [arrOf]
 ·intro k h1 h2
  have h3:k<(arrOf n l).size:=by rw [Array.size_setIfInBounds] at h1;exact h1
  rw [Array.getElem_setIfInBounds h3]
  simp only [arrOf,List.getElem_toArray,List.getElem_map,List.getElem_range,memB]
  split
  ·rename_i h;subst h;simp
  ·rename_i h
   have:Nat.beq k i=false:=by
    rw [←Bool.not_eq_true,Nat.beq_eq];exact fun e=>h e.symm
   rw [this,cond_false]
theorem arrOf_nil (n:Nat):arrOf n []=Array.replicate n false:=by
 apply Array.ext
 ·simp [arrOf]
 ·intro k h1 h2
  simp [arrOf,memB]
def edgeOk (l:List Nat)(e:Edge):Bool:=bif Region.binds .any e then memB e.on l else true
def allE (l:List Nat):List Edge→Bool
 | []=>true
 | e::r=>bif edgeOk l e then allE l r else false
def steadyB (o:Oper):Bool:=match o.op with
 | .call c=>match c.callee with
  | .builtin .len | .builtin .cap | .builtin .min | .builtin .max=>true
  | _=>false
 | .alloc _ | .box _ _ | .store _ _ _ | .buildSlice _ _ _ | .makeSlice _ _ _ | .makeMap _ _ | .mapUpdate _ _ _ _ | .insert _ _ _ _ | .mapEntry _ _ _ | .entryStore _ _ _ _ | .range _ _ | .next _ _ | .entry _=>false
 | _=>true
def idx:List Nat:=[0,1,2,3,4,5,6,7,8,9,10,11,12,13,14,15,16,17,18,19,20,21,22,23,24,25,26,27,28,29,30,31,32,33,34,35,36,37,38,39,40,41,42,43,44,45,46,47,48,49,50,51,52,53,54,55,56,57,58,59]
def pickS (p:Oper→Bool):List Oper→List Nat→List Nat→Option Nat
 | o::r,k::ks,l=>bif memB k l then pickS p r ks l else bif p o then (bif allE l o.after.toList then some k else pickS p r ks l) else pickS p r ks l
 | _,_,_=>none
def opAt:List Oper→Nat→Option Oper
 | [],_=>none
 | o::_,0=>some o
 | _::r,i+1=>opAt r i
theorem opAt_get:∀ {r:List Oper} {i:Nat} {o:Oper},opAt r i=some o→r.toArray[i]? = some o
 | [],_,_,h=>by cases h
 | o::_,0,_,h=>by cases h;rfl
 | _::r,i+1,o,h=>by
  have:=opAt_get (r:=r) (i:=i) h
  simpa using this
def readyL:List Oper→List Nat→List Nat→List Nat
 | o::r,k::ks,l=>bif memB k l then readyL r ks l else bif allE l o.after.toList then k::readyL r ks l else readyL r ks l
 | _,_,_=>[]
def lateOk (late:List Nat)(ops:Array Oper)(i:Nat):Bool:=late.all fun j=>reachB .any ops i 1 j || reachB .any ops i 4 j
def storeI:List Oper→Nat→List Nat
 | [],_=>[]
 | o::r,k=>match o.op with
  | .store _ _ _=>k::storeI r (k+1)
  | _=>storeI r (k+1)
def SL (X:Cx)(lp:Blks)(late:List Nat)(L:Array Bool)(w:World):Prop:=((∃ j∈late,L.getD j false=true)∧Mem X [] w)∨Mem X lp w
def Qn (X:Cx)(Q:Post):Exit→Act→World→Prop
 | .normal,a,w=>lift X Q .normal a w
 | _,_,_=>False
structure Hg where
 ops:Array Oper
 lp:Blks
 late:List Nat
def Wh (X:Cx)(G:Hg)(Q:Post)(fuel:Nat)(l:List Nat)(s:Slots)(b:Blks):Prop:=
 ∀ a w,St X s b a w→Clo .any G.ops (arrOf G.ops.size l)→SL X G.lp G.late (arrOf G.ops.size l) w→wpAnyS X.P .any G.ops (Qn X Q) (SL X G.lp G.late) fuel (arrOf G.ops.size l) a w
section
variable {X:Cx}{G:Hg}{s:Slots}{b:Blks}{v:Value}{Q:Post}{l:List Nat}{fuel:Nat}
theorem Mem.none {w:World}{l:Blks}(h:Mem X l w):Mem X [] w:=h.sub .nil
theorem SL.none {lp:Blks}{late:List Nat}{L:Array Bool}{w:World}(h:SL X lp late L w):Mem X [] w:=by
 rcases h with h|h
 ·exact h.2
 ·exact h.none
theorem wc_drawH {id:Nat}{r:List Oper}(lp:Blks)(late:List Nat)(hm:X.P.follows .mixedOrders=true)(hlp:SubL lp b)(h:Wh X ⟨r.toArray,lp,late⟩ Q r.length [] s b):Wc X (.region id r.toArray true) Q s b:=fun a w hs=>by
 refine wp_mono (Q:=Qn X Q) (wp_region_any hm (wpAny_of_S (S:=SL X lp late) _ _ _ _ ?_)) (fun e a w h=>by cases e <;> first|exact h|exact h.elim)
 have hd:Mem X b {w with drawn:=w.drawn+1}:=hs.mem.drew
 have:=h a _ ⟨hs.env,hd⟩ (by dsimp only;rw [arrOf_nil];exact Clo.none) (.inr (hd.sub hlp))
 dsimp only at this
 rw [arrOf_nil] at this
 simpa using this
theorem wh_first {i:Nat}{oi:Oper}{lq:Blks}{fuel:Nat}(hi:G.ops[i]? = some oi)(hr:(Region.ready .any G.ops (arrOf G.ops.size l)).contains i=true)(hs:Region.noSelect G.ops=true)(hf:Region.free .any G.ops (arrOf G.ops.size l) i=true)
  (hn:memB i G.late=false) (hq:lq=[]∨(lq=G.lp∧lateOk G.late G.ops i=true)) (hy:∀ a,Env X.N s a→YieldsIf X.P G.ops (fun w=>Mem X lq w) oi v a) (hd:dOk X.N oi.dst=true)
  (h:Wh X G Q fuel (i::l) (sputO s oi.dst v) b):Wh X G Q (fuel+1) l s b:=fun a w hst hcl hS=>by
 have hr':i∈Region.ready .any G.ops (arrOf G.ops.size l):=by simpa using hr
 have hne:∀ j∈G.late,j≠i:=fun j hj e=>by subst e;rw [memB_iff.2 hj] at hn;cases hn
 have hSi:∀ L w,SL X G.lp G.late (L.setIfInBounds i true) w↔SL X G.lp G.late L w:=fun L w=>by
  unfold SL
  have:(∃ j∈G.late,(L.setIfInBounds i true).getD j false=true)↔(∃ j∈G.late,L.getD j false=true):=
   ⟨fun ⟨j,hj,h⟩=>⟨j,hj,by rwa [getD_set_ne false (hne j hj).symm] at h⟩,fun ⟨j,hj,h⟩=>⟨j,hj,by rwa [getD_set_ne false (hne j hj).symm]⟩⟩
  rw [this]
 have h1:=h (a.put oi.dst v) w ⟨hst.env.put hd v,hst.mem⟩ (by rw [←arrOf_set];exact hcl.set hr') (by rw [←arrOf_set];exact (hSi _ _).2 hS)
 rw [←arrOf_set] at h1
 refine wpAnyS_first (T:=fun w=>Mem X lq w) hi (Region.noSelect_spec hs) (fun c a w hq'=>?_) (fun L w hL hun hSL=>?_) hSi fuel _ a w hcl (Region.free_spec hi hf) hr' (hy a hst.env) hS h1
 ·exact hq'
 ·rcases hq with rfl | ⟨rfl,hlate⟩
  ·exact hSL.none
  ·rcases hSL with ⟨⟨j,hj,hl⟩,_⟩|h
   ·exfalso
    simp only [lateOk,List.all_eq_true,Bool.or_eq_true] at hlate
    have:L.getD i false=true:=by
     rcases hlate j hj with h|h
     ·exact reachB_listed hL _ _ h hl
     ·exact reachB_listed hL _ _ h hl
    rw [(getD_flip hun).2] at this
    cases this
   ·exact h
theorem wh_take {i:Nat}{oi:Oper}{r:List Oper}{lp lq:Blks}{late:List Nat}{s':Slots}(hp:pickS steadyB r idx l=some i)(hi:opAt r i=some oi)(hg:gd s r.toArray oi=some true)(hd:dOk X.N oi.dst=true)(hy:RdV X s lq oi v)
  (hq:lq=[]∨(lq=lp∧lateOk late r.toArray i=true))
  (h:Wh X ⟨r.toArray,lp,late⟩ Q fuel (i::l) s' b) (hs':sputO s oi.dst v=s':=by (try dsimp only [sputO,sput,Nat.reduceBEq,cond_true,cond_false,beq_self_eq_true]);first|done|exact rfl)
  (hr:(Region.ready .any r.toArray (arrOf r.toArray.size l)).contains i=true:=by kernel_rfl) (hs:Region.noSelect r.toArray=true:=by kernel_rfl) (hf:Region.free .any r.toArray (arrOf r.toArray.size l) i=true:=by kernel_rfl)
  (hn:memB i late=false:=by kernel_rfl):Wh X ⟨r.toArray,lp,late⟩ Q (fuel+1) l s b:=by
 subst hs'
 exact wh_first (G:=⟨r.toArray,lp,late⟩) (opAt_get hi) hr hs hf hn hq (fun a he=>.inl ⟨gd_wanted he hg,fun w hm=>hy a w he hm⟩) hd h
theorem wh_takeL {i:Nat}{oi:Oper}{r:List Oper}{lp:Blks}{late:List Nat}{s':Slots}(hp:pickS steadyB r idx l=some i)(hi:opAt r i=some oi)(hg:gd s r.toArray oi=some true)(hd:dOk X.N oi.dst=true)(hy:RdV X s lp oi v)
  (hq:lateOk late r.toArray i=true)
  (h:Wh X ⟨r.toArray,lp,late⟩ Q fuel (i::l) s' b) (hs':sputO s oi.dst v=s':=by (try dsimp only [sputO,sput,Nat.reduceBEq,cond_true,cond_false,beq_self_eq_true]);first|done|exact rfl)
  (hr:(Region.ready .any r.toArray (arrOf r.toArray.size l)).contains i=true:=by kernel_rfl) (hs:Region.noSelect r.toArray=true:=by kernel_rfl) (hf:Region.free .any r.toArray (arrOf r.toArray.size l) i=true:=by kernel_rfl)
  (hn:memB i late=false:=by kernel_rfl):Wh X ⟨r.toArray,lp,late⟩ Q (fuel+1) l s b:=wh_take hp hi hg hd hy (Or.inr ⟨rfl,hq⟩) h hs' hr hs hf hn
theorem wh_if {r:List Oper}{lp:Blks}{late:List Nat}(h0:(pickS steadyB r idx l).isSome=true)(h:Wh X ⟨r.toArray,lp,late⟩ Q fuel l s b):Wh X ⟨r.toArray,lp,late⟩ Q fuel l s b:=h
theorem wh_pass {i:Nat}{oi:Oper}{r:List Oper}{lp:Blks}{late:List Nat}{s':Slots}(hp:pickS (fun o=>match gd s r.toArray o with|some false=>true|_=>false) r idx l=some i)(hi:opAt r i=some oi)(hg:gd s r.toArray oi=some false)(hd:dOk X.N oi.dst=true)
  (h:Wh X ⟨r.toArray,lp,late⟩ Q fuel (i::l) s' b) (hs':sputO s oi.dst undef=s':=by (try dsimp only [sputO,sput,Nat.reduceBEq,cond_true,cond_false,beq_self_eq_true]);first|done|exact rfl)
  (hr:(Region.ready .any r.toArray (arrOf r.toArray.size l)).contains i=true:=by kernel_rfl) (hs:Region.noSelect r.toArray=true:=by kernel_rfl) (hf:Region.free .any r.toArray (arrOf r.toArray.size l) i=true:=by kernel_rfl)
  (hn:memB i late=false:=by kernel_rfl):Wh X ⟨r.toArray,lp,late⟩ Q (fuel+1) l s b:=by
 subst hs'
 exact wh_first (G:=⟨r.toArray,lp,late⟩) (lq:=[]) (opAt_get hi) hr hs hf hn (.inl rfl) (fun a he=>.inr ⟨gd_wanted he hg,rfl⟩) hd h
def nextP (X:Cx)(G:Hg)(Q:Post)(fuel:Nat)(i:Nat)(l:List Nat):Post
 | .normal,s,b=>(SubB G.lp b∨i∈G.late)∧Wh X G Q fuel (i::l) s b
 | _,_,_=>False
theorem next_of {i:Nat}[h:SubB G.lp b](hw:Wh X G Q fuel (i::l) s b):nextP X G Q fuel i l .normal s b:=⟨.inl h,hw⟩
theorem next_late {i:Nat}{r:List Oper}{lp:Blks}{late:List Nat}(h:memB i late=true)(hw:Wh X ⟨r.toArray,lp,late⟩ Q fuel (i::l) s b):nextP X ⟨r.toArray,lp,late⟩ Q fuel i l .normal s b:=⟨.inr (memB_iff.1 h),hw⟩
def Wi (X:Cx)(G:Hg)(Q:Post)(fuel:Nat)(l:List Nat)(s:Slots)(b:Blks)(i:Nat):Prop:=∃ o,G.ops[i]? = some o∧Wl X G.ops (nextP X G Q fuel i l) [o] s b
theorem wi_of {i:Nat}{o:Oper}{r:List Oper}{lp:Blks}{late:List Nat}(hi:opAt r i=some o)(h:Wl X r.toArray (nextP X ⟨r.toArray,lp,late⟩ Q fuel i l) [o] s b):Wi X ⟨r.toArray,lp,late⟩ Q fuel l s b i:=⟨o,opAt_get hi,h⟩
def pickN:List Oper→List Nat→List Nat→List Nat→Option Nat
 | o::r,k::ks,l,ex=>bif memB k l then pickN r ks l ex else bif memB k ex then pickN r ks l ex else bif allE l o.after.toList then some k else pickN r ks l ex
 | _,_,_,_=>none
theorem pickN_none:∀ {r:List Oper} {ks ex:List Nat},pickN r ks l ex=none→∀ i∈readyL r ks l,i∈ex
 | [],ks,ex,_,i,hi=>by simp [readyL] at hi
 | _::_,[],ex,_,i,hi=>by simp [readyL] at hi
 | o::r,k::ks,ex,h,i,hi=>by
  unfold pickN at h
  unfold readyL at hi
  cases h1:memB k l with
  | true=>rw [h1,cond_true] at h hi;exact pickN_none h i hi
  | false=>
   rw [h1,cond_false] at h hi
   cases h2:memB k ex with
   | true=>
    rw [h2,cond_true] at h
    cases h3:allE l o.after.toList with
    | true=>
     rw [h3,cond_true] at hi
     rcases List.mem_cons.1 hi with rfl|hi
     ·exact memB_iff.1 h2
     ·exact pickN_none h i hi
    | false=>rw [h3,cond_false] at hi;exact pickN_none h i hi
   | false=>
    rw [h2,cond_false] at h
    cases h3:allE l o.after.toList with
    | true=>rw [h3,cond_true] at h;cases h
    | false=>rw [h3,cond_false] at hi h;exact pickN_none h i hi
theorem pickN_some:∀ {r:List Oper} {ks ex:List Nat} {i:Nat},pickN r ks l ex=some i→i∈readyL r ks l
 | [],ks,ex,i,h=>by simp [pickN] at h
 | _::_,[],ex,i,h=>by simp [pickN] at h
 | o::r,k::ks,ex,i,h=>by
  unfold pickN at h
  unfold readyL
  cases h1:memB k l with
  | true=>rw [h1,cond_true] at h;rw [cond_true];exact pickN_some h
  | false=>
   rw [h1,cond_false] at h
   rw [cond_false]
   cases h2:memB k ex with
   | true=>
    rw [h2,cond_true] at h
    have:=pickN_some h
    cases h3:allE l o.after.toList with
    | true=>rw [cond_true];exact List.mem_cons_of_mem _ this
    | false=>rw [cond_false];exact this
   | false=>
    rw [h2,cond_false] at h
    cases h3:allE l o.after.toList with
    | true=>rw [h3,cond_true] at h;cases h;rw [cond_true];exact List.mem_cons_self
    | false=>rw [h3,cond_false] at h;rw [cond_false];exact pickN_some h
def Rest (X:Cx)(Q:Post)(fuel:Nat)(l:List Nat)(s:Slots)(b:Blks)(r:List Oper)(lp:Blks)(late:List Nat)(ex:List Nat):Prop:=∀ i∈readyL r idx l,i∉ex→Wi X ⟨r.toArray,lp,late⟩ Q fuel l s b i
theorem rest_cons {r:List Oper}{lp:Blks}{late ex:List Nat}{i:Nat}{o:Oper}(hp:pickN r idx l ex=some i)(hi:opAt r i=some o)(hw:Wl X r.toArray (nextP X ⟨r.toArray,lp,late⟩ Q fuel i l) [o] s b)(h:Rest X Q fuel l s b r lp late (i::ex)):Rest X Q fuel l s b r lp late ex:=fun j hj hn=>by
 by_cases hji:j=i
 ·subst hji;exact wi_of hi hw
 ·exact h j hj (by simp [hji,hn])
theorem rest_nil {r:List Oper}{lp:Blks}{late ex:List Nat}(hp:pickN r idx l ex=none):Rest X Q fuel l s b r lp late ex:=fun j hj hn=>absurd (pickN_none hp j hj) hn
theorem sel_rest {r:List Oper}{lp:Blks}{late ex:List Nat}(h:Rest X Q fuel l s b r lp late ex):Rest X Q fuel l s b r lp late ex:=h
theorem wh_all {i0:Nat}{r:List Oper}{lp:Blks}{late:List Nat}(hp:pickN r idx l []=some i0)(h:Rest X Q fuel l s b r lp late [])(hr:Region.ready .any r.toArray (arrOf r.toArray.size l)=readyL r idx l:=by kernel_rfl):Wh X ⟨r.toArray,lp,late⟩ Q (fuel+1) l s b:=fun a w hst hcl hS=>by
 refine ⟨fun h0=>?_,fun i hi=>?_⟩
 ·have:=pickN_some hp
  rw [←hr] at this
  rw [show Region.ready .any r.toArray (arrOf r.toArray.size l)=[] from h0] at this
  cases this
 have hi':=hi
 rw [show Region.ready .any (Hg.ops ⟨r.toArray,lp,late⟩) (arrOf (Hg.ops ⟨r.toArray,lp,late⟩).size l)=readyL r idx l from hr] at hi'
 obtain ⟨o,ho,hw⟩:=h i hi' (by simp)
 have h1:=hw a w hst
 unfold wpList at h1
 unfold wpOp
 simp only [ho]
 have hclo:=hcl.set hi
 rw [arrOf_set] at hclo
 have step:∀ a' w',wpList X.P (Hg.ops ⟨r.toArray,lp,late⟩) (lift X (nextP X ⟨r.toArray,lp,late⟩ Q fuel i l)) [] a' w'→SL X lp late ((arrOf (Hg.ops ⟨r.toArray,lp,late⟩).size l).setIfInBounds i true) w'∧wpAnyS X.P .any (Hg.ops ⟨r.toArray,lp,late⟩) (Qn X Q) (SL X lp late) fuel ((arrOf (Hg.ops ⟨r.toArray,lp,late⟩).size l).setIfInBounds i true) a' w':=fun a' w' hh=>by
  obtain ⟨s',b',hst',hsub,hnx⟩:=hh
  have hSL:SL X lp late ((arrOf (Hg.ops ⟨r.toArray,lp,late⟩).size l).setIfInBounds i true) w':=by
   rcases hsub with hsub|hlate
   ·rcases hS with ⟨⟨j,hj,hl⟩,_⟩|hS
    ·exact .inl ⟨⟨j,hj,getD_set_true hl⟩,hst'.mem.none⟩
    ·exact .inr (hst'.mem.sub' hS.nd hsub.out)
   ·refine .inl ⟨⟨i,hlate,?_⟩,hst'.mem.none⟩
    exact getD_on (getD_flip (mem_ready.1 hi).1).1
  refine ⟨hSL,?_⟩
  rw [arrOf_set] at hSL ⊢
  exact hnx a' w' hst' hclo hSL
 by_cases hwn:Region.wanted o (yielded (Hg.ops ⟨r.toArray,lp,late⟩) a.tmps)=true
 ·rw [if_pos hwn] at h1
  rw [if_pos hwn]
  rcases h1 with h1 | ⟨_,h1⟩
  ·exact .inl (wp_mono2 (fun a w h=>step a w h) (fun e a w ⟨s,b,_,h⟩ hne=>by cases e <;> first|exact h.elim|exact absurd rfl hne) h1)
  ·obtain ⟨_,_,_,_,_,h⟩:=h1
   exact h.elim
 ·rw [if_neg hwn] at h1
  rw [if_neg hwn]
  exact step _ _ h1
theorem wh_done {r:List Oper}{lp:Blks}{late:List Nat}(hp:readyL r idx l=[])(h:Q .normal s b)(hr:Region.ready .any r.toArray (arrOf r.toArray.size l)=[]:=by kernel_rfl):Wh X ⟨r.toArray,lp,late⟩ Q fuel l s b:=fun a w hst hcl hS=>by
 cases fuel with
 | zero=>exact ⟨hr,s,b,hst,h⟩
 | succ n=>exact ⟨fun _=>⟨s,b,hst,h⟩,fun i hi=>by rw [show Region.ready .any (Hg.ops ⟨r.toArray,lp,late⟩) (arrOf (Hg.ops ⟨r.toArray,lp,late⟩).size l)=[] from hr] at hi;cases hi⟩
theorem wc_drawT {id:Nat}{r:List Oper}(hm:X.P.follows .mixedOrders=true)(h:Wh X ⟨r.toArray,b,storeI r 0⟩ Q r.length [] s b):Wc X (.region id r.toArray true) Q s b:=wc_drawH b _ hm (SubL.refl b) h
theorem sel_wh {r:List Oper}{lp:Blks}{late:List Nat}(h:Wh X ⟨r.toArray,lp,late⟩ Q fuel l s b):Wh X ⟨r.toArray,lp,late⟩ Q fuel l s b:=h
theorem sel_nx {i:Nat}{r:List Oper}{lp:Blks}{late:List Nat}(h:nextP X ⟨r.toArray,lp,late⟩ Q fuel i l .normal s b):nextP X ⟨r.toArray,lp,late⟩ Q fuel i l .normal s b:=h
theorem wh_subB {i:Nat}{oi:Oper}{r:List Oper}{lp:Blks}{late:List Nat}{t e n n' lo hi:Nat}{x:Operand}{ol oh:Option Operand}{Φ:World→Prop}{p p':List Nat}{s':Value→Slots}(hpk:pickS steadyB r idx l=some i)(hi':opAt r i=some oi)(hg:gd s r.toArray oi=some true)(hd:dOk X.N oi.dst=true)(ho:oi.op=.slice t x ol oh none)(hx:val s x=some v)
  [ht:UT X.P t (.slice e)] [hs:SZ X.P e 1] {la ha:Int} [hv:CsB Φ v n p] (hl:loV s ol=some la) (hh:hiV s n oh=some ha) (hnl:la=(lo:Int)) (hnh:ha=(hi:Int))
  (h:∀ v',CsB Φ v' n' p'→Part v v' lo n'→Wh X ⟨r.toArray,lp,late⟩ Q fuel (i::l) (s' v') b)
  (h1:lo≤hi:=by first|(with_reducible assumption)|omega) (h2:hi≤n:=by first|(with_reducible assumption)|omega)
  (hn:hi - lo=n':=by first|(with_reducible assumption)|rfl) (hxs:(p.drop lo).take (hi - lo)=p':=by first|(with_reducible assumption)|rfl)
  (hs':∀ v',sputO s oi.dst v'=s' v':=by intro _;(try dsimp only [sputO,sput,Nat.reduceBEq,cond_true,cond_false,beq_self_eq_true]);first|done|exact rfl)
  (hr:(Region.ready .any r.toArray (arrOf r.toArray.size l)).contains i=true:=by kernel_rfl) (hns:Region.noSelect r.toArray=true:=by kernel_rfl) (hf:Region.free .any r.toArray (arrOf r.toArray.size l) i=true:=by kernel_rfl)
  (hn':memB i late=false:=by kernel_rfl):Wh X ⟨r.toArray,lp,late⟩ Q (fuel+1) l s b:=by
 obtain rfl:(fun v'=>sputO s oi.dst v')=s':=funext hs'
 subst hn;subst hxs
 obtain ⟨v',h3,h4,h5⟩:=sub_ex (xs':=bl ((p.drop lo).take (hi - lo))) ho hx ht hs hv.cs hl hh hnl hnh h1 h2 rfl (by rw [Nat.mul_one,Nat.mul_one,bl_drop,bl_take])
 rw [Nat.mul_one] at h5
 exact wh_take hpk hi' hg hd h3 (.inl rfl) (h v' ⟨h4,hv.ok.sub h1 h2⟩ h5) rfl hr hns hf hn'
theorem wh_sub {i:Nat}{oi:Oper}{r:List Oper}{lp:Blks}{late:List Nat}{t e k n n' lo hi:Nat}{x:Operand}{ol oh:Option Operand}{Φ:World→Prop}{xs xs':List Value}{s':Value→Slots}(hpk:pickS steadyB r idx l=some i)(hi':opAt r i=some oi)(hg:gd s r.toArray oi=some true)(hd:dOk X.N oi.dst=true)(ho:oi.op=.slice t x ol oh none)(hx:val s x=some v)
  [ht:UT X.P t (.slice e)] [hs:SZ X.P e k] {la ha:Int} [hv:CsF Φ v n xs] (hl:loV s ol=some la) (hh:hiV s n oh=some ha) (hnl:la=(lo:Int)) (hnh:ha=(hi:Int))
  (h:∀ v',CsF Φ v' n' xs'→Part v v' (lo * k) n'→Wh X ⟨r.toArray,lp,late⟩ Q fuel (i::l) (s' v') b)
  (h1:lo≤hi:=by first|(with_reducible assumption)|omega) (h2:hi≤n:=by first|(with_reducible assumption)|omega)
  (hn:hi - lo=n':=by first|(with_reducible assumption)|rfl) (hxs:(xs.drop (lo * k)).take ((hi - lo) * k)=xs':=by first|(with_reducible assumption)|rfl)
  (hs':∀ v',sputO s oi.dst v'=s' v':=by intro _;(try dsimp only [sputO,sput,Nat.reduceBEq,cond_true,cond_false,beq_self_eq_true]);first|done|exact rfl)
  (hr:(Region.ready .any r.toArray (arrOf r.toArray.size l)).contains i=true:=by kernel_rfl) (hns:Region.noSelect r.toArray=true:=by kernel_rfl) (hf:Region.free .any r.toArray (arrOf r.toArray.size l) i=true:=by kernel_rfl)
  (hn':memB i late=false:=by kernel_rfl):Wh X ⟨r.toArray,lp,late⟩ Q (fuel+1) l s b:=by
 obtain rfl:(fun v'=>sputO s oi.dst v')=s':=funext hs'
 obtain ⟨v',h3,h4,h5⟩:=sub_ex ho hx ht hs hv hl hh hnl hnh h1 h2 hn hxs
 exact wh_take hpk hi' hg hd h3 (.inl rfl) (h v' h4 h5) rfl hr hns hf hn'
end
theorem whS {p q:Prop}(k:q)(h:Box q→p:=by refine fun k=>?_;(with_reducible refine sel_wh ?_);first|(refine wh_subB (lo:=0) rfl rfl rfl rfl rfl rfl rfl rfl rfl rfl ?_;exact k.out)|(refine wh_subB rfl rfl rfl rfl rfl rfl rfl rfl rfl rfl ?_;exact k.out)|(refine wh_sub (lo:=0) rfl rfl rfl rfl rfl rfl rfl rfl rfl rfl ?_;exact k.out)|(refine wh_sub rfl rfl rfl rfl rfl rfl rfl rfl rfl rfl ?_;exact k.out)|fail):p:=h ⟨k⟩
end Go.Proofs.YtkendlnjaopbeaaGreatDoor
namespace Go.Proofs.YtkendlnjaopbeaaGreatDoor
instance:KD Tryz.prog 3 false:=⟨by kernel_rfl,rfl⟩
instance:UT Tryz.prog 3 (Go.TypeDesc.int Go.IntKind.i64):=⟨by kernel_rfl⟩
instance:SZ Tryz.prog 3 1:=⟨by kernel_rfl⟩
instance:KD Tryz.prog 4 false:=⟨by kernel_rfl,rfl⟩
instance:UT Tryz.prog 4 (Go.TypeDesc.bool):=⟨by kernel_rfl⟩
instance:SZ Tryz.prog 4 1:=⟨by kernel_rfl⟩
instance:KD Tryz.prog 5 false:=⟨by kernel_rfl,rfl⟩
instance:UT Tryz.prog 5 (Go.TypeDesc.int Go.IntKind.u8):=⟨by kernel_rfl⟩
instance:SZ Tryz.prog 5 1:=⟨by kernel_rfl⟩
instance:UT Tryz.prog 9 (Go.TypeDesc.string):=⟨by kernel_rfl⟩
instance:KD Tryz.prog 22 false:=⟨by kernel_rfl,rfl⟩
instance:UT Tryz.prog 22 (Go.TypeDesc.slice 5):=⟨by kernel_rfl⟩
instance:SZ Tryz.prog 22 1:=⟨by kernel_rfl⟩
instance:KD Tryz.prog 23 true:=⟨by kernel_rfl,rfl⟩
instance:UT Tryz.prog 23 (Go.TypeDesc.array 16 5):=⟨by kernel_rfl⟩
instance:SZ Tryz.prog 23 16:=⟨by kernel_rfl⟩
instance:ZR Tryz.prog 23 (Go.Value.agg #[Go.Value.int Go.IntKind.u8 0,Go.Value.int Go.IntKind.u8 0,Go.Value.int Go.IntKind.u8 0,Go.Value.int Go.IntKind.u8 0,Go.Value.int Go.IntKind.u8 0,Go.Value.int Go.IntKind.u8 0,Go.Value.int Go.IntKind.u8 0,Go.Value.int Go.IntKind.u8 0,Go.Value.int Go.IntKind.u8 0,Go.Value.int Go.IntKind.u8 0,Go.Value.int Go.IntKind.u8 0,Go.Value.int Go.IntKind.u8 0,Go.Value.int Go.IntKind.u8 0,Go.Value.int Go.IntKind.u8 0,Go.Value.int Go.IntKind.u8 0,Go.Value.int Go.IntKind.u8 0]):=⟨by kernel_rfl⟩
instance:UT Tryz.prog 35 (Go.TypeDesc.slice 3):=⟨by kernel_rfl⟩
instance:UT Tryz.prog 37 (Go.TypeDesc.slice 22):=⟨by kernel_rfl⟩
instance:KD Tryz.prog 43 true:=⟨by kernel_rfl,rfl⟩
instance:UT Tryz.prog 43 (Go.TypeDesc.array 32 5):=⟨by kernel_rfl⟩
instance:SZ Tryz.prog 43 32:=⟨by kernel_rfl⟩
instance:ZR Tryz.prog 43 (Go.Value.agg (List.toArray (List.replicate 32 (Go.Value.int Go.IntKind.u8 0)))):=⟨by kernel_rfl⟩
instance:KD Tryz.prog 44 false:=⟨by kernel_rfl,rfl⟩
instance:UT Tryz.prog 44 (Go.TypeDesc.int Go.IntKind.u64):=⟨by kernel_rfl⟩
instance:SZ Tryz.prog 44 1:=⟨by kernel_rfl⟩
instance:KD Tryz.prog 46 true:=⟨by kernel_rfl,rfl⟩
instance:UT Tryz.prog 46 (Go.TypeDesc.array 4 44):=⟨by kernel_rfl⟩
instance:SZ Tryz.prog 46 4:=⟨by kernel_rfl⟩
instance:ZR Tryz.prog 46 (Go.Value.agg #[Go.Value.int Go.IntKind.u64 0,Go.Value.int Go.IntKind.u64 0,Go.Value.int Go.IntKind.u64 0,Go.Value.int Go.IntKind.u64 0]):=⟨by kernel_rfl⟩
instance:KD Tryz.prog 48 true:=⟨by kernel_rfl,rfl⟩
instance:SZ Tryz.prog 48 68:=⟨by kernel_rfl⟩
instance:KD Tryz.prog 54 false:=⟨by kernel_rfl,rfl⟩
instance:ZR Tryz.prog 57 (Go.Value.agg #[Go.Value.nilIface,Go.Value.int Go.IntKind.i64 0,Go.Value.bool Bool.false]):=⟨by kernel_rfl⟩
instance:KD Tryz.prog 65 false:=⟨by kernel_rfl,rfl⟩
instance:UT Tryz.prog 65 (Go.TypeDesc.int Go.IntKind.u32):=⟨by kernel_rfl⟩
instance:SZ Tryz.prog 65 1:=⟨by kernel_rfl⟩
instance:KD Tryz.prog 66 true:=⟨by kernel_rfl,rfl⟩
instance:UT Tryz.prog 66 (Go.TypeDesc.array 8 65):=⟨by kernel_rfl⟩
instance:SZ Tryz.prog 66 8:=⟨by kernel_rfl⟩
instance:ZR Tryz.prog 66 (Go.Value.agg #[Go.Value.int Go.IntKind.u32 0,Go.Value.int Go.IntKind.u32 0,Go.Value.int Go.IntKind.u32 0,Go.Value.int Go.IntKind.u32 0,Go.Value.int Go.IntKind.u32 0,Go.Value.int Go.IntKind.u32 0,Go.Value.int Go.IntKind.u32 0,Go.Value.int Go.IntKind.u32 0]):=⟨by kernel_rfl⟩
instance:KD Tryz.prog 67 true:=⟨by kernel_rfl,rfl⟩
instance:UT Tryz.prog 67 (Go.TypeDesc.array 64 5):=⟨by kernel_rfl⟩
instance:SZ Tryz.prog 67 64:=⟨by kernel_rfl⟩
instance:ZR Tryz.prog 67 (Go.Value.agg (List.toArray (List.replicate 64 (Go.Value.int Go.IntKind.u8 0)))):=⟨by kernel_rfl⟩
instance:KD Tryz.prog 69 true:=⟨by kernel_rfl,rfl⟩
instance:SZ Tryz.prog 69 73:=⟨by kernel_rfl⟩
instance:ZR Tryz.prog 69 (Go.Value.agg #[Go.Value.int Go.IntKind.u32 0,Go.Value.int Go.IntKind.u32 0,Go.Value.int Go.IntKind.u32 0,Go.Value.int Go.IntKind.u32 0,Go.Value.int Go.IntKind.u32 0,Go.Value.int Go.IntKind.u32 0,Go.Value.int Go.IntKind.u32 0,Go.Value.int Go.IntKind.u32 0,Go.Value.int Go.IntKind.u64 0,Go.Value.int Go.IntKind.u8 0,Go.Value.int Go.IntKind.u8 0,Go.Value.int Go.IntKind.u8 0,Go.Value.int Go.IntKind.u8 0,Go.Value.int Go.IntKind.u8 0,Go.Value.int Go.IntKind.u8 0,Go.Value.int Go.IntKind.u8 0,Go.Value.int Go.IntKind.u8 0,Go.Value.int Go.IntKind.u8 0,Go.Value.int Go.IntKind.u8 0,Go.Value.int Go.IntKind.u8 0,Go.Value.int Go.IntKind.u8 0,Go.Value.int Go.IntKind.u8 0,Go.Value.int Go.IntKind.u8 0,Go.Value.int Go.IntKind.u8 0,Go.Value.int Go.IntKind.u8 0,Go.Value.int Go.IntKind.u8 0,Go.Value.int Go.IntKind.u8 0,Go.Value.int Go.IntKind.u8 0,Go.Value.int Go.IntKind.u8 0,Go.Value.int Go.IntKind.u8 0,Go.Value.int Go.IntKind.u8 0,Go.Value.int Go.IntKind.u8 0,Go.Value.int Go.IntKind.u8 0,Go.Value.int Go.IntKind.u8 0,Go.Value.int Go.IntKind.u8 0,Go.Value.int Go.IntKind.u8 0,Go.Value.int Go.IntKind.u8 0,Go.Value.int Go.IntKind.u8 0,Go.Value.int Go.IntKind.u8 0,Go.Value.int Go.IntKind.u8 0,Go.Value.int Go.IntKind.u8 0,Go.Value.int Go.IntKind.u8 0,Go.Value.int Go.IntKind.u8 0,Go.Value.int Go.IntKind.u8 0,Go.Value.int Go.IntKind.u8 0,Go.Value.int Go.IntKind.u8 0,Go.Value.int Go.IntKind.u8 0,Go.Value.int Go.IntKind.u8 0,Go.Value.int Go.IntKind.u8 0,Go.Value.int Go.IntKind.u8 0,Go.Value.int Go.IntKind.u8 0,Go.Value.int Go.IntKind.u8 0,Go.Value.int Go.IntKind.u8 0,Go.Value.int Go.IntKind.u8 0,Go.Value.int Go.IntKind.u8 0,Go.Value.int Go.IntKind.u8 0,Go.Value.int Go.IntKind.u8 0,Go.Value.int Go.IntKind.u8 0,Go.Value.int Go.IntKind.u8 0,Go.Value.int Go.IntKind.u8 0,Go.Value.int Go.IntKind.u8 0,Go.Value.int Go.IntKind.u8 0,Go.Value.int Go.IntKind.u8 0,Go.Value.int Go.IntKind.u8 0,Go.Value.int Go.IntKind.u8 0,Go.Value.int Go.IntKind.u8 0,Go.Value.int Go.IntKind.u8 0,Go.Value.int Go.IntKind.u8 0,Go.Value.int Go.IntKind.u8 0,Go.Value.int Go.IntKind.u8 0,Go.Value.int Go.IntKind.u8 0,Go.Value.int Go.IntKind.u8 0,Go.Value.int Go.IntKind.u8 0]):=⟨by kernel_rfl⟩
instance:KD Tryz.prog 74 true:=⟨by kernel_rfl,rfl⟩
instance:UT Tryz.prog 74 (Go.TypeDesc.array 4 5):=⟨by kernel_rfl⟩
instance:SZ Tryz.prog 74 4:=⟨by kernel_rfl⟩
instance:ZR Tryz.prog 74 (Go.Value.agg #[Go.Value.int Go.IntKind.u8 0,Go.Value.int Go.IntKind.u8 0,Go.Value.int Go.IntKind.u8 0,Go.Value.int Go.IntKind.u8 0]):=⟨by kernel_rfl⟩
instance:UT Tryz.prog 75 (Go.TypeDesc.array 60 74):=⟨by kernel_rfl⟩
instance:KD Tryz.prog 77 true:=⟨by kernel_rfl,rfl⟩
instance:SZ Tryz.prog 77 241:=⟨by kernel_rfl⟩
instance:KD Tryz.prog 89 true:=⟨by kernel_rfl,rfl⟩
instance:SZ Tryz.prog 89 8:=⟨by kernel_rfl⟩
instance:KD Tryz.prog 97 true:=⟨by kernel_rfl,rfl⟩
instance:SZ Tryz.prog 97 146:=⟨by kernel_rfl⟩
instance:UT Tryz.prog 116 (Go.TypeDesc.int Go.IntKind.u64):=⟨by kernel_rfl⟩
instance:KD Tryz.prog 130 true:=⟨by kernel_rfl,rfl⟩
instance:UT Tryz.prog 130 (Go.TypeDesc.array 8 44):=⟨by kernel_rfl⟩
instance:SZ Tryz.prog 130 8:=⟨by kernel_rfl⟩
instance:UT Tryz.prog 132 (Go.TypeDesc.array 64 65):=⟨by kernel_rfl⟩
instance:KD Tryz.prog 137 true:=⟨by kernel_rfl,rfl⟩
instance:SZ Tryz.prog 137 16:=⟨by kernel_rfl⟩
instance:SP Tryz.prog 48 [(0,4),(4,32),(36,32)]:=⟨by kernel_rfl⟩
instance:FD Tryz.prog 48 0 0 46 4:=⟨by kernel_rfl⟩
instance:FD Tryz.prog 48 1 4 43 32:=⟨by kernel_rfl⟩
instance:FD Tryz.prog 48 2 36 43 32:=⟨by kernel_rfl⟩
instance:SP Tryz.prog 57 [(0,1),(1,1),(2,1)]:=⟨by kernel_rfl⟩
instance:FD Tryz.prog 57 0 0 54 1:=⟨by kernel_rfl⟩
instance:FD Tryz.prog 57 1 1 3 1:=⟨by kernel_rfl⟩
instance:FD Tryz.prog 57 2 2 4 1:=⟨by kernel_rfl⟩
instance:SP Tryz.prog 69 [(0,8),(8,1),(9,64)]:=⟨by kernel_rfl⟩
instance:FD Tryz.prog 69 0 0 66 8:=⟨by kernel_rfl⟩
instance:FD Tryz.prog 69 1 8 44 1:=⟨by kernel_rfl⟩
instance:FD Tryz.prog 69 2 9 67 64:=⟨by kernel_rfl⟩
instance:SP Tryz.prog 77 [(0,240),(240,1)]:=⟨by kernel_rfl⟩
instance:FD Tryz.prog 77 0 0 75 240:=⟨by kernel_rfl⟩
instance:FD Tryz.prog 77 1 240 3 1:=⟨by kernel_rfl⟩
instance:FD Tryz.prog 82 0 0 69 73:=⟨by kernel_rfl⟩
instance:FD Tryz.prog 85 0 0 22 1:=⟨by kernel_rfl⟩
instance:FD Tryz.prog 87 0 0 85 1:=⟨by kernel_rfl⟩
instance:FD Tryz.prog 87 1 1 43 32:=⟨by kernel_rfl⟩
instance:FD Tryz.prog 89 0 0 46 4:=⟨by kernel_rfl⟩
instance:FD Tryz.prog 89 1 4 46 4:=⟨by kernel_rfl⟩
instance:FD Tryz.prog 94 0 0 85 1:=⟨by kernel_rfl⟩
instance:FD Tryz.prog 94 1 1 43 32:=⟨by kernel_rfl⟩
instance:SP Tryz.prog 97 [(0,73),(73,73)]:=⟨by kernel_rfl⟩
instance:FD Tryz.prog 97 0 0 69 73:=⟨by kernel_rfl⟩
instance:FD Tryz.prog 97 1 73 69 73:=⟨by kernel_rfl⟩
instance:FD Tryz.prog 100 0 0 97 146:=⟨by kernel_rfl⟩
instance:FD Tryz.prog 103 0 0 100 146:=⟨by kernel_rfl⟩
instance:FD Tryz.prog 106 0 0 77 241:=⟨by kernel_rfl⟩
instance:FD Tryz.prog 106 1 241 23 16:=⟨by kernel_rfl⟩
instance:FD Tryz.prog 106 2 257 44 1:=⟨by kernel_rfl⟩
instance:FD Tryz.prog 109 0 0 77 241:=⟨by kernel_rfl⟩
instance:FD Tryz.prog 109 1 241 23 16:=⟨by kernel_rfl⟩
instance:FD Tryz.prog 109 2 257 22 1:=⟨by kernel_rfl⟩
instance:FD Tryz.prog 111 0 0 77 241:=⟨by kernel_rfl⟩
instance:FD Tryz.prog 111 1 241 23 16:=⟨by kernel_rfl⟩
instance:FD Tryz.prog 111 2 257 22 1:=⟨by kernel_rfl⟩
instance:FD Tryz.prog 137 0 0 46 4:=⟨by kernel_rfl⟩
instance:FD Tryz.prog 137 1 4 46 4:=⟨by kernel_rfl⟩
instance:FD Tryz.prog 137 2 8 46 4:=⟨by kernel_rfl⟩
instance:FD Tryz.prog 137 3 12 46 4:=⟨by kernel_rfl⟩
end Go.Proofs.YtkendlnjaopbeaaGreatDoor
namespace Go.Proofs.YtkendlnjaopbeaaGreatDoor
theorem EI.of {P:Program}{e size bytes:Nat}{z:Array Value}(h:(match P.info? e with|some i=>i.size == size && i.bytes == bytes && z.size == size && (match i.zero with|some _=>true|none=>false)|none=>false)=true)(h':((P.info? e).bind (·.zero)).map (·.cells)=some z)(hb:Nat.blt e BIG=true:=by rfl):EI P e size bytes z:=by
 cases hi:P.info? e with
 | none=>simp [hi] at h
 | some i=>
  cases hz:i.zero with
  | none=>simp [hi,hz] at h
  | some zv=>
   simp [hi,hz] at h h'
   exact ⟨⟨i,zv,hi,h.1.1,h.1.2,hz,h',h.2⟩,hb⟩
instance:EI Tryz.prog 5 1 1 #[Go.Value.int Go.IntKind.u8 0]:=EI.of (by kernel_rfl) (by kernel_rfl)
instance:OwnB 5 (.slice none 0 0) 0 [] []:=⟨OwnL.nil 5 1,BL.nil⟩
instance:EI Tryz.prog 22 1 24 #[Go.Value.slice Option.none 0 0]:=EI.of (by kernel_rfl) (by kernel_rfl)
end Go.Proofs.YtkendlnjaopbeaaGreatDoor
namespace Go.Proofs.YtkendlnjaopbeaaGreatDoor
open Go.RowKit
theorem wrapU (x:Nat):IntKind.u64.wrap (x:Int)=((x % 18446744073709551616:Nat):Int):=by
 have e:(2:Int) ^ 64=18446744073709551616:=rfl
 simp only [IntKind.wrap,IntKind.bits,IntKind.signed,Bool.false_and,e];simp
theorem wrapB (x:Nat):IntKind.u8.wrap (x:Int)=((x % 256:Nat):Int):=by
 simp only [IntKind.wrap,IntKind.bits,IntKind.signed];simp
theorem rep_snoc {α:Type}(k:Nat)(x:α):List.replicate k x++[x]=List.replicate (k+1) x:=by rw [List.replicate_succ']
theorem range_snoc {α:Type}(k:Nat)(f:Nat→α):(List.range k).map f++[f k]=(List.range (k+1)).map f:=by rw [List.range_succ,List.map_append];rfl
end Go.Proofs.YtkendlnjaopbeaaGreatDoor
namespace Go.Proofs.YtkendlnjaopbeaaGreatDoor
open Go.RowKit
set_option linter.unusedVariables false
set_option linter.unusedSimpArgs false
set_option maxRecDepth 100000
set_option maxRecDepth 100000 in
set_option maxHeartbeats 2000000 in
theorem rotl_c (x k:Int)(s:Nat)(hs:bits .and .u64 (IntKind.u64.wrap k) 31=(s:Int))(h1:0<s)(h2:s<32)(w:World):Calls Tryz.prog 68 [.int .u32 x,.int .i64 k].toArray w (Ret (.int .u32 (rotI x s)) w):=by
 have w1:IntKind.u64.wrap (32 - (s:Int))=((32 - s:Nat):Int):=by rw [wrap_u64 _ (by omega) (by omega)];omega
 have e1:IntKind.u32.wrap (x * 2 ^ (min ((s:Int).toNat) IntKind.u32.bits))=IntKind.u32.wrap (x * 2 ^ s):=by rw [Int.toNat_natCast,Nat.min_eq_left (by simp [IntKind.bits];omega)]
 have e2:x / 2 ^ (min (((32 - s:Nat):Int).toNat) IntKind.u32.bits)=x / 2 ^ (32 - s):=by rw [Int.toNat_natCast,Nat.min_eq_left (by simp [IntKind.bits])]
 refine fn_ret (N:=_) Tryz.func68 rfl Tryz.ntmps68 Tryz.results68 (by simp) ?_
 simp only [initS,Nat.reduceAdd,Nat.zero_add]
 repeat' (first|(refine wlS ?_)|(refine wlB ?_)|(refine wl_skip rfl rfl ?_)|((with_reducible refine wc_seq ?_);intro K hK)|(refine auC ?_)|(refine wc_cond rfl (fun hc=>?_) (fun hc=>?_))|(refine wc_draw (by kernel_rfl) (by kernel_rfl) (by decide +kernel) ?_;intro w0 hw0 hm0;(try simp only [List.append_eq,List.cons_append,List.nil_append]))|(refine auP ?_)|((refine auR ?_);clear hK K)|(refine auR ?_)|((with_reducible refine hK _ _ ?_);clear hK K)|fail)
 first|refine end_ret (ResP.tmp rfl ResP.nil) ?_|refine end_normal (ResP.tmp rfl ResP.nil) ?_
 first|rfl|(show _=_;rfl)|(simp only [tupV, *];done)
theorem right2 (w:World){x:Int}:Calls Tryz.prog 47 [.int .u32 x,.int .i64 2].toArray w (Ret (.int .u32 (rotI x 30)) w):=by
 have C:=rotl_c x (-2) 30 (by decide) (by decide) (by decide)
 have w1:IntKind.i64.wrap (0 - 2) = -2:=by decide
 refine fn_ret (N:=_) Tryz.func47 rfl Tryz.ntmps47 Tryz.results47 (by simp) ?_
 simp only [initS,Nat.reduceAdd,Nat.zero_add]
 repeat' (first|(refine wlB ?_)|((with_reducible refine sel_call ?_);refine wl_rd rfl rfl (rd_call rfl rfl rfl (fun w hm=>by with_reducible exact C w)) ?_)|(refine wlE ?_)|(refine wl_skip rfl rfl ?_)|((with_reducible refine wc_seq ?_);intro K hK)|(refine auC ?_)|(refine wc_cond rfl (fun hc=>?_) (fun hc=>?_))|(refine wc_draw (by kernel_rfl) (by kernel_rfl) (by decide +kernel) ?_;intro w0 hw0 hm0;(try simp only [List.append_eq,List.cons_append,List.nil_append]))|(refine auP ?_)|((refine auR ?_);clear hK K)|(refine auR ?_)|((with_reducible refine hK _ _ ?_);clear hK K)|fail)
 first|refine end_ret (ResP.tmp rfl ResP.nil) ?_|refine end_normal (ResP.tmp rfl ResP.nil) ?_
 first|rfl|(show _=_;rfl)|(simp only [tupV, *];done)
theorem right6 (w:World){x:Int}:Calls Tryz.prog 47 [.int .u32 x,.int .i64 6].toArray w (Ret (.int .u32 (rotI x 26)) w):=by
 have C:=rotl_c x (-6) 26 (by decide) (by decide) (by decide)
 have w1:IntKind.i64.wrap (0 - 6) = -6:=by decide
 refine fn_ret (N:=_) Tryz.func47 rfl Tryz.ntmps47 Tryz.results47 (by simp) ?_
 simp only [initS,Nat.reduceAdd,Nat.zero_add]
 repeat' (first|(refine wlB ?_)|((with_reducible refine sel_call ?_);refine wl_rd rfl rfl (rd_call rfl rfl rfl (fun w hm=>by with_reducible exact C w)) ?_)|(refine wlE ?_)|(refine wl_skip rfl rfl ?_)|((with_reducible refine wc_seq ?_);intro K hK)|(refine auC ?_)|(refine wc_cond rfl (fun hc=>?_) (fun hc=>?_))|(refine wc_draw (by kernel_rfl) (by kernel_rfl) (by decide +kernel) ?_;intro w0 hw0 hm0;(try simp only [List.append_eq,List.cons_append,List.nil_append]))|(refine auP ?_)|((refine auR ?_);clear hK K)|(refine auR ?_)|((with_reducible refine hK _ _ ?_);clear hK K)|fail)
 first|refine end_ret (ResP.tmp rfl ResP.nil) ?_|refine end_normal (ResP.tmp rfl ResP.nil) ?_
 first|rfl|(show _=_;rfl)|(simp only [tupV, *];done)
theorem right7 (w:World){x:Int}:Calls Tryz.prog 47 [.int .u32 x,.int .i64 7].toArray w (Ret (.int .u32 (rotI x 25)) w):=by
 have C:=rotl_c x (-7) 25 (by decide) (by decide) (by decide)
 have w1:IntKind.i64.wrap (0 - 7) = -7:=by decide
 refine fn_ret (N:=_) Tryz.func47 rfl Tryz.ntmps47 Tryz.results47 (by simp) ?_
 simp only [initS,Nat.reduceAdd,Nat.zero_add]
 repeat' (first|(refine wlB ?_)|((with_reducible refine sel_call ?_);refine wl_rd rfl rfl (rd_call rfl rfl rfl (fun w hm=>by with_reducible exact C w)) ?_)|(refine wlE ?_)|(refine wl_skip rfl rfl ?_)|((with_reducible refine wc_seq ?_);intro K hK)|(refine auC ?_)|(refine wc_cond rfl (fun hc=>?_) (fun hc=>?_))|(refine wc_draw (by kernel_rfl) (by kernel_rfl) (by decide +kernel) ?_;intro w0 hw0 hm0;(try simp only [List.append_eq,List.cons_append,List.nil_append]))|(refine auP ?_)|((refine auR ?_);clear hK K)|(refine auR ?_)|((with_reducible refine hK _ _ ?_);clear hK K)|fail)
 first|refine end_ret (ResP.tmp rfl ResP.nil) ?_|refine end_normal (ResP.tmp rfl ResP.nil) ?_
 first|rfl|(show _=_;rfl)|(simp only [tupV, *];done)
theorem right11 (w:World){x:Int}:Calls Tryz.prog 47 [.int .u32 x,.int .i64 11].toArray w (Ret (.int .u32 (rotI x 21)) w):=by
 have C:=rotl_c x (-11) 21 (by decide) (by decide) (by decide)
 have w1:IntKind.i64.wrap (0 - 11) = -11:=by decide
 refine fn_ret (N:=_) Tryz.func47 rfl Tryz.ntmps47 Tryz.results47 (by simp) ?_
 simp only [initS,Nat.reduceAdd,Nat.zero_add]
 repeat' (first|(refine wlB ?_)|((with_reducible refine sel_call ?_);refine wl_rd rfl rfl (rd_call rfl rfl rfl (fun w hm=>by with_reducible exact C w)) ?_)|(refine wlE ?_)|(refine wl_skip rfl rfl ?_)|((with_reducible refine wc_seq ?_);intro K hK)|(refine auC ?_)|(refine wc_cond rfl (fun hc=>?_) (fun hc=>?_))|(refine wc_draw (by kernel_rfl) (by kernel_rfl) (by decide +kernel) ?_;intro w0 hw0 hm0;(try simp only [List.append_eq,List.cons_append,List.nil_append]))|(refine auP ?_)|((refine auR ?_);clear hK K)|(refine auR ?_)|((with_reducible refine hK _ _ ?_);clear hK K)|fail)
 first|refine end_ret (ResP.tmp rfl ResP.nil) ?_|refine end_normal (ResP.tmp rfl ResP.nil) ?_
 first|rfl|(show _=_;rfl)|(simp only [tupV, *];done)
theorem right13 (w:World){x:Int}:Calls Tryz.prog 47 [.int .u32 x,.int .i64 13].toArray w (Ret (.int .u32 (rotI x 19)) w):=by
 have C:=rotl_c x (-13) 19 (by decide) (by decide) (by decide)
 have w1:IntKind.i64.wrap (0 - 13) = -13:=by decide
 refine fn_ret (N:=_) Tryz.func47 rfl Tryz.ntmps47 Tryz.results47 (by simp) ?_
 simp only [initS,Nat.reduceAdd,Nat.zero_add]
 repeat' (first|(refine wlB ?_)|((with_reducible refine sel_call ?_);refine wl_rd rfl rfl (rd_call rfl rfl rfl (fun w hm=>by with_reducible exact C w)) ?_)|(refine wlE ?_)|(refine wl_skip rfl rfl ?_)|((with_reducible refine wc_seq ?_);intro K hK)|(refine auC ?_)|(refine wc_cond rfl (fun hc=>?_) (fun hc=>?_))|(refine wc_draw (by kernel_rfl) (by kernel_rfl) (by decide +kernel) ?_;intro w0 hw0 hm0;(try simp only [List.append_eq,List.cons_append,List.nil_append]))|(refine auP ?_)|((refine auR ?_);clear hK K)|(refine auR ?_)|((with_reducible refine hK _ _ ?_);clear hK K)|fail)
 first|refine end_ret (ResP.tmp rfl ResP.nil) ?_|refine end_normal (ResP.tmp rfl ResP.nil) ?_
 first|rfl|(show _=_;rfl)|(simp only [tupV, *];done)
theorem right17 (w:World){x:Int}:Calls Tryz.prog 47 [.int .u32 x,.int .i64 17].toArray w (Ret (.int .u32 (rotI x 15)) w):=by
 have C:=rotl_c x (-17) 15 (by decide) (by decide) (by decide)
 have w1:IntKind.i64.wrap (0 - 17) = -17:=by decide
 refine fn_ret (N:=_) Tryz.func47 rfl Tryz.ntmps47 Tryz.results47 (by simp) ?_
 simp only [initS,Nat.reduceAdd,Nat.zero_add]
 repeat' (first|(refine wlB ?_)|((with_reducible refine sel_call ?_);refine wl_rd rfl rfl (rd_call rfl rfl rfl (fun w hm=>by with_reducible exact C w)) ?_)|(refine wlE ?_)|(refine wl_skip rfl rfl ?_)|((with_reducible refine wc_seq ?_);intro K hK)|(refine auC ?_)|(refine wc_cond rfl (fun hc=>?_) (fun hc=>?_))|(refine wc_draw (by kernel_rfl) (by kernel_rfl) (by decide +kernel) ?_;intro w0 hw0 hm0;(try simp only [List.append_eq,List.cons_append,List.nil_append]))|(refine auP ?_)|((refine auR ?_);clear hK K)|(refine auR ?_)|((with_reducible refine hK _ _ ?_);clear hK K)|fail)
 first|refine end_ret (ResP.tmp rfl ResP.nil) ?_|refine end_normal (ResP.tmp rfl ResP.nil) ?_
 first|rfl|(show _=_;rfl)|(simp only [tupV, *];done)
theorem right18 (w:World){x:Int}:Calls Tryz.prog 47 [.int .u32 x,.int .i64 18].toArray w (Ret (.int .u32 (rotI x 14)) w):=by
 have C:=rotl_c x (-18) 14 (by decide) (by decide) (by decide)
 have w1:IntKind.i64.wrap (0 - 18) = -18:=by decide
 refine fn_ret (N:=_) Tryz.func47 rfl Tryz.ntmps47 Tryz.results47 (by simp) ?_
 simp only [initS,Nat.reduceAdd,Nat.zero_add]
 repeat' (first|(refine wlB ?_)|((with_reducible refine sel_call ?_);refine wl_rd rfl rfl (rd_call rfl rfl rfl (fun w hm=>by with_reducible exact C w)) ?_)|(refine wlE ?_)|(refine wl_skip rfl rfl ?_)|((with_reducible refine wc_seq ?_);intro K hK)|(refine auC ?_)|(refine wc_cond rfl (fun hc=>?_) (fun hc=>?_))|(refine wc_draw (by kernel_rfl) (by kernel_rfl) (by decide +kernel) ?_;intro w0 hw0 hm0;(try simp only [List.append_eq,List.cons_append,List.nil_append]))|(refine auP ?_)|((refine auR ?_);clear hK K)|(refine auR ?_)|((with_reducible refine hK _ _ ?_);clear hK K)|fail)
 first|refine end_ret (ResP.tmp rfl ResP.nil) ?_|refine end_normal (ResP.tmp rfl ResP.nil) ?_
 first|rfl|(show _=_;rfl)|(simp only [tupV, *];done)
theorem right19 (w:World){x:Int}:Calls Tryz.prog 47 [.int .u32 x,.int .i64 19].toArray w (Ret (.int .u32 (rotI x 13)) w):=by
 have C:=rotl_c x (-19) 13 (by decide) (by decide) (by decide)
 have w1:IntKind.i64.wrap (0 - 19) = -19:=by decide
 refine fn_ret (N:=_) Tryz.func47 rfl Tryz.ntmps47 Tryz.results47 (by simp) ?_
 simp only [initS,Nat.reduceAdd,Nat.zero_add]
 repeat' (first|(refine wlB ?_)|((with_reducible refine sel_call ?_);refine wl_rd rfl rfl (rd_call rfl rfl rfl (fun w hm=>by with_reducible exact C w)) ?_)|(refine wlE ?_)|(refine wl_skip rfl rfl ?_)|((with_reducible refine wc_seq ?_);intro K hK)|(refine auC ?_)|(refine wc_cond rfl (fun hc=>?_) (fun hc=>?_))|(refine wc_draw (by kernel_rfl) (by kernel_rfl) (by decide +kernel) ?_;intro w0 hw0 hm0;(try simp only [List.append_eq,List.cons_append,List.nil_append]))|(refine auP ?_)|((refine auR ?_);clear hK K)|(refine auR ?_)|((with_reducible refine hK _ _ ?_);clear hK K)|fail)
 first|refine end_ret (ResP.tmp rfl ResP.nil) ?_|refine end_normal (ResP.tmp rfl ResP.nil) ?_
 first|rfl|(show _=_;rfl)|(simp only [tupV, *];done)
theorem right22 (w:World){x:Int}:Calls Tryz.prog 47 [.int .u32 x,.int .i64 22].toArray w (Ret (.int .u32 (rotI x 10)) w):=by
 have C:=rotl_c x (-22) 10 (by decide) (by decide) (by decide)
 have w1:IntKind.i64.wrap (0 - 22) = -22:=by decide
 refine fn_ret (N:=_) Tryz.func47 rfl Tryz.ntmps47 Tryz.results47 (by simp) ?_
 simp only [initS,Nat.reduceAdd,Nat.zero_add]
 repeat' (first|(refine wlB ?_)|((with_reducible refine sel_call ?_);refine wl_rd rfl rfl (rd_call rfl rfl rfl (fun w hm=>by with_reducible exact C w)) ?_)|(refine wlE ?_)|(refine wl_skip rfl rfl ?_)|((with_reducible refine wc_seq ?_);intro K hK)|(refine auC ?_)|(refine wc_cond rfl (fun hc=>?_) (fun hc=>?_))|(refine wc_draw (by kernel_rfl) (by kernel_rfl) (by decide +kernel) ?_;intro w0 hw0 hm0;(try simp only [List.append_eq,List.cons_append,List.nil_append]))|(refine auP ?_)|((refine auR ?_);clear hK K)|(refine auR ?_)|((with_reducible refine hK _ _ ?_);clear hK K)|fail)
 first|refine end_ret (ResP.tmp rfl ResP.nil) ?_|refine end_normal (ResP.tmp rfl ResP.nil) ?_
 first|rfl|(show _=_;rfl)|(simp only [tupV, *];done)
theorem right25 (w:World){x:Int}:Calls Tryz.prog 47 [.int .u32 x,.int .i64 25].toArray w (Ret (.int .u32 (rotI x 7)) w):=by
 have C:=rotl_c x (-25) 7 (by decide) (by decide) (by decide)
 have w1:IntKind.i64.wrap (0 - 25) = -25:=by decide
 refine fn_ret (N:=_) Tryz.func47 rfl Tryz.ntmps47 Tryz.results47 (by simp) ?_
 simp only [initS,Nat.reduceAdd,Nat.zero_add]
 repeat' (first|(refine wlB ?_)|((with_reducible refine sel_call ?_);refine wl_rd rfl rfl (rd_call rfl rfl rfl (fun w hm=>by with_reducible exact C w)) ?_)|(refine wlE ?_)|(refine wl_skip rfl rfl ?_)|((with_reducible refine wc_seq ?_);intro K hK)|(refine auC ?_)|(refine wc_cond rfl (fun hc=>?_) (fun hc=>?_))|(refine wc_draw (by kernel_rfl) (by kernel_rfl) (by decide +kernel) ?_;intro w0 hw0 hm0;(try simp only [List.append_eq,List.cons_append,List.nil_append]))|(refine auP ?_)|((refine auR ?_);clear hK K)|(refine auR ?_)|((with_reducible refine hK _ _ ?_);clear hK K)|fail)
 first|refine end_ret (ResP.tmp rfl ResP.nil) ?_|refine end_normal (ResP.tmp rfl ResP.nil) ?_
 first|rfl|(show _=_;rfl)|(simp only [tupV, *];done)
set_option maxHeartbeats 2000000 in
theorem word_c (w:World){v:Value}{n:Nat}{p:List Nat}(h:Cb w v n p)(at':Nat)(hn:at'+3<n)(hs:n<9223372036854775808):Calls Tryz.prog 46 [v,.int .i64 (at':Int)].toArray w (Ret (.int .u32 (wordI p at')) w):=by
 haveI:=h.old
 have bt:∀ i,i<n→p.getD i 0<256:=fun i hi=>by
  have hi':i<p.length:=by rw [h.ok.len];exact hi
  exact h.ok.by' _ (by rw [show p.getD i 0=p[i] by simp [List.getD,hi']];exact List.getElem_mem hi')
 have b0:=bt at' (by omega)
 have b1:=bt (at'+1) (by omega)
 have b2:=bt (at'+2) (by omega)
 have b3:=bt (at'+3) (by omega)
 have g0:(bl p)[at']? = some (.int .u8 ((p.getD at' 0:Nat):Int)):=bl_get (by rw [h.ok.len];omega)
 have g1:(bl p)[at'+1]? = some (.int .u8 ((p.getD (at'+1) 0:Nat):Int)):=bl_get (by rw [h.ok.len];omega)
 have g2:(bl p)[at'+2]? = some (.int .u8 ((p.getD (at'+2) 0:Nat):Int)):=bl_get (by rw [h.ok.len];omega)
 have g3:(bl p)[at'+3]? = some (.int .u8 ((p.getD (at'+3) 0:Nat):Int)):=bl_get (by rw [h.ok.len];omega)
 have a1:IntKind.i64.wrap ((at':Int)+1)=((at'+1:Nat):Int):=by rw [wrap_i64 _ (by omega) (by omega)];omega
 have a2:IntKind.i64.wrap ((at':Int)+2)=((at'+2:Nat):Int):=by rw [wrap_i64 _ (by omega) (by omega)];omega
 have a3:IntKind.i64.wrap ((at':Int)+3)=((at'+3:Nat):Int):=by rw [wrap_i64 _ (by omega) (by omega)];omega
 have l0:(at':Int)<(n:Int):=by omega
 have l1:((at'+1:Nat):Int)<(n:Int):=by omega
 have l2:((at'+2:Nat):Int)<(n:Int):=by omega
 have l3:((at'+3:Nat):Int)<(n:Int):=by omega
 have s0:IntKind.u32.wrap (((p.getD at' 0:Nat):Int) * 2 ^ (min ((24:Int).toNat) IntKind.u32.bits))=((p.getD at' 0 * 16777216:Nat):Int):=by
  rw [show (2:Int) ^ (min ((24:Int).toNat) IntKind.u32.bits)=16777216 from rfl,wrap_u32 _ (by omega) (by omega)];omega
 have s1:IntKind.u32.wrap (((p.getD (at'+1) 0:Nat):Int) * 2 ^ (min ((16:Int).toNat) IntKind.u32.bits))=((p.getD (at'+1) 0 * 65536:Nat):Int):=by
  rw [show (2:Int) ^ (min ((16:Int).toNat) IntKind.u32.bits)=65536 from rfl,wrap_u32 _ (by omega) (by omega)];omega
 have s2:IntKind.u32.wrap (((p.getD (at'+2) 0:Nat):Int) * 2 ^ (min ((8:Int).toNat) IntKind.u32.bits))=((p.getD (at'+2) 0 * 256:Nat):Int):=by
  rw [show (2:Int) ^ (min ((8:Int).toNat) IntKind.u32.bits)=256 from rfl,wrap_u32 _ (by omega) (by omega)];omega
 clear h bt
 refine fn_ret (N:=_) Tryz.func46 rfl Tryz.ntmps46 Tryz.results46 (by simp) ?_
 simp only [initS,Nat.reduceAdd,Nat.zero_add]
 repeat' (first|(refine wlS ?_)|(refine wlB ?_)|(refine wl_skip rfl rfl ?_)|((with_reducible refine wc_seq ?_);intro K hK)|(refine auC ?_)|(refine wc_cond rfl (fun hc=>?_) (fun hc=>?_))|((with_reducible refine wc_drawT (by kernel_rfl) ?_);(try simp only [List.append_eq,List.cons_append,List.nil_append,List.length_cons,List.length_nil,Nat.reduceAdd]))|((with_reducible refine sel_wh ?_);(refine wh_if (by decide +kernel) ?_);first|(refine wh_take (lq:=[]) rfl rfl rfl rfl (by first|exact rvS|exact rvB) (Or.inl rfl) ?_)|(refine wh_takeL rfl rfl rfl rfl (by first|exact rvS|exact rvB) (by decide +kernel) ?_))|(refine whS ?_;intro v hv hp)|((with_reducible refine sel_wh ?_);first|(refine wh_pass rfl rfl rfl rfl ?_)|(refine wh_done rfl ?_)|(refine wh_all rfl ?_))|((with_reducible refine sel_rest ?_);first|exact rest_nil rfl|refine rest_cons rfl rfl ?_ ?_)|((with_reducible refine sel_nx ?_);first|refine next_of ?_|refine next_late (by decide +kernel) ?_)|(refine auP ?_)|((refine auR ?_);clear hK K)|(refine auR ?_)|((with_reducible refine hK _ _ ?_);clear hK K)|fail)
 first|refine end_ret (ResP.tmp rfl ResP.nil) ?_|refine end_normal (ResP.tmp rfl ResP.nil) ?_
 first|rfl|(show _=_;rfl)|(simp only [tupV, *];done)
end Go.Proofs.YtkendlnjaopbeaaGreatDoor
