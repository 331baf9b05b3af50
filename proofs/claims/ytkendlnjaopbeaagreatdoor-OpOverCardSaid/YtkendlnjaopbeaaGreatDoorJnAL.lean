/- Numbers that stand in the text. When two wide numbers are told alike. Rows of numbers: structs whose fields are numbers (a point,a quad,a pair). A number out of its four words. scalar: numbers modulo L. The walks of limb.Bytes and limb.Of. Rows of 32 bytes as numbers. scalar.Of,walked;appends to a slice that is full. scalar.Digest,walked. Numbers modulo 2^255 - 19: what Low makes. Sums,differences,products modulo 2^255 - 19 on numbers: plain laws. Powers modulo 2^255 - 19 by squaring;the root that field.Sqrt looks for: plain laws. Points of the curve as pairs of numbers;what the program makes of them: definitions,no program in sight. What field.Mul makes of a product's words: plain law. -/
import Derived.Test.YtkendlnjaopbeaaGreatDoorJnAJ
import Derived.Test.YtkendlnjaopbeaaGreatDoorJnAK
import Derived.Test.YtkendlnjaopbeaaGreatDoorQuot
import Derived.Test.YtkendlnjaopbeaaGreatDoorJnAA
import Derived.LoopTactic
import Derived.WalkKit
import Derived.Laws.Rows
import Derived.Laws.Tables
import Derived.Test.YtkendlnjaopbeaaGreatDoorJnAC
import Derived.Test.YtkendlnjaopbeaaGreatDoorSl
namespace Go.Proofs.YtkendlnjaopbeaaGreatDoor
open Go.RowKit
set_option linter.unusedVariables false
theorem wide_num (c:Nat)(h:c<T256):wideC c=numC c++numC 0:=by
 unfold wideC numC
 have k:=limb_two c 0 h
 rw [Nat.mul_zero,Nat.add_zero] at k
 rw [k.1,k.2.1,k.2.2.1,k.2.2.2.1,k.2.2.2.2.1,k.2.2.2.2.2.1,k.2.2.2.2.2.2.1,k.2.2.2.2.2.2.2]
 rfl
theorem wi_lit (c:Nat)(h:c<18446744073709551616):Value.agg [.int .u64 (c:Int),.int .u64 0,.int .u64 0,.int .u64 0,.int .u64 0,.int .u64 0,.int .u64 0,.int .u64 0].toArray=wi c:=by
 have h0:=nu_lit 0 (by omega)
 have h1:=nu_lit c h
 simp only [nu,Value.agg.injEq] at h0 h1
 show _=Value.agg (wideC c)
 rw [wide_num c (by unfold T256;omega),←h0,←h1]
 rfl
theorem nu_l0:Value.agg [.int .u64 0,.int .u64 0,.int .u64 0,.int .u64 0].toArray=nu 0:=nu_lit 0 (by decide)
theorem nu_l1:Value.agg [.int .u64 1,.int .u64 0,.int .u64 0,.int .u64 0].toArray=nu 1:=nu_lit 1 (by decide)
theorem nu_l2:Value.agg [.int .u64 2,.int .u64 0,.int .u64 0,.int .u64 0].toArray=nu 2:=nu_lit 2 (by decide)
theorem nu_l3:Value.agg [.int .u64 3,.int .u64 0,.int .u64 0,.int .u64 0].toArray=nu 3:=nu_lit 3 (by decide)
theorem nu_l5:Value.agg [.int .u64 5,.int .u64 0,.int .u64 0,.int .u64 0].toArray=nu 5:=nu_lit 5 (by decide)
theorem nu_l7:Value.agg [.int .u64 7,.int .u64 0,.int .u64 0,.int .u64 0].toArray=nu 7:=nu_lit 7 (by decide)
theorem nu_l8:Value.agg [.int .u64 8,.int .u64 0,.int .u64 0,.int .u64 0].toArray=nu 8:=nu_lit 8 (by decide)
theorem nu_l9:Value.agg [.int .u64 9,.int .u64 0,.int .u64 0,.int .u64 0].toArray=nu 9:=nu_lit 9 (by decide)
theorem nu_l19:Value.agg [.int .u64 19,.int .u64 0,.int .u64 0,.int .u64 0].toArray=nu 19:=nu_lit 19 (by decide)
theorem nu_l38:Value.agg [.int .u64 38,.int .u64 0,.int .u64 0,.int .u64 0].toArray=nu 38:=nu_lit 38 (by decide)
theorem nu_l121665:Value.agg [.int .u64 121665,.int .u64 0,.int .u64 0,.int .u64 0].toArray=nu 121665:=nu_lit 121665 (by decide)
theorem wi_l0:Value.agg [.int .u64 0,.int .u64 0,.int .u64 0,.int .u64 0,.int .u64 0,.int .u64 0,.int .u64 0,.int .u64 0].toArray=wi 0:=wi_lit 0 (by decide)
theorem wi_l3:Value.agg [.int .u64 3,.int .u64 0,.int .u64 0,.int .u64 0,.int .u64 0,.int .u64 0,.int .u64 0,.int .u64 0].toArray=wi 3:=wi_lit 3 (by decide)
theorem wi_l7:Value.agg [.int .u64 7,.int .u64 0,.int .u64 0,.int .u64 0,.int .u64 0,.int .u64 0,.int .u64 0,.int .u64 0].toArray=wi 7:=wi_lit 7 (by decide)
theorem wi_l15:Value.agg [.int .u64 15,.int .u64 0,.int .u64 0,.int .u64 0,.int .u64 0,.int .u64 0,.int .u64 0,.int .u64 0].toArray=wi 15:=wi_lit 15 (by decide)
end Go.Proofs.YtkendlnjaopbeaaGreatDoor
namespace Go.Proofs.YtkendlnjaopbeaaGreatDoor
open Go.RowKit
set_option maxRecDepth 100000
set_option linter.unusedVariables false
theorem T256_pos:0<T256:=by unfold T256;omega
theorem lt_T512 {a:Nat}(ha:a<T256):a<T512:=Nat.lt_of_lt_of_le ha (Nat.le_mul_of_pos_left T256 T256_pos)
end Go.Proofs.YtkendlnjaopbeaaGreatDoor
namespace Go.Proofs.YtkendlnjaopbeaaGreatDoor
open Go.RowKit
set_option maxRecDepth 100000
set_option linter.unusedVariables false
set_option linter.unusedSimpArgs false
def rowC:List Nat→Array Value
 | []=>#[]
 | x::r=>numC x++rowC r
abbrev ro (l:List Nat):Value:=.agg (rowC l)
theorem rowC_size (l:List Nat):(rowC l).size=4 * l.length:=by
 induction l with
 | nil=>rfl
 | cons x r ih=>unfold rowC;rw [Array.size_append,ih,(numC_cells x).size,List.length_cons];omega
theorem rowC_one (l:List Nat):(rowC l).all (·.oneCell')=true:=by
 induction l with
 | nil=>unfold rowC;simp
 | cons x r ih=>unfold rowC;rw [Array.all_append,(numC_cells x).one,ih];rfl
instance rowC_cells2 (x y:Nat):Cells (rowC [x,y]) 8:=⟨rowC_size _,rowC_one _⟩
instance rowC_cells4 (x y z t:Nat):Cells (rowC [x,y,z,t]) 16:=⟨rowC_size _,rowC_one _⟩
def numAt:List Nat→Nat→Option Nat
 | [],_=>none
 | x::_,0=>some x
 | _::r,n+4=>numAt r n
 | _::_,_=>none
def setAt:List Nat→Nat→Nat→List Nat
 | [],_,_=>[]
 | _::r,0,y=>y::r
 | x::r,n+4,y=>x::setAt r n y
 | l,_,_=>l
theorem numC_len (x:Nat):(numC x).toList.length=4:=by rw [Array.length_toList];exact (numC_cells x).size
theorem numAt_part:∀ (l:List Nat) (off x:Nat),numAt l off=some x→((rowC l).toList.drop off).take 4=(numC x).toList
 | [],_,_,h=>by cases h
 | y::r,0,x,h=>by
  cases h
  unfold rowC
  rw [List.drop_zero,Array.toList_append,List.take_append_of_le_length (by rw [numC_len];exact Nat.le_refl _),List.take_of_length_le (by rw [numC_len];exact Nat.le_refl _)]
 | y::r,n+4,x,h=>by
  have ih:=numAt_part r n x h
  unfold rowC
  rw [Array.toList_append,List.drop_append,List.drop_of_length_le (by rw [numC_len];omega),List.nil_append,numC_len,Nat.add_sub_cancel]
  exact ih
 | _::_,1,_,h=>by cases h
 | _::_,2,_,h=>by cases h
 | _::_,3,_,h=>by cases h
theorem setAt_part:∀ (l:List Nat) (off x y:Nat),numAt l off=some x→putR (rowC l).toList off (numC y).toList=(rowC (setAt l off y)).toList
 | [],_,_,_,h=>by cases h
 | z::r,0,x,y,h=>by
  cases h
  unfold setAt rowC putR
  rw [List.take_zero,List.nil_append,numC_len,Nat.zero_add,Array.toList_append,Array.toList_append,List.drop_append,numC_len,Nat.sub_self,List.drop_zero,List.drop_of_length_le (by rw [numC_len];exact Nat.le_refl _),List.nil_append]
 | z::r,n+4,x,y,h=>by
  have ih:=setAt_part r n x y h
  show putR (rowC (z::r)).toList (n+4) (numC y).toList=(rowC (z::setAt r n y)).toList
  unfold putR at ih ⊢
  unfold rowC
  rw [Array.toList_append,Array.toList_append,←ih]
  rw [List.take_append,List.take_of_length_le (by rw [numC_len];omega),List.drop_append,numC_len,numC_len,List.drop_of_length_le (by rw [numC_len];omega),List.nil_append,show n+4 - 4=n by omega,show n+4+4 - 4=n+4 by omega]
  simp only [List.append_assoc]
 | _::_,1,_,_,h=>by cases h
 | _::_,2,_,_,h=>by cases h
 | _::_,3,_,_,h=>by cases h
section
variable {X:Cx}{s:Slots}{l:Blks}{o:Oper}{v:Value}
theorem ld_num {t b off:Nat}{L:List Nat}{x e:Nat}[hu:KD X.P t true][hs:SZ X.P t 4]
  (hh:Has X l b (rowC L,e):=by first|(with_reducible assumption)|(refine Has.inn ?_;repeat (first|exact Inn.here|refine Inn.there ?_))) (hv:numAt L off=some x:=by rfl):Ld X l t b off (nu x):=by
 have:=ld_row (X:=X) (l:=l) (t:=t) (b:=b) (off:=off) (k:=4) (cs:=(numC x).toList) hh (numAt_part L off x hv) (numC_len x)
 simpa using this
theorem sv_num {t:Nat}{x y:Operand}{b off:Nat}{L L':List Nat}{u z e:Nat}{l':Blks}(ho:o.op=.store t x y)(hx:val s x=some (.pointer (some ⟨b,off,none⟩)))(hy:val s y=some (nu u))
  [hs:SZ X.P t 4] (ha:At l b (rowC L,e) (rowC L',e) l':=by repeat (first|exact At.here|apply At.there)) (hv:numAt L off=some z:=by rfl) (hL:setAt L off u=L':=by first|(dsimp only [setAt];exact rfl)|rfl) (htb:Nat.blt e BIG=true:=by first|rfl|assumption):Sv X s l o l':=by
 subst hL
 have hb:∀ (l:List Nat) (off z:Nat),numAt l off=some z→off+4≤4 * l.length:=by
  intro l
  induction l with
  | nil=>intro off z h;cases h
  | cons y r ih=>
   intro off z h
   match off,h with
   | 0,_=>simp only [List.length_cons];omega
   | n+4,h=>have:=ih n z h;simp only [List.length_cons];omega
 refine sv_row (hb:=htb) (cs:=(numC u).toList) (c':=(rowC (setAt L off u)).toList) ho hx (by simpa using hy) (by have:=(numC_cells u).one;simpa using this) (numC_len u) (by simpa using ha) (setAt_part L off z u hv) ?_
 rw [numC_len,rowC_size]
 exact hb L off z hv
theorem sv_num0 {t:Nat}{x y:Operand}{b:Nat}{p q u e:Nat}{l':Blks}(ho:o.op=.store t x y)(hx:val s x=some (.pointer (some ⟨b,0,none⟩)))(hy:val s y=some (nu u))
  [hs:SZ X.P t 4] (ha:At l b (rowC [p,q],e) (rowC [u,q],e) l':=by repeat (first|exact At.here|apply At.there)) (htb:Nat.blt e BIG=true:=by first|rfl|assumption):Sv X s l o l':=sv_num (L:=[p,q]) (L':=[u,q]) (z:=p) ho hx hy ha rfl rfl htb
theorem sv_num4 {t:Nat}{x y:Operand}{b:Nat}{p q u e:Nat}{l':Blks}(ho:o.op=.store t x y)(hx:val s x=some (.pointer (some ⟨b,4,none⟩)))(hy:val s y=some (nu u))
  [hs:SZ X.P t 4] (ha:At l b (rowC [p,q],e) (rowC [p,u],e) l':=by repeat (first|exact At.here|apply At.there)) (htb:Nat.blt e BIG=true:=by first|rfl|assumption):Sv X s l o l':=sv_num (L:=[p,q]) (L':=[p,u]) (z:=q) ho hx hy ha rfl rfl htb
theorem numC_zero:(numC 0).toList=[.int .u64 0,.int .u64 0,.int .u64 0,.int .u64 0]:=by
 unfold numC limb;simp
theorem numC_four (x:Nat):∃ a b c d,(numC x).toList=[a,b,c,d]∧numC x=#[a,b,c,d]:=⟨_,_,_,_,by unfold numC;rfl,by unfold numC;rfl⟩
theorem fill_xy (x y:Nat):fillC (fun i=>[((0:Nat),(4:Nat)),(4,4)][i]?) [.int .u64 0,.int .u64 0,.int .u64 0,.int .u64 0,.int .u64 0,.int .u64 0,.int .u64 0,.int .u64 0] [(0,nu x),(1,nu y)]=some (rowC [x,y]).toList:=by
 obtain ⟨a,b,c,d,h,h'⟩:=numC_four x
 obtain ⟨a2,b2,c2,d2,k,k'⟩:=numC_four y
 simp [fillC,putR,rowC,Value.cells,h',k']
 rfl
theorem fill_y (y:Nat):fillC (fun i=>[((0:Nat),(4:Nat)),(4,4)][i]?) [.int .u64 0,.int .u64 0,.int .u64 0,.int .u64 0,.int .u64 0,.int .u64 0,.int .u64 0,.int .u64 0] [(1,nu y)]=some (rowC [0,y]).toList:=by
 obtain ⟨a2,b2,c2,d2,k,k'⟩:=numC_four y
 have z:=numC_zero
 simp [fillC,putR,rowC,Value.cells,k',z]
 rfl
theorem fill_x (x:Nat):fillC (fun i=>[((0:Nat),(4:Nat)),(4,4)][i]?) [.int .u64 0,.int .u64 0,.int .u64 0,.int .u64 0,.int .u64 0,.int .u64 0,.int .u64 0,.int .u64 0] [(0,nu x)]=some (rowC [x,0]).toList:=by
 obtain ⟨a2,b2,c2,d2,k,k'⟩:=numC_four x
 have z:=numC_zero
 simp [fillC,putR,rowC,Value.cells,k',z]
 rfl
theorem fill_0:fillC (fun i=>[((0:Nat),(4:Nat)),(4,4)][i]?) [.int .u64 0,.int .u64 0,.int .u64 0,.int .u64 0,.int .u64 0,.int .u64 0,.int .u64 0,.int .u64 0] []=some (rowC [0,0]).toList:=by
 have z:=numC_zero
 simp [fillC,putR,rowC,Value.cells,z]
theorem fill_4 (x y z t:Nat):fillC (fun i=>[((0:Nat),(4:Nat)),(4,4),(8,4),(12,4)][i]?) [.int .u64 0,.int .u64 0,.int .u64 0,.int .u64 0,.int .u64 0,.int .u64 0,.int .u64 0,.int .u64 0,.int .u64 0,.int .u64 0,.int .u64 0,.int .u64 0,.int .u64 0,.int .u64 0,.int .u64 0,.int .u64 0] [(0,nu x),(1,nu y),(2,nu z),(3,nu t)]=some (rowC [x,y,z,t]).toList:=by
 obtain ⟨a,b,c,d,h,h'⟩:=numC_four x
 obtain ⟨a2,b2,c2,d2,k,k'⟩:=numC_four y
 obtain ⟨a3,b3,c3,d3,m,m'⟩:=numC_four z
 obtain ⟨a4,b4,c4,d4,n,n'⟩:=numC_four t
 simp [fillC,putR,rowC,Value.cells,h',k',m',n']
 rfl
class R2 (P:Program)(t:Nat):Prop where
 sp:SP P t [(0,4),(4,4)]
 zr:ZR P t (.agg #[.int .u64 0,.int .u64 0,.int .u64 0,.int .u64 0,.int .u64 0,.int .u64 0,.int .u64 0,.int .u64 0])
class R4 (P:Program)(t:Nat):Prop where
 sp:SP P t [(0,4),(4,4),(8,4),(12,4)]
 zr:ZR P t (.agg #[.int .u64 0,.int .u64 0,.int .u64 0,.int .u64 0,.int .u64 0,.int .u64 0,.int .u64 0,.int .u64 0,.int .u64 0,.int .u64 0,.int .u64 0,.int .u64 0,.int .u64 0,.int .u64 0,.int .u64 0,.int .u64 0])
theorem rd_build2 {t:Nat}{ps:Array (Nat×Operand)}{x y:Nat}(ho:o.op=.build t ps)(hx:valsP s ps.toList=some [(0,nu x),(1,nu y)])[h:R2 X.P t]:RdV X s l o (ro [x,y]):=by
 have:=@rd_buildS X s l o t ps _ _ _ _ ho hx h.sp h.zr (fill_xy x y)
 simpa using this
theorem rd_build2y {t:Nat}{ps:Array (Nat×Operand)}{y:Nat}(ho:o.op=.build t ps)(hx:valsP s ps.toList=some [(1,nu y)])[h:R2 X.P t]:RdV X s l o (ro [0,y]):=by
 have:=@rd_buildS X s l o t ps _ _ _ _ ho hx h.sp h.zr (fill_y y)
 simpa using this
theorem rd_build2x {t:Nat}{ps:Array (Nat×Operand)}{x:Nat}(ho:o.op=.build t ps)(hx:valsP s ps.toList=some [(0,nu x)])[h:R2 X.P t]:RdV X s l o (ro [x,0]):=by
 have:=@rd_buildS X s l o t ps _ _ _ _ ho hx h.sp h.zr (fill_x x)
 simpa using this
theorem rd_build20 {t:Nat}{ps:Array (Nat×Operand)}(ho:o.op=.build t ps)(hx:valsP s ps.toList=some [])[h:R2 X.P t]:RdV X s l o (ro [0,0]):=by
 have:=@rd_buildS X s l o t ps _ _ _ _ ho hx h.sp h.zr fill_0
 simpa using this
theorem rd_build4 {t:Nat}{ps:Array (Nat×Operand)}{x y z q:Nat}(ho:o.op=.build t ps)(hx:valsP s ps.toList=some [(0,nu x),(1,nu y),(2,nu z),(3,nu q)])[h:R4 X.P t]:RdV X s l o (ro [x,y,z,q]):=by
 have:=@rd_buildS X s l o t ps _ _ _ _ ho hx h.sp h.zr (fill_4 x y z q)
 simpa using this
end
theorem zc_r2 {P:Program}{t:Nat}(h:R2 P t):ZC P t (rowC [0,0]):=⟨by
 rw [h.zr.out]
 have z:=numC_zero
 show some _=some _
 congr 1
 apply Array.ext'
 simp [rowC,Value.cells,z]⟩
theorem zc_r4 {P:Program}{t:Nat}(h:R4 P t):ZC P t (rowC [0,0,0,0]):=⟨by
 rw [h.zr.out]
 have z:=numC_zero
 show some _=some _
 congr 1
 apply Array.ext'
 simp [rowC,Value.cells,z]⟩
attribute [irreducible] rowC
end Go.Proofs.YtkendlnjaopbeaaGreatDoor
namespace Go.Proofs.YtkendlnjaopbeaaGreatDoor
open Go.RowKit
set_option linter.unusedVariables false
theorem four_val (a b c d n:Nat)(h0:limb n 0=(a:Int))(h1:limb n 1=(b:Int))(h2:limb n 2=(c:Int))(h3:limb n 3=(d:Int)):Value.agg [.int .u64 a,.int .u64 b,.int .u64 c,.int .u64 d].toArray=nu n:=by
 rw [←nu_num,num,h0,h1,h2,h3]
end Go.Proofs.YtkendlnjaopbeaaGreatDoor
namespace Go.Proofs.YtkendlnjaopbeaaGreatDoor
open Go.RowKit
set_option linter.unusedVariables false
set_option linter.unusedSimpArgs false
set_option maxRecDepth 100000
def SLn:Nat:=7237005577332262213973186563042994240857116359379907606001950938285454250989
def slow (a:Nat):Nat:=a % SLn
def sadd (a b:Nat):Nat:=(a+b) % SLn
def smul (a b:Nat):Nat:=a * b % SLn
def sneg (a:Nat):Nat:=(SLn - a % SLn) % SLn
theorem slow_def (a:Nat):slow a=a % SLn:=rfl
theorem sadd_def (a b:Nat):sadd a b=(a+b) % SLn:=rfl
theorem smul_def (a b:Nat):smul a b=a * b % SLn:=rfl
theorem SL_pos:0<SLn:=by decide
theorem SL_T:SLn<T256:=by decide +kernel
theorem SL_two:2 * SLn<T256:=by decide +kernel
theorem slow_L (a:Nat):slow a<SLn:=Nat.mod_lt _ SL_pos
theorem sadd_L (a b:Nat):sadd a b<SLn:=Nat.mod_lt _ SL_pos
theorem smul_L (a b:Nat):smul a b<SLn:=Nat.mod_lt _ SL_pos
theorem slow_lt (a:Nat):slow a<T256:=Nat.lt_trans (slow_L a) SL_T
theorem smul_lt (a b:Nat):smul a b<T256:=Nat.lt_trans (smul_L a b) SL_T
attribute [irreducible] slow sadd smul sneg
theorem SL_val:Value.agg [.int .u64 6346243789798364141,.int .u64 1503914060200516822,.int .u64 0,.int .u64 1152921504606846976].toArray=nu SLn:=four_val 6346243789798364141 1503914060200516822 0 1152921504606846976 SLn (by decide +kernel) (by decide +kernel) (by decide +kernel) (by decide +kernel)
theorem l_c (w:World):Calls Tryz.prog 67 [].toArray w (Ret (nu SLn) w):=by
 refine fn_ret (N:=_) Tryz.func67 rfl Tryz.ntmps67 Tryz.results67 (by simp) ?_
 simp only [initS,Nat.reduceAdd,Nat.zero_add]
 repeat' (first|((with_reducible refine sel_build ?_);refine wv rfl rfl (rd_cast (rd_buildA rfl rfl) SL_val) ?_)|(refine wlE ?_)|(refine efZCnn ?_;intro n hn)|(refine efBnn ?_;intro n hn)|(refine efB ?_)|(refine wl_skip rfl rfl ?_)|((with_reducible refine wc_seq ?_);intro K hK)|(refine auC ?_)|(refine wc_cond rfl (fun hc=>?_) (fun hc=>?_))|(refine wc_draw (by kernel_rfl) (by kernel_rfl) (by decide +kernel) ?_;intro w0 hw0 hm0;(try simp only [List.append_eq,List.cons_append,List.nil_append]))|(refine auP ?_)|((refine auR ?_);clear hK K)|(refine auR ?_)|((with_reducible refine hK _ _ ?_);clear hK K)|fail)
 first|refine end_ret (ResP.cell rfl ld_whole ResP.nil) ?_|refine end_normal (ResP.cell rfl ld_whole ResP.nil) ?_
 first|rfl|(show _=_;rfl)|(simp only [tupV, *];done)
set_option maxHeartbeats 1000000 in
theorem reduceS (a:Nat)(ha:a<T512)(w:World):Calls Tryz.prog 45 [wi a].toArray w (Ret (nu (slow a)) w):=by
 have LC:=l_c
 have MC:=mod_pos a SLn ha SL_T SL_pos
 rw [←slow_def] at MC
 clear ha
 generalize slow a=r at *
 refine fn_ret (N:=_) Tryz.func45 rfl Tryz.ntmps45 Tryz.results45 (by simp) ?_
 simp only [initS,Nat.reduceAdd,Nat.zero_add]
 repeat' (first|(refine wlB ?_)|(refine efZCnn ?_;intro n hn)|(refine efBnn ?_;intro n hn)|(refine efB ?_)|(refine wl_skip rfl rfl ?_)|(refine wdV ?_)|(refine wdB ?_)|((with_reducible refine seld_call ?_);refine wd_rd hm0 rfl rfl rfl rfl (rd_call rfl rfl rfl (fun w hm=>by with_reducible first|exact LC w|exact MC w)) ?_)|(refine wdE ?_)|(refine wd_allocC hm0 rfl rfl rfl ?_;intro n hn hn0)|(refine wd_alloc hm0 rfl rfl rfl ?_;intro n hn hn0)|(refine wdT ?_)|(refine wd_skip rfl rfl ?_)|((with_reducible refine seld_nil ?_);refine wd_nil hm0 ?_;clear hm0 hw0)|((with_reducible refine wc_seq ?_);intro K hK)|(refine auC ?_)|(refine wc_cond rfl (fun hc=>?_) (fun hc=>?_))|(refine wc_draw (by kernel_rfl) (by kernel_rfl) (by decide +kernel) ?_;intro w0 hw0 hm0;(try simp only [List.append_eq,List.cons_append,List.nil_append]))|(refine auP ?_)|((refine auR ?_);clear hK K)|(refine auR ?_)|((with_reducible refine hK _ _ ?_);clear hK K)|fail)
 first|refine end_ret (ResP.cell rfl ld_whole ResP.nil) ?_|refine end_normal (ResP.cell rfl ld_whole ResP.nil) ?_
 first|rfl|(show _=_;rfl)|(simp only [tupV, *];done)
set_option maxHeartbeats 1000000 in
theorem lowS (a:Nat)(ha:a<T256)(w:World):Calls Tryz.prog 99 [nu a].toArray w (Ret (nu (slow a)) w):=by
 have WC:=wide_nu a 0 ha
 rw [Nat.mul_zero,Nat.add_zero] at WC
 have RC:=reduceS a (lt_T512 ha)
 clear ha
 generalize slow a=r at *
 refine fn_ret (N:=_) Tryz.func99 rfl Tryz.ntmps99 Tryz.results99 (by simp) ?_
 simp only [initS,Nat.reduceAdd,Nat.zero_add]
 repeat' (first|(refine wlB ?_)|(refine wlNL ?_)|((with_reducible refine sel_call ?_);refine wl_rd rfl rfl (rd_call rfl rfl rfl (fun w hm=>by with_reducible first|exact WC w|exact RC w)) ?_)|(refine wlE ?_)|(refine efZCnn ?_;intro n hn)|(refine efBnn ?_;intro n hn)|(refine efB ?_)|(refine wl_skip rfl rfl ?_)|((with_reducible refine wc_seq ?_);intro K hK)|(refine auC ?_)|(refine wc_cond rfl (fun hc=>?_) (fun hc=>?_))|(refine wc_draw (by kernel_rfl) (by kernel_rfl) (by decide +kernel) ?_;intro w0 hw0 hm0;(try simp only [List.append_eq,List.cons_append,List.nil_append]))|(refine auP ?_)|((refine auR ?_);clear hK K)|(refine auR ?_)|((with_reducible refine hK _ _ ?_);clear hK K)|fail)
 first|refine end_ret (ResP.cell rfl ld_whole ResP.nil) ?_|refine end_normal (ResP.cell rfl ld_whole ResP.nil) ?_
 first|rfl|(show _=_;rfl)|(simp only [tupV, *];done)
set_option maxHeartbeats 1000000 in
theorem mulS (a b:Nat)(ha:a<T256)(hb:b<T256)(w:World):Calls Tryz.prog 97 [nu a,nu b].toArray w (Ret (nu (smul a b)) w):=by
 have MC:=mul_nu a b ha hb
 have RC:=reduceS (a * b) (show a * b<T512 from Nat.mul_lt_mul'' ha hb)
 rw [slow_def,←smul_def] at RC
 clear ha hb
 generalize smul a b=r at *
 refine fn_ret (N:=_) Tryz.func97 rfl Tryz.ntmps97 Tryz.results97 (by simp) ?_
 simp only [initS,Nat.reduceAdd,Nat.zero_add]
 repeat' (first|(refine wlB ?_)|((with_reducible refine sel_call ?_);refine wl_rd rfl rfl (rd_call rfl rfl rfl (fun w hm=>by with_reducible first|exact MC w|exact RC w)) ?_)|(refine wlE ?_)|(refine efZCnn ?_;intro n hn)|(refine efBnn ?_;intro n hn)|(refine efB ?_)|(refine wl_skip rfl rfl ?_)|((with_reducible refine wc_seq ?_);intro K hK)|(refine auC ?_)|(refine wc_cond rfl (fun hc=>?_) (fun hc=>?_))|(refine wc_draw (by kernel_rfl) (by kernel_rfl) (by decide +kernel) ?_;intro w0 hw0 hm0;(try simp only [List.append_eq,List.cons_append,List.nil_append]))|(refine auP ?_)|((refine auR ?_);clear hK K)|(refine auR ?_)|((with_reducible refine hK _ _ ?_);clear hK K)|fail)
 first|refine end_ret (ResP.cell rfl ld_whole ResP.nil) ?_|refine end_normal (ResP.cell rfl ld_whole ResP.nil) ?_
 first|rfl|(show _=_;rfl)|(simp only [tupV, *];done)
set_option maxHeartbeats 1000000 in
theorem addS (a b:Nat)(ha:a<T256)(hb:b<T256)(w:World):Calls Tryz.prog 96 [nu a,nu b].toArray w (Ret (nu (sadd a b)) w):=by
 have LA:=lowS a ha
 have LB:=lowS b hb
 have h1:=slow_L a
 have h2:=slow_L b
 have h3:=SL_two
 have AC:=add_nu (slow a) (slow b) (slow_lt a) (slow_lt b)
 have RC:=lowS (slow a+slow b) (by omega)
 have e:slow (slow a+slow b)=sadd a b:=by
  rw [slow_def,slow_def,slow_def,sadd_def,←Nat.add_mod]
 rw [e] at RC
 rw [Nat.mod_eq_of_lt (show slow a+slow b<T256 by omega)] at AC
 clear h1 h2 h3 e ha hb
 generalize slow a+slow b=s at *
 generalize slow a=x at *
 generalize slow b=y at *
 generalize sadd a b=r at *
 refine fn_ret (N:=_) Tryz.func96 rfl Tryz.ntmps96 Tryz.results96 (by simp) ?_
 simp only [initS,Nat.reduceAdd,Nat.zero_add]
 repeat' (first|(refine wlB ?_)|((with_reducible refine sel_call ?_);refine wl_rd rfl rfl (rd_call rfl rfl rfl (fun w hm=>by with_reducible first|exact LA w|exact LB w|exact AC w|exact RC w)) ?_)|(refine wlE ?_)|(refine efZCnn ?_;intro n hn)|(refine efBnn ?_;intro n hn)|(refine efB ?_)|(refine wl_skip rfl rfl ?_)|(refine wdV ?_)|(refine wdB ?_)|((with_reducible refine seld_call ?_);refine wd_rd hm0 rfl rfl rfl rfl (rd_call rfl rfl rfl (fun w hm=>by with_reducible first|exact LA w|exact LB w|exact AC w|exact RC w)) ?_)|(refine wdE ?_)|(refine wd_allocC hm0 rfl rfl rfl ?_;intro n hn hn0)|(refine wd_alloc hm0 rfl rfl rfl ?_;intro n hn hn0)|(refine wdT ?_)|(refine wd_skip rfl rfl ?_)|((with_reducible refine seld_nil ?_);refine wd_nil hm0 ?_;clear hm0 hw0)|((with_reducible refine wc_seq ?_);intro K hK)|(refine auC ?_)|(refine wc_cond rfl (fun hc=>?_) (fun hc=>?_))|(refine wc_draw (by kernel_rfl) (by kernel_rfl) (by decide +kernel) ?_;intro w0 hw0 hm0;(try simp only [List.append_eq,List.cons_append,List.nil_append]))|(refine auP ?_)|((refine auR ?_);clear hK K)|(refine auR ?_)|((with_reducible refine hK _ _ ?_);clear hK K)|fail)
 first|refine end_ret (ResP.cell rfl ld_whole ResP.nil) ?_|refine end_normal (ResP.cell rfl ld_whole ResP.nil) ?_
 first|rfl|(show _=_;rfl)|(simp only [tupV, *];done)
end Go.Proofs.YtkendlnjaopbeaaGreatDoor
namespace Go.Proofs.YtkendlnjaopbeaaGreatDoor
open Go.RowKit
set_option linter.unusedVariables false
set_option linter.unusedSimpArgs false
def byteN (a j:Nat):Nat:=a / 2 ^ (8 * j) % 256
def byteCells (f:Nat→Nat):Array Value:=((List.range 32).map fun j=>Value.int .u8 (f j:Nat)).toArray
theorem byteCells_set (f:Nat→Nat)(k v:Nat)(hk:k<32):(byteCells f).setIfInBounds k (.int .u8 (v:Nat))=byteCells (fun j=>if j=k then v else f j):=by
 unfold byteCells
 rw [List.setIfInBounds_toArray]
 congr 1
 apply List.ext_getElem (by simp)
 intro i h1 h2
 simp only [List.getElem_set,List.getElem_map,List.getElem_range]
 by_cases h:i=k
 ·subst h;simp
 ·rw [if_neg (fun e=>h e.symm),if_neg h]
theorem byteZero:#[.int .u8 0,.int .u8 0,.int .u8 0,.int .u8 0,.int .u8 0,.int .u8 0,.int .u8 0,.int .u8 0,.int .u8 0,.int .u8 0,.int .u8 0,.int .u8 0,.int .u8 0,.int .u8 0,.int .u8 0,.int .u8 0,.int .u8 0,.int .u8 0,.int .u8 0,.int .u8 0,.int .u8 0,.int .u8 0,.int .u8 0,.int .u8 0,.int .u8 0,.int .u8 0,.int .u8 0,.int .u8 0,.int .u8 0,.int .u8 0,.int .u8 0,.int .u8 0]=byteCells (fun _=>0):=rfl
theorem byteCells_get (f:Nat→Nat)(k:Nat)(hk:k<32):(byteCells f)[k]? = some (.int .u8 (f k:Nat)):=by
 unfold byteCells;simp [hk]
theorem byteUpto (a k:Nat)(hk:k<32):(byteCells fun j=>if j<k then byteN a j else 0).setIfInBounds k (.int .u8 (byteN a k:Nat))=byteCells fun j=>if j<k+1 then byteN a j else 0:=by
 rw [byteCells_set _ _ _ hk]
 congr 1;funext j
 by_cases h:j=k
 ·subst h;simp
 ·rw [if_neg h]
  by_cases h':j<k
  ·rw [if_pos h',if_pos (by omega)]
  ·rw [if_neg h',if_neg (by omega)]
theorem byteCells_all (f:Nat→Nat):(byteCells fun j=>if j<32 then f j else 0)=byteCells f:=by
 unfold byteCells
 congr 1
theorem byteCells_one (f:Nat→Nat):(byteCells f).all (·.oneCell')=true:=by
 unfold byteCells;simp [Value.oneCell']
theorem byte_plain (a q r:Nat)(hr:r<8):((lw a q / 2 ^ (r * 8):Nat):Int) % 256=(byteN a (8 * q+r):Nat):=by
 have:lw a q / 2 ^ (r * 8) % 256=byteN a (8 * q+r):=by
  unfold byteN
  show lw a q / 2 ^ (r * 8) % 2 ^ 8=a / 2 ^ (8 * (8 * q+r)) % 2 ^ 8
  apply Nat.eq_of_testBit_eq;intro j
  rw [Nat.testBit_mod_two_pow,Nat.testBit_mod_two_pow,Nat.testBit_div_two_pow,Nat.testBit_div_two_pow,lw_bit]
  by_cases hj:j<8
  ·rw [decide_eq_true (by omega:j+r * 8<64),show 64 * q+(j+r * 8)=j+8 * (8 * q+r) by omega];simp
  ·simp [hj]
 omega
set_option maxRecDepth 20000 in
set_option maxHeartbeats 2000000 in
theorem bytes_all (a:Nat)(ha:a<T256)(w:World):Calls Tryz.prog 55 #[num a] w (Ret (.agg (byteCells (byteN a))) w):=by
 go_enter Tryz.func55,Tryz.ntmps55
 go_wp2_with fail
 go_loopw [4,5] (fun t i wr=>∃ k:Nat,k≤32∧i=.int .i64 k∧wr.heap[w.heap.size]? = some (.cells #[.int .u64 (limb a 0),.int .u64 (limb a 1),.int .u64 (limb a 2),.int .u64 (limb a 3)] 46)∧wr.heap[w.heap.size+1]? = some (.cells (byteCells fun _=>0) 43)∧wr.heap[w.heap.size+1+1]? = some (.cells (byteCells fun j=>if j<k then byteN a j else 0) 43)∧Below w.heap.size w wr)
  (fun _ i _=>32 - (intOf i).toNat)
 case atStart=>
  refine ⟨0,by omega,rfl,?_,?_,?_,?_⟩
  ·(repeat' (first|(with_reducible exact nw)|(with_reducible exact nw1)|(with_reducible exact nw2)|(with_reducible exact nw3)|(with_reducible exact nw4)|(with_reducible exact nw5)|(with_reducible assumption)|(with_reducible apply ho)|(with_reducible apply hdr)|(with_reducible apply Grow.heap)|(with_reducible apply hrow)|(with_reducible apply hset)|(with_reducible apply hrow_other)|(with_reducible apply hset_other)|(go_simp;done)|omega))
  ·rw [←byteZero]
   (repeat' (first|(with_reducible exact nw)|(with_reducible exact nw1)|(with_reducible exact nw2)|(with_reducible exact nw3)|(with_reducible exact nw4)|(with_reducible exact nw5)|(with_reducible assumption)|(with_reducible apply ho)|(with_reducible apply hdr)|(with_reducible apply Grow.heap)|(with_reducible apply hrow)|(with_reducible apply hset)|(with_reducible apply hrow_other)|(with_reducible apply hset_other)|(go_simp;done)|omega))
  ·rw [show (fun j=>if j<0 then byteN a j else 0)=fun _=>0 by funext j;simp,←byteZero]
   (repeat' (first|(with_reducible exact nw)|(with_reducible exact nw1)|(with_reducible exact nw2)|(with_reducible exact nw3)|(with_reducible exact nw4)|(with_reducible exact nw5)|(with_reducible assumption)|(with_reducible apply ho)|(with_reducible apply hdr)|(with_reducible apply Grow.heap)|(with_reducible apply hrow)|(with_reducible apply hset)|(with_reducible apply hrow_other)|(with_reducible apply hset_other)|(go_simp;done)|omega))
  ·repeat' (first|(with_reducible exact Below.refl _ _)|(with_reducible assumption)|(with_reducible refine up_alloc ?_ _)|(with_reducible refine up ?_ _)|(with_reducible refine up_drew ?_)|(with_reducible refine up_row ?_ ?_ _)|(with_reducible refine up_set ?_ ?_ _)|((try dsimp only);first|omega|exact le_size|exact le_size1|exact le_size2|exact le_size3))
 case round=>
  obtain ⟨k,hk,rfl,h1,h2,h3,hB⟩:=hrel
  have ⟨r1,z1,l1⟩:=rules h1
  have I1:LtSize w.heap.size wr:=⟨l1⟩
  have ⟨r3,z3,l3⟩:=rules h3
  have l2:=blk_lt h2
  have I2:LtSize (w.heap.size+1) wr:=⟨l2⟩
  have I3:LtSize (w.heap.size+1+1) wr:=⟨l3⟩
  by_cases hk':k<32
  ·have c3:wr.cell? ⟨w.heap.size+1+1,k,none⟩=some (.int .u8 0):=by
    rw [r3,byteCells_get _ _ hk',if_neg (by omega)];rfl
   clear r3
   obtain ⟨q,r,hr,hq4,hk0⟩:∃ q r,r<8∧q<4∧k=8 * q+r:=⟨k / 8,k % 8,Nat.mod_lt _ (by omega),by omega,(Nat.div_add_mod _ _).symm⟩
   have e2:(k:Int) % 8=r:=by omega
   have hq:q=0∨q=1∨q=2∨q=3:=by omega
   have fin:limb a q / 2 ^ (r * 8) % 256=(byteN a k:Nat):=by
    rw [limb_lw,int_shr,hk0]
    have:=byte_plain a q r hr
    omega
   clear hq4
   rcases hq with rfl|rfl|rfl|rfl
   ·have e1:(k:Int) / 8=0:=by omega
    clear hk0
    go_wp2_with fail
    go_roundw
    case rel=>
     refine ⟨k+1,by omega,by go_num,?_,?_,?_,?_⟩
     ·(repeat' (first|(with_reducible exact nw)|(with_reducible exact nw1)|(with_reducible exact nw2)|(with_reducible exact nw3)|(with_reducible exact nw4)|(with_reducible exact nw5)|(with_reducible assumption)|(with_reducible apply ho)|(with_reducible apply hdr)|(with_reducible apply Grow.heap)|(with_reducible apply hrow)|(with_reducible apply hset)|(with_reducible apply hrow_other)|(with_reducible apply hset_other)|(go_simp;done)|omega))
     ·(repeat' (first|(with_reducible exact nw)|(with_reducible exact nw1)|(with_reducible exact nw2)|(with_reducible exact nw3)|(with_reducible exact nw4)|(with_reducible exact nw5)|(with_reducible assumption)|(with_reducible apply ho)|(with_reducible apply hdr)|(with_reducible apply Grow.heap)|(with_reducible apply hrow)|(with_reducible apply hset)|(with_reducible apply hrow_other)|(with_reducible apply hset_other)|(go_simp;done)|omega))
     ·rw [←byteUpto a k hk']
      (repeat' (first|(with_reducible exact nw)|(with_reducible exact nw1)|(with_reducible exact nw2)|(with_reducible exact nw3)|(with_reducible exact nw4)|(with_reducible exact nw5)|(with_reducible assumption)|(with_reducible apply ho)|(with_reducible apply hdr)|(with_reducible apply Grow.heap)|(with_reducible apply hrow)|(with_reducible apply hset)|(with_reducible apply hrow_other)|(with_reducible apply hset_other)|(go_simp;done)|omega))
     ·repeat' (first|(with_reducible exact Below.refl _ _)|(with_reducible assumption)|(with_reducible refine up_alloc ?_ _)|(with_reducible refine up ?_ _)|(with_reducible refine up_drew ?_)|(with_reducible refine up_row ?_ ?_ _)|(with_reducible refine up_set ?_ ?_ _)|((try dsimp only);first|omega|exact le_size|exact le_size1|exact le_size2|exact le_size3))
    case measure=>simp [intOf];omega
   ·have e1:(k:Int) / 8=1:=by omega
    clear hk0
    go_wp2_with fail
    go_roundw
    case rel=>
     refine ⟨k+1,by omega,by go_num,?_,?_,?_,?_⟩
     ·(repeat' (first|(with_reducible exact nw)|(with_reducible exact nw1)|(with_reducible exact nw2)|(with_reducible exact nw3)|(with_reducible exact nw4)|(with_reducible exact nw5)|(with_reducible assumption)|(with_reducible apply ho)|(with_reducible apply hdr)|(with_reducible apply Grow.heap)|(with_reducible apply hrow)|(with_reducible apply hset)|(with_reducible apply hrow_other)|(with_reducible apply hset_other)|(go_simp;done)|omega))
     ·(repeat' (first|(with_reducible exact nw)|(with_reducible exact nw1)|(with_reducible exact nw2)|(with_reducible exact nw3)|(with_reducible exact nw4)|(with_reducible exact nw5)|(with_reducible assumption)|(with_reducible apply ho)|(with_reducible apply hdr)|(with_reducible apply Grow.heap)|(with_reducible apply hrow)|(with_reducible apply hset)|(with_reducible apply hrow_other)|(with_reducible apply hset_other)|(go_simp;done)|omega))
     ·rw [←byteUpto a k hk']
      (repeat' (first|(with_reducible exact nw)|(with_reducible exact nw1)|(with_reducible exact nw2)|(with_reducible exact nw3)|(with_reducible exact nw4)|(with_reducible exact nw5)|(with_reducible assumption)|(with_reducible apply ho)|(with_reducible apply hdr)|(with_reducible apply Grow.heap)|(with_reducible apply hrow)|(with_reducible apply hset)|(with_reducible apply hrow_other)|(with_reducible apply hset_other)|(go_simp;done)|omega))
     ·repeat' (first|(with_reducible exact Below.refl _ _)|(with_reducible assumption)|(with_reducible refine up_alloc ?_ _)|(with_reducible refine up ?_ _)|(with_reducible refine up_drew ?_)|(with_reducible refine up_row ?_ ?_ _)|(with_reducible refine up_set ?_ ?_ _)|((try dsimp only);first|omega|exact le_size|exact le_size1|exact le_size2|exact le_size3))
    case measure=>simp [intOf];omega
   ·have e1:(k:Int) / 8=2:=by omega
    clear hk0
    go_wp2_with fail
    go_roundw
    case rel=>
     refine ⟨k+1,by omega,by go_num,?_,?_,?_,?_⟩
     ·(repeat' (first|(with_reducible exact nw)|(with_reducible exact nw1)|(with_reducible exact nw2)|(with_reducible exact nw3)|(with_reducible exact nw4)|(with_reducible exact nw5)|(with_reducible assumption)|(with_reducible apply ho)|(with_reducible apply hdr)|(with_reducible apply Grow.heap)|(with_reducible apply hrow)|(with_reducible apply hset)|(with_reducible apply hrow_other)|(with_reducible apply hset_other)|(go_simp;done)|omega))
     ·(repeat' (first|(with_reducible exact nw)|(with_reducible exact nw1)|(with_reducible exact nw2)|(with_reducible exact nw3)|(with_reducible exact nw4)|(with_reducible exact nw5)|(with_reducible assumption)|(with_reducible apply ho)|(with_reducible apply hdr)|(with_reducible apply Grow.heap)|(with_reducible apply hrow)|(with_reducible apply hset)|(with_reducible apply hrow_other)|(with_reducible apply hset_other)|(go_simp;done)|omega))
     ·rw [←byteUpto a k hk']
      (repeat' (first|(with_reducible exact nw)|(with_reducible exact nw1)|(with_reducible exact nw2)|(with_reducible exact nw3)|(with_reducible exact nw4)|(with_reducible exact nw5)|(with_reducible assumption)|(with_reducible apply ho)|(with_reducible apply hdr)|(with_reducible apply Grow.heap)|(with_reducible apply hrow)|(with_reducible apply hset)|(with_reducible apply hrow_other)|(with_reducible apply hset_other)|(go_simp;done)|omega))
     ·repeat' (first|(with_reducible exact Below.refl _ _)|(with_reducible assumption)|(with_reducible refine up_alloc ?_ _)|(with_reducible refine up ?_ _)|(with_reducible refine up_drew ?_)|(with_reducible refine up_row ?_ ?_ _)|(with_reducible refine up_set ?_ ?_ _)|((try dsimp only);first|omega|exact le_size|exact le_size1|exact le_size2|exact le_size3))
    case measure=>simp [intOf];omega
   ·have e1:(k:Int) / 8=3:=by omega
    clear hk0
    go_wp2_with fail
    go_roundw
    case rel=>
     refine ⟨k+1,by omega,by go_num,?_,?_,?_,?_⟩
     ·(repeat' (first|(with_reducible exact nw)|(with_reducible exact nw1)|(with_reducible exact nw2)|(with_reducible exact nw3)|(with_reducible exact nw4)|(with_reducible exact nw5)|(with_reducible assumption)|(with_reducible apply ho)|(with_reducible apply hdr)|(with_reducible apply Grow.heap)|(with_reducible apply hrow)|(with_reducible apply hset)|(with_reducible apply hrow_other)|(with_reducible apply hset_other)|(go_simp;done)|omega))
     ·(repeat' (first|(with_reducible exact nw)|(with_reducible exact nw1)|(with_reducible exact nw2)|(with_reducible exact nw3)|(with_reducible exact nw4)|(with_reducible exact nw5)|(with_reducible assumption)|(with_reducible apply ho)|(with_reducible apply hdr)|(with_reducible apply Grow.heap)|(with_reducible apply hrow)|(with_reducible apply hset)|(with_reducible apply hrow_other)|(with_reducible apply hset_other)|(go_simp;done)|omega))
     ·rw [←byteUpto a k hk']
      (repeat' (first|(with_reducible exact nw)|(with_reducible exact nw1)|(with_reducible exact nw2)|(with_reducible exact nw3)|(with_reducible exact nw4)|(with_reducible exact nw5)|(with_reducible assumption)|(with_reducible apply ho)|(with_reducible apply hdr)|(with_reducible apply Grow.heap)|(with_reducible apply hrow)|(with_reducible apply hset)|(with_reducible apply hrow_other)|(with_reducible apply hset_other)|(go_simp;done)|omega))
     ·repeat' (first|(with_reducible exact Below.refl _ _)|(with_reducible assumption)|(with_reducible refine up_alloc ?_ _)|(with_reducible refine up ?_ _)|(with_reducible refine up_drew ?_)|(with_reducible refine up_row ?_ ?_ _)|(with_reducible refine up_set ?_ ?_ _)|((try dsimp only);first|omega|exact le_size|exact le_size1|exact le_size2|exact le_size3))
    case measure=>simp [intOf];omega
  ·obtain rfl:k=32:=by omega
   rw [byteCells_all] at h3
   clear r3 z3
   go_wp2_with (first|(refine wpList_load_row rfl 43 _ rfl _ rfl _ _ _ (.array 32 5) h3 (by kernel_rfl) rfl (by kernel_rfl) ?_)|(refine wpList_store_row rfl 43 _ _ rfl _ _ rfl rfl _ _ h2 (by kernel_rfl) rfl (byteCells_one _) ?_))
   refine bodyPost_ret (results_cell_row (ty:=43) rfl _ _ (w.heap.size+1) _ _ _ (.array 32 5) rfl (hrow h2) (by kernel_rfl) rfl (by kernel_rfl)) rfl ⟨rfl,?_⟩
   repeat' (first|(with_reducible exact Below.refl _ _)|(with_reducible assumption)|(with_reducible refine up_alloc ?_ _)|(with_reducible refine up ?_ _)|(with_reducible refine up_drew ?_)|(with_reducible refine up_row ?_ ?_ _)|(with_reducible refine up_set ?_ ?_ _)|((try dsimp only);first|omega|exact le_size|exact le_size1|exact le_size2|exact le_size3))
def fb (f:Nat→Nat):Nat→Nat
 | 0=>0
 | k+1=>fb f k+f k * 2 ^ (8 * k)
theorem fb_lt (f:Nat→Nat)(hf:∀ j,f j<256):∀ k,fb f k<2 ^ (8 * k)
 | 0=>by simp [fb]
 | k+1=>by
  have h:=fb_lt f hf k
  unfold fb
  rw [show 8 * (k+1)=8 * k+8 by omega,Nat.pow_add]
  have:(f k+1) * 2 ^ (8 * k)≤256 * 2 ^ (8 * k):=Nat.mul_le_mul_right _ (hf k)
  rw [Nat.add_mul] at this
  omega
theorem fb_bit (f:Nat→Nat)(hf:∀ j,f j<256)(k j:Nat):(fb f (k+1)).testBit j=if j<8 * k then (fb f k).testBit j else (f k).testBit (j - 8 * k):=by
 rw [fb,Nat.add_comm,Nat.mul_comm,Nat.testBit_two_pow_mul_add _ (fb_lt f hf k)]
theorem fb_lw_other (f:Nat→Nat)(hf:∀ j,f j<256)(q r i:Nat)(hr:r<8)(h:i≠q):lw (fb f (8 * q+r+1)) i=lw (fb f (8 * q+r)) i:=by
 apply Nat.eq_of_testBit_eq;intro j
 rw [lw_bit,lw_bit,fb_bit f hf]
 by_cases hj:j<64
 ·by_cases h':64 * i+j<8 * (8 * q+r)
  ·rw [if_pos h']
  ·rw [if_neg h',Nat.testBit_lt_two_pow (Nat.lt_of_lt_of_le (hf _) (show 256≤2 ^ (64 * i+j - 8 * (8 * q+r)) from Nat.pow_le_pow_right (show 0<2 by omega) (by omega:8≤_)))]
   rw [Nat.testBit_lt_two_pow (Nat.lt_of_lt_of_le (fb_lt f hf _) (Nat.pow_le_pow_right (by omega) (by omega)))]
 ·simp [hj]
theorem fb_lw_same (f:Nat→Nat)(hf:∀ j,f j<256)(q r:Nat)(hr:r<8):lw (fb f (8 * q+r+1)) q=lw (fb f (8 * q+r)) q ||| (f (8 * q+r) * 2 ^ (r * 8) % 2 ^ 64):=by
 apply Nat.eq_of_testBit_eq;intro j
 rw [lw_bit,fb_bit f hf,Nat.testBit_or,lw_bit,Nat.testBit_mod_two_pow,Nat.testBit_mul_two_pow]
 by_cases hj:j<64
 ·by_cases h':64 * q+j<8 * (8 * q+r)
  ·rw [if_pos h',decide_eq_false (by omega:¬j≥r * 8)];simp
  ·rw [if_neg h',decide_eq_true (by omega:j≥r * 8),Nat.testBit_lt_two_pow (x:=fb f (8 * q+r)) (Nat.lt_of_lt_of_le (fb_lt f hf _) (Nat.pow_le_pow_right (by omega) (by omega))),show 64 * q+j - 8 * (8 * q+r)=j - r * 8 by omega]
   simp
 ·simp [hj]
theorem index_bytes (f:Nat→Nat)(k:Nat)(hk:k<32)(w:World):(Instr.index 43 (.agg (byteCells f)) (.int .i64 (k:Int))).run Tryz.prog w=.ok (.int .u8 (f k:Nat)) w:=by
 have hu:Tryz.prog.underlying 43=some (.array 32 5):=by kernel_rfl
 have h1:¬((k:Int)<0∨(32:Int)≤k):=by omega
 have c:=byteCells_get f k hk
 simp [Instr.index,run_underlying hu,asIntOf,go_sem]
 rw [if_pos hk,c]
 rfl
set_option maxRecDepth 20000 in
set_option maxHeartbeats 4000000 in
theorem of_walk (f:Nat→Nat)(hf:∀ j,f j<256)(n:Nat)(hn:Hid (fb f 32=n))(w:World):Calls Tryz.prog 36 #[.agg (byteCells f)] w (Ret (num n) w):=by
 go_enter Tryz.func36,Tryz.ntmps36
 go_wp2_with (first|(refine wpList_load_row rfl 43 _ rfl _ rfl _ _ _ (.array 32 5) (ho (ho nw)) (by kernel_rfl) rfl (by kernel_rfl) ?_))
 go_loopw [7] (fun i wr=>∃ k:Nat,k≤32∧i=.int .i64 k∧wr.heap[w.heap.size+1]? = some (.cells #[.int .u64 0,.int .u64 0,.int .u64 0,.int .u64 0] 46)∧wr.heap[w.heap.size+1+1]? = some (.cells #[.int .u64 (limb (fb f k) 0),.int .u64 (limb (fb f k) 1),.int .u64 (limb (fb f k) 2),.int .u64 (limb (fb f k) 3)] 46)∧Below w.heap.size w wr)
  (fun i _=>32 - (intOf i).toNat)
 case atStart=>
  refine ⟨0,by omega,rfl,?_,?_,?_⟩
  ·(repeat' (first|(with_reducible exact nw)|(with_reducible exact nw1)|(with_reducible exact nw2)|(with_reducible exact nw3)|(with_reducible exact nw4)|(with_reducible exact nw5)|(with_reducible assumption)|(with_reducible apply ho)|(with_reducible apply hdr)|(with_reducible apply Grow.heap)|(with_reducible apply hrow)|(with_reducible apply hset)|(with_reducible apply hrow_other)|(with_reducible apply hset_other)|(go_simp;done)|omega))
  ·show _=some (Obj.cells #[.int .u64 (limb 0 0),.int .u64 (limb 0 1),.int .u64 (limb 0 2),.int .u64 (limb 0 3)] _)
   rw [show limb 0 0=0 from rfl,show limb 0 1=0 from rfl,show limb 0 2=0 from rfl,show limb 0 3=0 from rfl]
   (repeat' (first|(with_reducible exact nw)|(with_reducible exact nw1)|(with_reducible exact nw2)|(with_reducible exact nw3)|(with_reducible exact nw4)|(with_reducible exact nw5)|(with_reducible assumption)|(with_reducible apply ho)|(with_reducible apply hdr)|(with_reducible apply Grow.heap)|(with_reducible apply hrow)|(with_reducible apply hset)|(with_reducible apply hrow_other)|(with_reducible apply hset_other)|(go_simp;done)|omega))
  ·repeat' (first|(with_reducible exact Below.refl _ _)|(with_reducible assumption)|(with_reducible refine up_alloc ?_ _)|(with_reducible refine up ?_ _)|(with_reducible refine up_drew ?_)|(with_reducible refine up_row ?_ ?_ _)|(with_reducible refine up_set ?_ ?_ _)|((try dsimp only);first|omega|exact le_size|exact le_size1|exact le_size2|exact le_size3))
 case round=>
  obtain ⟨k,hk,rfl,h2,h3,hB⟩:=hrel
  have ⟨r3,z3,l3⟩:=rules h3
  have l2:=blk_lt h2
  have I2:LtSize (w.heap.size+1) wr:=⟨l2⟩
  have I3:LtSize (w.heap.size+1+1) wr:=⟨l3⟩
  by_cases hk':k<32
  ·have c:=byteCells_get f k hk'
   have f0:(0:Int)≤f k:=by omega
   have f1:(f k:Int)≤255:=by have:=hf k;omega
   obtain ⟨q,r,hr,hq4,hk0⟩:∃ q r,r<8∧q<4∧k=8 * q+r:=⟨k / 8,k % 8,Nat.mod_lt _ (by omega),by omega,(Nat.div_add_mod _ _).symm⟩
   have e2:(k:Int) % 8=r:=by omega
   have ix:=fun w=>index_bytes f k hk' w
   have hq:q=0∨q=1∨q=2∨q=3:=by omega
   have fin:bits .or .u64 (limb (fb f k) q) (IntKind.u64.wrap ((f k:Int) * 2 ^ (r * 8)))=limb (fb f (k+1)) q:=by
    rw [limb_lw,limb_lw,int_shl,int_or _ _ (lw_lt _ _) (up_lt _ _),hk0,fb_lw_same f hf q r hr]
   clear hq4
   rcases hq with rfl|rfl|rfl|rfl
   ·have e1:(k:Int) / 8=0:=by omega
    have o1:limb (fb f (k+1)) 1=limb (fb f k) 1:=by rw [limb_lw,limb_lw,hk0,fb_lw_other f hf 0 r 1 hr (by omega)]
    have o2:limb (fb f (k+1)) 2=limb (fb f k) 2:=by rw [limb_lw,limb_lw,hk0,fb_lw_other f hf 0 r 2 hr (by omega)]
    have o3:limb (fb f (k+1)) 3=limb (fb f k) 3:=by rw [limb_lw,limb_lw,hk0,fb_lw_other f hf 0 r 3 hr (by omega)]
    rw [←o1,←o2,←o3] at h3
    have e:=hset (i:=0) (v:=.int .u64 (limb (fb f (k+1)) 0)) h3
    simp only [List.setIfInBounds_toArray,List.set_cons_zero,List.set_cons_succ] at e
    clear hk0 h3 o1 o2 o3
    go_wp2_with fail
    go_roundw
    case rel=>
     refine ⟨k+1,by omega,by go_num,?_,?_,?_⟩
     ·(repeat' (first|(with_reducible exact nw)|(with_reducible exact nw1)|(with_reducible exact nw2)|(with_reducible exact nw3)|(with_reducible exact nw4)|(with_reducible exact nw5)|(with_reducible assumption)|(with_reducible apply ho)|(with_reducible apply hdr)|(with_reducible apply Grow.heap)|(with_reducible apply hrow)|(with_reducible apply hset)|(with_reducible apply hrow_other)|(with_reducible apply hset_other)|(go_simp;done)|omega))
     ·exact e
     ·repeat' (first|(with_reducible exact Below.refl _ _)|(with_reducible assumption)|(with_reducible refine up_alloc ?_ _)|(with_reducible refine up ?_ _)|(with_reducible refine up_drew ?_)|(with_reducible refine up_row ?_ ?_ _)|(with_reducible refine up_set ?_ ?_ _)|((try dsimp only);first|omega|exact le_size|exact le_size1|exact le_size2|exact le_size3))
    case measure=>simp [intOf];omega
   ·have e1:(k:Int) / 8=1:=by omega
    have o1:limb (fb f (k+1)) 0=limb (fb f k) 0:=by rw [limb_lw,limb_lw,hk0,fb_lw_other f hf 1 r 0 hr (by omega)]
    have o2:limb (fb f (k+1)) 2=limb (fb f k) 2:=by rw [limb_lw,limb_lw,hk0,fb_lw_other f hf 1 r 2 hr (by omega)]
    have o3:limb (fb f (k+1)) 3=limb (fb f k) 3:=by rw [limb_lw,limb_lw,hk0,fb_lw_other f hf 1 r 3 hr (by omega)]
    rw [←o1,←o2,←o3] at h3
    have e:=hset (i:=1) (v:=.int .u64 (limb (fb f (k+1)) 1)) h3
    simp only [List.setIfInBounds_toArray,List.set_cons_zero,List.set_cons_succ] at e
    clear hk0 h3 o1 o2 o3
    go_wp2_with fail
    go_roundw
    case rel=>
     refine ⟨k+1,by omega,by go_num,?_,?_,?_⟩
     ·(repeat' (first|(with_reducible exact nw)|(with_reducible exact nw1)|(with_reducible exact nw2)|(with_reducible exact nw3)|(with_reducible exact nw4)|(with_reducible exact nw5)|(with_reducible assumption)|(with_reducible apply ho)|(with_reducible apply hdr)|(with_reducible apply Grow.heap)|(with_reducible apply hrow)|(with_reducible apply hset)|(with_reducible apply hrow_other)|(with_reducible apply hset_other)|(go_simp;done)|omega))
     ·exact e
     ·repeat' (first|(with_reducible exact Below.refl _ _)|(with_reducible assumption)|(with_reducible refine up_alloc ?_ _)|(with_reducible refine up ?_ _)|(with_reducible refine up_drew ?_)|(with_reducible refine up_row ?_ ?_ _)|(with_reducible refine up_set ?_ ?_ _)|((try dsimp only);first|omega|exact le_size|exact le_size1|exact le_size2|exact le_size3))
    case measure=>simp [intOf];omega
   ·have e1:(k:Int) / 8=2:=by omega
    have o1:limb (fb f (k+1)) 0=limb (fb f k) 0:=by rw [limb_lw,limb_lw,hk0,fb_lw_other f hf 2 r 0 hr (by omega)]
    have o2:limb (fb f (k+1)) 1=limb (fb f k) 1:=by rw [limb_lw,limb_lw,hk0,fb_lw_other f hf 2 r 1 hr (by omega)]
    have o3:limb (fb f (k+1)) 3=limb (fb f k) 3:=by rw [limb_lw,limb_lw,hk0,fb_lw_other f hf 2 r 3 hr (by omega)]
    rw [←o1,←o2,←o3] at h3
    have e:=hset (i:=2) (v:=.int .u64 (limb (fb f (k+1)) 2)) h3
    simp only [List.setIfInBounds_toArray,List.set_cons_zero,List.set_cons_succ] at e
    clear hk0 h3 o1 o2 o3
    go_wp2_with fail
    go_roundw
    case rel=>
     refine ⟨k+1,by omega,by go_num,?_,?_,?_⟩
     ·(repeat' (first|(with_reducible exact nw)|(with_reducible exact nw1)|(with_reducible exact nw2)|(with_reducible exact nw3)|(with_reducible exact nw4)|(with_reducible exact nw5)|(with_reducible assumption)|(with_reducible apply ho)|(with_reducible apply hdr)|(with_reducible apply Grow.heap)|(with_reducible apply hrow)|(with_reducible apply hset)|(with_reducible apply hrow_other)|(with_reducible apply hset_other)|(go_simp;done)|omega))
     ·exact e
     ·repeat' (first|(with_reducible exact Below.refl _ _)|(with_reducible assumption)|(with_reducible refine up_alloc ?_ _)|(with_reducible refine up ?_ _)|(with_reducible refine up_drew ?_)|(with_reducible refine up_row ?_ ?_ _)|(with_reducible refine up_set ?_ ?_ _)|((try dsimp only);first|omega|exact le_size|exact le_size1|exact le_size2|exact le_size3))
    case measure=>simp [intOf];omega
   ·have e1:(k:Int) / 8=3:=by omega
    have o1:limb (fb f (k+1)) 0=limb (fb f k) 0:=by rw [limb_lw,limb_lw,hk0,fb_lw_other f hf 3 r 0 hr (by omega)]
    have o2:limb (fb f (k+1)) 1=limb (fb f k) 1:=by rw [limb_lw,limb_lw,hk0,fb_lw_other f hf 3 r 1 hr (by omega)]
    have o3:limb (fb f (k+1)) 2=limb (fb f k) 2:=by rw [limb_lw,limb_lw,hk0,fb_lw_other f hf 3 r 2 hr (by omega)]
    rw [←o1,←o2,←o3] at h3
    have e:=hset (i:=3) (v:=.int .u64 (limb (fb f (k+1)) 3)) h3
    simp only [List.setIfInBounds_toArray,List.set_cons_zero,List.set_cons_succ] at e
    clear hk0 h3 o1 o2 o3
    go_wp2_with fail
    go_roundw
    case rel=>
     refine ⟨k+1,by omega,by go_num,?_,?_,?_⟩
     ·(repeat' (first|(with_reducible exact nw)|(with_reducible exact nw1)|(with_reducible exact nw2)|(with_reducible exact nw3)|(with_reducible exact nw4)|(with_reducible exact nw5)|(with_reducible assumption)|(with_reducible apply ho)|(with_reducible apply hdr)|(with_reducible apply Grow.heap)|(with_reducible apply hrow)|(with_reducible apply hset)|(with_reducible apply hrow_other)|(with_reducible apply hset_other)|(go_simp;done)|omega))
     ·exact e
     ·repeat' (first|(with_reducible exact Below.refl _ _)|(with_reducible assumption)|(with_reducible refine up_alloc ?_ _)|(with_reducible refine up ?_ _)|(with_reducible refine up_drew ?_)|(with_reducible refine up_row ?_ ?_ _)|(with_reducible refine up_set ?_ ?_ _)|((try dsimp only);first|omega|exact le_size|exact le_size1|exact le_size2|exact le_size3))
    case measure=>simp [intOf];omega
  ·obtain rfl:k=32:=by omega
   clear r3 z3
   rw [hn.out] at h3
   go_wp2_with (first|(refine wpList_load_row rfl 46 _ rfl _ rfl _ _ _ (.array 4 44) h3 (by kernel_rfl) rfl (by kernel_rfl) ?_)|(refine wpList_store_row rfl 46 _ _ rfl _ _ rfl rfl _ _ h2 (by kernel_rfl) rfl (by simp [Value.oneCell']) ?_))
   refine bodyPost_ret (results_cell_row (ty:=46) rfl _ _ (w.heap.size+1) _ _ _ (.array 4 44) rfl (hrow h2) (by kernel_rfl) rfl (by kernel_rfl)) rfl ⟨rfl,?_⟩
   repeat' (first|(with_reducible exact Below.refl _ _)|(with_reducible assumption)|(with_reducible refine up_alloc ?_ _)|(with_reducible refine up ?_ _)|(with_reducible refine up_drew ?_)|(with_reducible refine up_row ?_ ?_ _)|(with_reducible refine up_set ?_ ?_ _)|((try dsimp only);first|omega|exact le_size|exact le_size1|exact le_size2|exact le_size3))
theorem of_all (f:Nat→Nat)(hf:∀ j,f j<256)(w:World):Calls Tryz.prog 36 #[.agg (byteCells f)] w (Ret (num (fb f 32)) w):=
 of_walk f hf _ (show Hid _ from rfl) w
end Go.Proofs.YtkendlnjaopbeaaGreatDoor
namespace Go.Proofs.YtkendlnjaopbeaaGreatDoor
open Go.RowKit
set_option linter.unusedVariables false
def bytesC (n:Nat):Array Value:=byteCells (byteN n)
abbrev bv (n:Nat):Value:=.agg (bytesC n)
theorem byteN_lt (a j:Nat):byteN a j<256:=Nat.mod_lt _ (by decide)
theorem bytesC_size (n:Nat):(bytesC n).size=32:=by unfold bytesC byteCells;simp
instance bytesC_cells (n:Nat):Cells (bytesC n) 32:=⟨bytesC_size n,byteCells_one _⟩
theorem bytesC_get (n k:Nat)(hk:k<32):(bytesC n)[k]? = some (.int .u8 (byteN n k:Nat)):=byteCells_get _ k hk
theorem byteCells_congr {f g:Nat→Nat}(h:∀ j,j<32→f j=g j):byteCells f=byteCells g:=by
 apply Array.ext_getElem?
 intro i
 by_cases hi:i<32
 ·rw [byteCells_get _ i hi,byteCells_get _ i hi,h i hi]
 ·rw [Array.getElem?_eq_none (by unfold byteCells;simp;omega),Array.getElem?_eq_none (by unfold byteCells;simp;omega)]
theorem bytesC_put (n n' k v:Nat)(hk:k<32)(hv:v=byteN n' k)(ho:∀ j,j<32→j≠k→byteN n j=byteN n' j):putC (bytesC n) k (.int .u8 (v:Nat))=bytesC n':=by
 unfold putC bytesC
 rw [byteCells_set _ k v hk]
 apply byteCells_congr
 intro j hj
 by_cases h:j=k
 ·rw [if_pos h,h,hv]
 ·rw [if_neg h,ho j hj h]
theorem fb_byteN (n:Nat):∀ k,fb (byteN n) k=n % 2 ^ (8 * k)
 | 0=>by unfold fb;rw [Nat.mul_zero,Nat.pow_zero,Nat.mod_one]
 | k+1=>by
  have ih:=fb_byteN n k
  apply Nat.eq_of_testBit_eq
  intro j
  rw [fb_bit _ (byteN_lt n),ih,Nat.testBit_mod_two_pow,Nat.testBit_mod_two_pow]
  split
  ·rename_i h
   rw [decide_eq_true (show j<8 * k from h),decide_eq_true (show j<8 * (k+1) by omega)]
  ·rename_i h
   unfold byteN
   rw [show (256:Nat)=2 ^ 8 from rfl,Nat.testBit_mod_two_pow,Nat.testBit_div_two_pow,show j - 8 * k+8 * k=j by omega]
   congr 1
   rw [decide_eq_decide]
   omega
theorem bytes_bv (a:Nat)(ha:a<T256)(w:World):Calls Tryz.prog 55 [nu a].toArray w (Ret (bv a) w):=by
 have:=bytes_all a ha w
 rw [nu_num] at this
 exact this
theorem of_bv (a:Nat)(ha:a<T256)(w:World):Calls Tryz.prog 36 [bv a].toArray w (Ret (nu a) w):=by
 have:=of_all (byteN a) (byteN_lt a) w
 rw [fb_byteN,nu_num,show 2 ^ (8 * 32)=T256 from T256_eq.symm,Nat.mod_eq_of_lt ha] at this
 exact this
theorem byteCells_bv (f:Nat→Nat)(hf:∀ j,f j<256):∃ n,n<T256∧byteCells f=bytesC n:=by
 refine ⟨fb f 32,by rw [T256_eq];exact fb_lt f hf 32,?_⟩
 apply byteCells_congr
 intro j hj
 apply Nat.eq_of_testBit_eq
 intro i
 unfold byteN
 rw [show (256:Nat)=2 ^ 8 from rfl,Nat.testBit_mod_two_pow,Nat.testBit_div_two_pow]
 have key:∀ k,j<k→i<8→(fb f k).testBit (i+8 * j)=(f j).testBit i:=by
  intro k
  induction k with
  | zero=>intro h;omega
  | succ k ih=>
   intro h hi
   rw [fb_bit f hf]
   by_cases hjk:j<k
   ·rw [if_pos (by omega)];exact ih hjk hi
   ·obtain rfl:j=k:=by omega
    rw [if_neg (by omega),show i+8 * j - 8 * j=i by omega]
 by_cases hi:i<8
 ·rw [decide_eq_true hi,Bool.true_and,key 32 hj hi]
 ·rw [decide_eq_false hi,Bool.false_and]
  exact Nat.testBit_lt_two_pow (Nat.lt_of_lt_of_le (hf j) (by
   rw [show (256:Nat)=2 ^ 8 from rfl];exact Nat.pow_le_pow_right (by decide) (by omega)))
attribute [irreducible] bytesC
end Go.Proofs.YtkendlnjaopbeaaGreatDoor
namespace Go.Proofs.YtkendlnjaopbeaaGreatDoor
open Go.RowKit
set_option linter.unusedVariables false
set_option linter.unusedSimpArgs false
set_option maxRecDepth 100000
def gf (p:List Nat)(i:Nat):Nat:=p.getD i 0
def fbl (p:List Nat):Nat:=fb (gf p) p.length
theorem gf_lt {n:Nat}{p:List Nat}(h:BL n p)(i:Nat):gf p i<256:=by
 unfold gf
 rw [List.getD_eq_getElem?_getD]
 cases hx:p[i]? with
 | none=>simp
 | some x=>exact h.by' x (List.mem_of_getElem? hx)
def lb (a:Nat):List Nat:=(List.range 32).map (byteN a)
theorem lb_len (a:Nat):(lb a).length=32:=by simp [lb]
theorem lb_ok (a:Nat):BL 32 (lb a):=⟨lb_len a,fun x hx=>by
 obtain ⟨j,_,rfl⟩:=List.mem_map.1 hx
 exact byteN_lt a j⟩
theorem lb_cells (a:Nat):bys (lb a)=byteCells (byteN a):=by
 unfold bys bl byteCells lb
 rw [List.map_map];rfl
instance (a:Nat):Cells (bys (lb a)) 32:=⟨(seg_bys (lb_len a)).size,(seg_bys (lb_len a)).one⟩
instance (a:Nat):SegL (bys (lb a)) 32:=seg_bys (lb_len a)
instance (a:Nat):BLc 32 (lb a):=⟨lb_ok a,by decide⟩
set_option exponentiation.threshold 600 in
theorem fbl_lt {n:Nat}{p:List Nat}(h:BL n p)(hn:n≤64):fbl p<T512:=by
 have h1:=fb_lt (gf p) (gf_lt h) p.length
 refine Nat.lt_of_lt_of_le h1 ?_
 rw [T512_eq]
 exact Nat.pow_le_pow_right (by decide) (by rw [h.len];omega)
theorem bytes_lb (a:Nat)(ha:a<T256)(w:World):Calls Tryz.prog 55 [nu a].toArray w (Ret (.agg (bys (lb a))) w):=by
 have:=bytes_all a ha w
 rw [nu_num,←lb_cells] at this
 exact this
theorem fb_put (f:Nat→Nat)(hf:∀ j,f j<256)(k:Nat)(hk:k<64) :
  putC (wideC (fb f k)) (k / 8) (.int .u64 (bits .or .u64 (limb (fb f k) (k / 8)) ((f k * 2 ^ (8 * (k % 8)):Nat):Int)))=wideC (fb f (k+1)):=by
 have hk0:8 * (k / 8)+k % 8=k:=Nat.div_add_mod k 8
 have hr:k % 8<8:=Nat.mod_lt _ (by omega)
 have hup:f k * 2 ^ (8 * (k % 8))<2 ^ 64:=by
  have h1:f k * 2 ^ (8 * (k % 8))<2 ^ 8 * 2 ^ (8 * (k % 8)):=Nat.mul_lt_mul_of_pos_right (hf k) (Nat.two_pow_pos _)
  rw [←Nat.pow_add] at h1
  exact Nat.lt_of_lt_of_le h1 (Nat.pow_le_pow_right (by decide) (by omega))
 refine wideC_put _ _ _ _ (by omega) ?_ fun i hi hne=>?_
 ·have:=fb_lw_same f hf (k / 8) (k % 8) hr
  rw [hk0,Nat.mul_comm (k % 8) 8,Nat.mod_eq_of_lt hup] at this
  rw [limb_lw,limb_lw,int_or _ _ (lw_lt _ _) (by simpa using hup),this]
 ·have:=fb_lw_other f hf (k / 8) (k % 8) i hr hne
  rw [hk0] at this
  rw [limb_lw,limb_lw,this]
set_option maxHeartbeats 8000000 in
theorem of_ok (w:World){u:Value}{c:Nat}{p:List Nat}(h:Cb w u c p)(hc:c≤64):Calls Tryz.prog 28 [u].toArray w (Ret (.tuple #[nu (slow (fbl p)),.int .i64 0]) w):=by
 haveI i0:=h.old
 have hl:=h.ok.len
 have RC:=reduceS (fbl p) (fbl_lt h.ok hc)
 have hby:=gf_lt h.ok
 have t1:decide ((c:Int)>64)=false:=decide_eq_false (by omega)
 have hE:fbl p=fb (gf p) c:=by unfold fbl;rw [hl]
 rw [hE] at RC ⊢
 have f0:fb (gf p) 0=0:=rfl
 have hput:=fun k hk=>fb_put (gf p) hby k hk
 have hgb:∀ k,k<c→(bl p)[k]? = some (.int .u8 ((gf p k:Nat):Int)):=fun k hk=>by simp [bl,gf,List.getD,show k<p.length by omega]
 generalize slow (fb (gf p) c)=R at *
 generalize gf p=f at *
 clear h hE hl
 refine fn_ret (N:=_) Tryz.func28 rfl Tryz.ntmps28 Tryz.results28 (by simp) ?_
 simp only [initS,Nat.reduceAdd,Nat.zero_add]
 repeat' (first|(refine wlS ?_)|(refine wlB ?_)|(refine wlNL ?_)|(refine wlE ?_)|(refine efSvao ?_;intro v oa ho)|(refine efZCnn ?_;intro n hn)|(refine efBnn ?_;intro n hn)|(refine efB ?_)|(refine efBS ?_)|(refine wl_skip rfl rfl ?_)|((with_reducible refine wc_seq ?_);intro K hK)|(refine auC ?_)|(refine wc_cond rfl (fun hc=>?_) (fun hc=>?_))|(refine wc_draw (by kernel_rfl) (by kernel_rfl) (by decide +kernel) ?_;intro w0 hw0 hm0;(try simp only [List.append_eq,List.cons_append,List.nil_append]))|(refine auP ?_)|((refine auR ?_);clear hK K)|(refine auR ?_)|((with_reducible refine hK _ _ ?_);clear hK K)|fail)
 rename_i n2 g2
 obtain ⟨n4,rfl⟩:∃ n4,n4=n:=⟨_,rfl⟩
 refine wc_loop (σ:=Nat) (fun k=>[(2,ptr n2),(4,ptr n4),(11,u),(12,.int .i64 (c:Int)),(13,.int .i64 (k:Int))])
  (fun k=>[(n4,(wideC (fb f k),130)),(n2,(numC 0,46))])
  (fun k=>k≤c) (fun k=>c - k) 0 (Nat.zero_le _) (Fits.of ⟨rfl,rfl,rfl,rfl,rfl,trivial⟩ (by rw [f0];exact SubL.refl _) rfl) ?_
 intro k hk
 by_cases hlt:k<c
 ·have t2:decide ((k:Int)<(c:Int))=true:=decide_eq_true (by omega)
  have t3:IntKind.i64.wrap ((k:Int)+1)=((k+1:Nat):Int):=by rw [wrap_i64 _ (by omega) (by omega)];omega
  have q1:IntKind.i64.wrap ((k:Int).tdiv 8)=((k / 8:Nat):Int):=by rw [Int.tdiv_eq_ediv_of_nonneg (by omega),wrap_i64 _ (by omega) (by omega)];omega
  have q2:(k:Int).tmod 8=((k % 8:Nat):Int):=by rw [Int.tmod_eq_emod_of_nonneg (by omega)];omega
  have q3:IntKind.i64.wrap (((k % 8:Nat):Int) * 8)=((8 * (k % 8):Nat):Int):=by rw [wrap_i64 _ (by omega) (by omega)];omega
  have q4:IntKind.u64.wrap ((8 * (k % 8):Nat):Int)=((8 * (k % 8):Nat):Int):=by rw [wrap_u64 _ (by omega) (by omega)]
  have hb8:=hby k
  have q5:IntKind.u64.wrap ((f k:Nat):Int)=((f k:Nat):Int):=by rw [wrap_u64 _ (by omega) (by omega)]
  have hup:f k * 2 ^ (8 * (k % 8))<2 ^ 64:=by
   have h1:f k * 2 ^ (8 * (k % 8))<2 ^ 8 * 2 ^ (8 * (k % 8)):=Nat.mul_lt_mul_of_pos_right hb8 (Nat.two_pow_pos _)
   rw [←Nat.pow_add] at h1
   exact Nat.lt_of_lt_of_le h1 (Nat.pow_le_pow_right (by decide) (by omega))
  have q6:IntKind.u64.wrap (((f k:Nat):Int) * 2 ^ (min ((8 * (k % 8):Nat):Int).toNat (IntKind.bits .u64)))=((f k * 2 ^ (8 * (k % 8)):Nat):Int):=by
   rw [show min ((8 * (k % 8):Nat):Int).toNat (IntKind.bits .u64)=8 * (k % 8) by show min _ 64=_;omega,int_shl,Nat.mod_eq_of_lt hup]
  have j1:(k:Int)<(c:Int):=by omega
  have j2:((k / 8:Nat):Int)<((8:Nat):Int):=by omega
  have hp:0+((k / 8:Nat):Int).toNat * 1=k / 8:=by omega
  have gb:=hgb k hlt
  have gw:=wideC_get (fb f k) (k / 8) (by omega)
  have pw:=hput k (by omega)
  clear hgb hput RC f0 hby hup
  repeat' (first|(refine wlS ?_)|(refine wlB ?_)|(refine wlE ?_)|(refine efSvao ?_;intro v oa ho)|(refine efBnn ?_;intro n hn)|(refine efB ?_)|(refine efBS ?_)|(refine wl_skip rfl rfl ?_)|((with_reducible refine wc_seq ?_);intro K hK)|(refine auC ?_)|(refine wc_cond rfl (fun hc=>?_) (fun hc=>?_))|(refine wc_draw (by kernel_rfl) (by kernel_rfl) (by decide +kernel) ?_;intro w0 hw0 hm0;(try simp only [List.append_eq,List.cons_append,List.nil_append]))|(refine auP ?_)|((refine auR ?_);clear hK K)|(refine auR ?_)|((with_reducible refine hK _ _ ?_);clear hK K)|fail)
  exact ⟨k+1,hlt,by omega,Fits.of ⟨rfl,rfl,rfl,rfl,rfl,trivial⟩ (SubL.refl _) rfl⟩
 ·obtain rfl:k=c:=by omega
  have t2:decide ((k:Int)<(k:Int))=false:=decide_eq_false (by omega)
  clear hgb hput hby f0
  repeat' (first|(refine wlS ?_)|(refine wlB ?_)|((with_reducible refine sel_call ?_);refine wl_rd rfl rfl (rd_call rfl rfl rfl (fun w hm=>by with_reducible exact RC w)) ?_)|(refine wlE ?_)|(refine efSvao ?_;intro v oa ho)|(refine efBnn ?_;intro n hn)|(refine efB ?_)|(refine efBS ?_)|(refine wl_skip rfl rfl ?_)|((with_reducible refine wc_seq ?_);intro K hK)|(refine auC ?_)|(refine wc_cond rfl (fun hc=>?_) (fun hc=>?_))|(refine wc_draw (by kernel_rfl) (by kernel_rfl) (by decide +kernel) ?_;intro w0 hw0 hm0;(try simp only [List.append_eq,List.cons_append,List.nil_append]))|(refine auP ?_)|((refine auR ?_);clear hK K)|(refine auR ?_)|((with_reducible refine hK _ _ ?_);clear hK K)|fail)
  first|refine end_ret (ResP.cell rfl ld_whole (ResP.tmp rfl ResP.nil)) ?_|refine end_normal (ResP.cell rfl ld_whole (ResP.tmp rfl ResP.nil)) ?_
  first|rfl|(show _=_;rfl)|(simp only [tupV, *];done)
end Go.Proofs.YtkendlnjaopbeaaGreatDoor
namespace Go.Proofs.YtkendlnjaopbeaaGreatDoor
open Go.RowKit
attribute [local irreducible] rwA bys iw
set_option linter.unusedVariables false
set_option linter.unusedSimpArgs false
set_option maxRecDepth 100000
def dgH (c i:Nat)(p:List Nat):List Nat:=((newH.write [c,i]).write p).sum
def dgN (c:Nat)(p:List Nat):Nat:=slow (fbl (dgH c 0 p++dgH c 1 p))
theorem dgN_L (c:Nat)(p:List Nat):dgN c p<SLn:=slow_L _
theorem dgN_lt (c:Nat)(p:List Nat):dgN c p<T256:=slow_lt _
theorem two_by {c i:Nat}(hc:c<256)(hi:i<256):ByL [c,i]:=⟨fun x hx=>by
 simp only [List.mem_cons,List.not_mem_nil,or_false] at hx
 rcases hx with rfl|rfl <;> assumption⟩
set_option maxHeartbeats 4000000 in
theorem dgn_c (w:World)(hT:Tab w)(w':World)(hb:Below w.heap.size w w')(c:Nat)(hc:c<256){v:Value}{n:Nat}{p:List Nat}(hq:Cb w' v n p) :
  Calls Tryz.prog 20 [.int .u8 (c:Int),v].toArray w' (Ret (nu (dgN c p)) w'):=by
 have NW:=new_c
 have WG:=write_g w' (hT.below hb)
 have SG:=sum_g w' (hT.below hb)
 have i1:=hq.old
 haveI:ByL p:=⟨hq.ok.by'⟩
 haveI:ByL [c,0]:=two_by hc (by decide)
 haveI:ByL [c,1]:=two_by hc (by decide)
 haveI b0:BLc 32 (dgH c 0 p):=⟨⟨sum_len (st:=(newH.write [c,0]).write p) HSo.out,ByL.out (p:=((newH.write [c,0]).write p).sum)⟩,by decide⟩
 haveI b1:BLc 32 (dgH c 1 p):=⟨⟨sum_len (st:=(newH.write [c,1]).write p) HSo.out,ByL.out (p:=((newH.write [c,1]).write p).sum)⟩,by decide⟩
 have OF:∀ {u:Value} w'',Cb w'' u (32+32) (dgH c 0 p++dgH c 1 p)→Calls Tryz.prog 28 [u].toArray w'' (Ret (.tuple #[nu (dgN c p),.int .i64 0]) w''):=fun w'' h=>of_ok w'' h (by decide)
 have e0:dgH c 0 p=((newH.write [c,0]).write p).sum:=rfl
 have e1:dgH c 1 p=((newH.write [c,1]).write p).sum:=rfl
 rw [e0,e1] at OF
 rw [e0] at b0
 rw [e1] at b1
 clear e0 e1 hT hb hq
 generalize dgN c p=R at *
 refine fn_ret (N:=_) Tryz.func20 rfl Tryz.ntmps20 Tryz.results20 (by simp) ?_
 simp only [initS,Nat.reduceAdd,Nat.zero_add]
 repeat' (first|(refine wlS ?_)|(refine wlB ?_)|((with_reducible refine sel_call ?_);refine wl_rd rfl rfl (rd_call rfl rfl rfl (fun w hm=>by with_reducible first|exact NW w|exact WG w (hm.below rfl) (VwB.out w hm)|exact SG w (hm.below rfl)|exact OF w (VwB.out w hm))) ?_)|(refine wlE ?_)|(refine efSvvp ?_;intro v hv hp)|(refine efSvao ?_;intro v oa ho)|(refine efAFvao ?_;intro v oa ho)|(refine efZCnn ?_;intro n hn)|(refine efBnn ?_;intro n hn)|(refine efB ?_)|(refine efBS ?_)|(refine wl_skip rfl rfl ?_)|((with_reducible refine wc_seq ?_);intro K hK)|(refine auC ?_)|(refine wc_cond rfl (fun hc=>?_) (fun hc=>?_))|((with_reducible refine wc_drawT (by kernel_rfl) ?_);(try simp only [List.append_eq,List.cons_append,List.nil_append,List.length_cons,List.length_nil,Nat.reduceAdd]))|((with_reducible refine sel_wh ?_);(refine wh_if (by decide +kernel) ?_);first|(refine wh_take (lq:=[]) rfl rfl rfl rfl (by first|exact rvS|exact rvB|exact rvE) (Or.inl rfl) ?_)|(refine wh_takeL rfl rfl rfl rfl (by first|exact rvS|exact rvB|exact rvE) (by decide +kernel) ?_))|(refine whS ?_;intro v hv hp)|((with_reducible refine sel_wh ?_);first|(refine wh_pass rfl rfl rfl rfl ?_)|(refine wh_done rfl ?_)|(refine wh_all rfl ?_))|((with_reducible refine sel_rest ?_);first|exact rest_nil rfl|refine rest_cons rfl rfl ?_ ?_)|((with_reducible refine sel_nx ?_);first|refine next_of ?_|refine next_late (by decide +kernel) ?_)|(refine auP ?_)|((refine auR ?_);clear hK K)|(refine auR ?_)|((with_reducible refine hK _ _ ?_);clear hK K)|fail)
 all_goals (first|refine end_ret (ResP.cell rfl ld_whole ResP.nil) ?_|refine end_normal (ResP.cell rfl ld_whole ResP.nil) ?_)
 all_goals (first|rfl|(show _=_;rfl)|(simp only [tupV, *];done))
end Go.Proofs.YtkendlnjaopbeaaGreatDoor
namespace Go.Proofs.YtkendlnjaopbeaaGreatDoor
def PP:Nat:=57896044618658097711785492504343953926634992332820282019728792003956564819949
theorem PP_T:T256=2 * PP+38:=by decide +kernel
theorem PP_pos:38<PP:=by decide +kernel
def sinkP (a:Nat):Nat→Nat
 | 0=>a
 | i+1=>if PP≤sinkP a i then sinkP a i - PP else sinkP a i
theorem sinkP_lt {a:Nat}(ha:a<T256):∀ i,sinkP a i<T256
 | 0=>ha
 | i+1=>by have:=sinkP_lt ha i;unfold sinkP;split <;> omega
theorem sinkP_two {a:Nat}(ha:a<T256):sinkP a 2=a % PP:=by
 have h1:=PP_T
 have h2:=PP_pos
 have e:sinkP a 2=if PP≤sinkP a 1 then sinkP a 1 - PP else sinkP a 1:=rfl
 have e1:sinkP a 1=if PP≤a then a - PP else a:=rfl
 generalize PP=p at *
 rw [e,e1]
 by_cases k1:p≤a
 ·rw [if_pos k1]
  by_cases k2:p≤a - p
  ·rw [if_pos k2,Nat.mod_eq_sub_mod k1,Nat.mod_eq_sub_mod k2,Nat.mod_eq_of_lt (by omega)]
  ·rw [if_neg k2,Nat.mod_eq_sub_mod k1,Nat.mod_eq_of_lt (by omega)]
 ·rw [if_neg k1,if_neg k1,Nat.mod_eq_of_lt (by omega)]
end Go.Proofs.YtkendlnjaopbeaaGreatDoor
namespace Go.Proofs.YtkendlnjaopbeaaGreatDoor
def flow (a:Nat):Nat:=a % PP
def fadd (a b:Nat):Nat:=(a+b) % PP
def fmul (a b:Nat):Nat:=a * b % PP
def fsub (a b:Nat):Nat:=(a % PP+PP - b % PP) % PP
def fpow (a n:Nat):Nat:=a ^ n % PP
theorem PP_lt:PP<T256:=by decide +kernel
theorem flow_P (a:Nat):flow a<PP:=Nat.mod_lt _ (by decide)
theorem fadd_P (a b:Nat):fadd a b<PP:=Nat.mod_lt _ (by decide)
theorem fmul_P (a b:Nat):fmul a b<PP:=Nat.mod_lt _ (by decide)
theorem fsub_P (a b:Nat):fsub a b<PP:=Nat.mod_lt _ (by decide)
theorem fpow_P (a b:Nat):fpow a b<PP:=Nat.mod_lt _ (by decide)
theorem flow_lt (a:Nat):flow a<T256:=Nat.lt_trans (flow_P a) PP_lt
instance {a:Nat}:SmT (flow a):=⟨flow_lt _⟩
theorem fadd_lt (a b:Nat):fadd a b<T256:=Nat.lt_trans (fadd_P a b) PP_lt
instance {a b:Nat}:SmT (fadd a b):=⟨fadd_lt _ _⟩
theorem fmul_lt (a b:Nat):fmul a b<T256:=Nat.lt_trans (fmul_P a b) PP_lt
instance {a b:Nat}:SmT (fmul a b):=⟨fmul_lt _ _⟩
theorem fsub_lt (a b:Nat):fsub a b<T256:=Nat.lt_trans (fsub_P a b) PP_lt
instance {a b:Nat}:SmT (fsub a b):=⟨fsub_lt _ _⟩
theorem fpow_lt (a b:Nat):fpow a b<T256:=Nat.lt_trans (fpow_P a b) PP_lt
theorem flow_of {a:Nat}(h:a<PP):flow a=a:=Nat.mod_eq_of_lt h
theorem fadd_comm (a b:Nat):fadd a b=fadd b a:=by unfold fadd;rw [Nat.add_comm]
theorem fmul_comm (a b:Nat):fmul a b=fmul b a:=by unfold fmul;rw [Nat.mul_comm]
theorem fadd_assoc (a b c:Nat):fadd (fadd a b) c=fadd a (fadd b c):=by
 unfold fadd;rw [Nat.mod_add_mod,Nat.add_mod_mod,Nat.add_assoc]
theorem fmul_add (a b c:Nat):fmul a (fadd b c)=fadd (fmul a b) (fmul a c):=by
 unfold fmul fadd;rw [Nat.mul_mod_mod,Nat.mod_add_mod,Nat.add_mod_mod,Nat.mul_add]
theorem fmul_one (a:Nat):fmul a 1=flow a:=by unfold fmul flow;rw [Nat.mul_one]
theorem fsub_add (a b:Nat):fadd (fsub a b) b=flow a:=by
 unfold fadd fsub flow
 have h:=Nat.mod_lt b (show 0<PP by decide)
 have e:=Nat.mod_add_div b PP
 rw [Nat.mod_add_mod]
 generalize PP=p at *
 generalize b / p=q at *
 generalize b % p=r at *
 rw [show a % p+p - r+b=a % p+p+p * q by omega,show a % p+p+p * q=a % p+p * (1+q) by rw [Nat.mul_add,Nat.mul_one,Nat.add_assoc],Nat.add_mul_mod_self_left,Nat.mod_mod]
theorem flow_def (a:Nat):flow a=a % PP:=rfl
theorem fadd_def (a b:Nat):fadd a b=(a+b) % PP:=rfl
theorem fmul_def (a b:Nat):fmul a b=a * b % PP:=rfl
theorem fsub_def (a b:Nat):fsub a b=(a % PP+PP - b % PP) % PP:=rfl
theorem fpow_def (a n:Nat):fpow a n=a ^ n % PP:=rfl
attribute [irreducible] flow fadd fmul fsub fpow
end Go.Proofs.YtkendlnjaopbeaaGreatDoor
namespace Go.Proofs.YtkendlnjaopbeaaGreatDoor
theorem fpow_zero (a:Nat):fpow a 0=1:=by simp only [fpow_def];rw [Nat.pow_zero];decide +kernel
theorem fpow_add (a m n:Nat):fpow a (m+n)=fmul (fpow a m) (fpow a n):=by
 simp only [fpow_def,fmul_def];rw [Nat.mod_mul_mod,Nat.mul_mod_mod,Nat.pow_add]
theorem fpow_one (a:Nat):fpow a 1=flow a:=by simp only [fpow_def,flow_def];rw [Nat.pow_one]
theorem fmul_flow_right (a b:Nat):fmul a (flow b)=fmul a b:=by simp only [fmul_def,flow_def];rw [Nat.mul_mod_mod]
theorem fmul_flow_left (a b:Nat):fmul (flow a) b=fmul a b:=by simp only [fmul_def,flow_def];rw [Nat.mod_mul_mod]
theorem fpow_flow (a n:Nat):fpow (flow a) n=fpow a n:=by simp only [fpow_def,flow_def];rw [←Nat.pow_mod]
theorem fpow_even (a m:Nat):fpow a (2 * m)=fmul (fpow a m) (fpow a m):=by rw [Nat.two_mul,fpow_add]
theorem fpow_odd (a m:Nat):fpow a (2 * m+1)=fmul (fmul (fpow a m) (fpow a m)) a:=by
 rw [fpow_add,fpow_even,fpow_one,fmul_flow_right]
theorem fpow_top (a n:Nat):fpow a (n / 2 ^ blen n)=1:=by
 rw [Nat.div_eq_of_lt (blen_le.1 (Nat.le_refl _)),fpow_zero]
theorem fpow_bit (a n j:Nat):fpow a (n / 2 ^ j)=if n / 2 ^ j % 2=1 then fmul (fmul (fpow a (n / 2 ^ (j+1))) (fpow a (n / 2 ^ (j+1)))) a else fmul (fpow a (n / 2 ^ (j+1))) (fpow a (n / 2 ^ (j+1))):=by
 have e:n / 2 ^ (j+1)=n / 2 ^ j / 2:=by rw [Nat.pow_succ,Nat.div_div_eq_div_mul]
 rw [e]
 generalize n / 2 ^ j=m
 split
 ·rename_i h
  rw [←fpow_odd,show 2 * (m / 2)+1=m by omega]
 ·rename_i h
  rw [←fpow_even,show 2 * (m / 2)=m by omega]
def E1:Nat:=7237005577332262213973186563042994240829374041602535252466099000494570602494
def E2:Nat:=14474011154664524427946373126085988481658748083205070504932198000989141204987
def finv (a:Nat):Nat:=fpow a (PP - 2)
def rootA (a:Nat):Nat:=fpow a E1
def rootB (a:Nat):Nat:=if fmul (rootA a) (rootA a)=flow a then rootA a else fmul (rootA a) (fpow 2 E2)
def isSq (a:Nat):Bool:=decide (fmul (rootB a) (rootB a)=flow a)
def rootC (a:Nat):Nat:=if rootB a % 2=1 then fsub 0 (rootB a) else rootB a
def froot (a:Nat):Nat:=if isSq a=true then rootC a else 0
theorem rootB_lt (a:Nat):rootB a<T256:=by unfold rootB rootA;split;exact fpow_lt _ _;exact fmul_lt _ _
theorem rootB_P (a:Nat):rootB a<PP:=by unfold rootB rootA;split;exact fpow_P _ _;exact fmul_P _ _
theorem rootC_P (a:Nat):rootC a<PP:=by unfold rootC;split;exact fsub_P _ _;exact rootB_P _
theorem froot_P (a:Nat):froot a<PP:=by unfold froot;split;exact rootC_P _;decide
theorem finv_lt (a:Nat):finv a<T256:=fpow_lt _ _
instance {a:Nat}:SmT (finv a):=⟨finv_lt _⟩
theorem froot_lt (a:Nat):froot a<T256:=Nat.lt_trans (froot_P a) PP_lt
end Go.Proofs.YtkendlnjaopbeaaGreatDoor
namespace Go.Proofs.YtkendlnjaopbeaaGreatDoor
def DD:Nat:=37095705934669439343138083508754565189542113879843219016388785533085940283555
def BX:Nat:=15112221349535400772501151409588531511454012693041857206046113283949847762202
def BY:Nat:=46316835694926478169428394003475163141307993866256225615783033603165251855960
structure Qd where
 x:Nat
 y:Nat
 z:Nat
 t:Nat
structure Pt where
 x:Nat
 y:Nat
deriving DecidableEq
def Qd.lt (q:Qd):Prop:=q.x<T256∧q.y<T256∧q.z<T256∧q.t<T256
def Pt.lt (p:Pt):Prop:=p.x<T256∧p.y<T256
def Qd.plus (q r:Qd):Qd:=
 let a:=fmul (fsub q.y q.x) (fsub r.y r.x)
 let b:=fmul (fadd q.y q.x) (fadd r.y r.x)
 let c0:=fmul (fmul q.t r.t) DD
 let c:=fadd c0 c0
 let z0:=fmul q.z r.z
 let z:=fadd z0 z0
 let e:=fsub b a
 let f:=fsub z c
 let g:=fadd z c
 let h:=fadd b a
 ⟨fmul e f,fmul g h,fmul f g,fmul e h⟩
def Pt.quad (p:Pt):Qd:=⟨p.x,p.y,1,fmul p.x p.y⟩
def Qd.point (q:Qd):Pt:=⟨fmul q.x (finv q.z),fmul q.y (finv q.z)⟩
def Pt.zero:Pt:=⟨0,1⟩
def Pt.base:Pt:=⟨BX,BY⟩
def Pt.eqn (p:Pt):Prop:=fsub (fmul p.y p.y) (fmul p.x p.x)=fadd 1 (fmul DD (fmul (fmul p.x p.x) (fmul p.y p.y)))
instance (p:Pt):Decidable p.eqn:=by unfold Pt.eqn;infer_instance
def Pt.on (p:Pt):Prop:=p.x=flow p.x∧p.y=flow p.y∧p.eqn
instance (p:Pt):Decidable p.on:=by unfold Pt.on;infer_instance
def Pt.add (p q:Pt):Pt:=(p.quad.plus q.quad).point
def Qd.rep (q:Qd)(n:Nat):Nat→Qd
 | 0=>Pt.zero.quad
 | k+1=>let o:=(q.rep n k).plus (q.rep n k);if n / 2 ^ (blen n - (k+1)) % 2=1 then o.plus q else o
def Pt.times (n:Nat)(p:Pt):Pt:=(p.quad.rep n (blen n)).point
theorem Qd.plus_lt (q r:Qd):(q.plus r).lt:=⟨fmul_lt _ _,fmul_lt _ _,fmul_lt _ _,fmul_lt _ _⟩
theorem Pt.quad_lt {p:Pt}(h:p.lt):p.quad.lt:=⟨h.1,h.2,by show 1<T256;decide,fmul_lt _ _⟩
theorem Pt.zero_lt:Pt.zero.lt:=⟨by decide,by decide⟩
theorem Qd.rep_lt {q:Qd}(n k:Nat):(q.rep n k).lt:=by
 cases k with
 | zero=>exact Pt.quad_lt Pt.zero_lt
 | succ k=>unfold Qd.rep;dsimp only;split <;> exact Qd.plus_lt _ _
theorem DD_lt:DD<T256:=by decide
end Go.Proofs.YtkendlnjaopbeaaGreatDoor
namespace Go.Proofs.YtkendlnjaopbeaaGreatDoor
def fmS (W i:Nat):Nat:=W % 2 ^ (64 * i)+38 * (W / T256 % 2 ^ (64 * i))
def fmO (W i:Nat):Nat:=fmS W i % 2 ^ (64 * i)
def fmC (W i:Nat):Nat:=fmS W i / 2 ^ (64 * i)
theorem fm_zero (W:Nat):fmO W 0=0∧fmC W 0=0:=by
 have:fmS W 0=0:=by unfold fmS;rw [Nat.mul_zero,Nat.pow_zero,Nat.mod_one,Nat.mod_one]
 unfold fmO fmC;rw [this];simp
theorem lw_hi (W i:Nat):lw (W / T256) i=lw W (i+4):=by
 unfold lw
 rw [T256_eq,Nat.div_div_eq_div_mul,←Nat.pow_add,show 256+64 * i=64 * (i+4) by omega]
theorem mod_step (W i:Nat):W % 2 ^ (64 * (i+1))=W % 2 ^ (64 * i)+2 ^ (64 * i) * lw W i:=by
 unfold lw
 rw [show 64 * (i+1)=64 * i+64 by omega,Nat.pow_add,Nat.mod_mul]
theorem fmS_succ (W i:Nat):fmS W (i+1)=fmS W i+2 ^ (64 * i) * (lw W i+38 * lw W (i+4)):=by
 unfold fmS
 rw [mod_step,mod_step,lw_hi]
 simp only [Nat.mul_add,Nat.mul_left_comm 38]
 omega
theorem fmC_lt (W i:Nat):fmC W i<39:=by
 unfold fmC fmS
 have h0:0<2 ^ (64 * i):=Nat.pow_pos (by omega)
 have h1:=Nat.mod_lt W h0
 have h2:=Nat.mod_lt (W / T256) h0
 rw [Nat.div_lt_iff_lt_mul h0]
 omega
theorem fm_step {W i A B lo c:Nat}(hA:A=lw W (i+4))(hB:B=lw W i)(h:A * 38+B+fmC W i=lo+18446744073709551616 * c)(hlo:lo<18446744073709551616) :
  fmC W (i+1)=c∧fmO W (i+1)=fmO W i+2 ^ (64 * i) * lo:=by
 have e:=fmS_succ W i
 have d:=Nat.mod_add_div (fmS W i) (2 ^ (64 * i))
 have h0:0<2 ^ (64 * i):=Nat.pow_pos (by omega)
 have hm:=Nat.mod_lt (fmS W i) h0
 rw [←hA,←hB] at e
 have e2:fmS W (i+1)=fmO W i+2 ^ (64 * i) * (lo+18446744073709551616 * c):=by
  rw [e,←h]
  unfold fmO fmC
  rw [←hA.symm.symm] at *
  conv=>lhs;rw [←d]
  rw [Nat.add_assoc,←Nat.mul_add]
  congr 2
  omega
 have e3:(2:Nat) ^ (64 * (i+1))=2 ^ (64 * i) * 18446744073709551616:=by rw [show 64 * (i+1)=64 * i+64 by omega,Nat.pow_add]
 have e4:fmS W (i+1)=(fmO W i+2 ^ (64 * i) * lo)+2 ^ (64 * (i+1)) * c:=by
  rw [e2,e3,Nat.mul_add,Nat.add_assoc,Nat.mul_assoc]
 have hlt:fmO W i+2 ^ (64 * i) * lo<2 ^ (64 * (i+1)):=by
  rw [e3]
  have hm':fmO W i<2 ^ (64 * i):=hm
  have:2 ^ (64 * i) * lo+2 ^ (64 * i)≤2 ^ (64 * i) * 18446744073709551616:=by
   rw [←Nat.mul_succ];exact Nat.mul_le_mul_left _ hlo
  omega
 constructor
 ·unfold fmC;rw [e4,Nat.add_mul_div_left _ _ (Nat.pow_pos (by omega)),Nat.div_eq_of_lt hlt,Nat.zero_add]
 ·unfold fmO;rw [e4,Nat.add_mul_mod_self_left,Nat.mod_eq_of_lt hlt];rfl
theorem fmO_lt (W i:Nat):fmO W i<2 ^ (64 * i):=Nat.mod_lt _ (Nat.pow_pos (by omega))
theorem limb_top (x i lo:Nat)(hx:x<2 ^ (64 * i))(hlo:lo<18446744073709551616) :
  ((lo:Nat):Int)=limb (x+2 ^ (64 * i) * lo) i∧∀ k,k≠i→limb x k=limb (x+2 ^ (64 * i) * lo) k:=by
 have h0:0<2 ^ (64 * i):=Nat.pow_pos (by omega)
 refine ⟨?_,fun k hk=>?_⟩
 ·unfold limb
  rw [Nat.add_mul_div_left _ _ h0,Nat.div_eq_of_lt hx,Nat.zero_add,Nat.mod_eq_of_lt hlo]
 ·unfold limb
  congr 1
  rcases Nat.lt_or_gt_of_ne hk with h|h
  ·obtain ⟨d,rfl⟩:∃ d,i=k+1+d:=⟨i - (k+1),by omega⟩
   have e:(2:Nat) ^ (64 * (k+1+d)) * lo=2 ^ (64 * k) * (18446744073709551616 * (2 ^ (64 * d) * lo)):=by
    rw [show 64 * (k+1+d)=64 * k+(64+64 * d) by omega,Nat.pow_add,Nat.pow_add,Nat.mul_assoc,Nat.mul_assoc]
   rw [e,Nat.add_mul_div_left _ _ (Nat.pow_pos (by omega)),Nat.add_mul_mod_self_left]
  ·obtain ⟨d,rfl⟩:∃ d,k=i+1+d:=⟨k - (i+1),by omega⟩
   have e:(2:Nat) ^ (64 * i) * 18446744073709551616≤2 ^ (64 * (i+1+d)):=by
    rw [show 64 * (i+1+d)=64 * i+(64+64 * d) by omega,Nat.pow_add,Nat.pow_add]
    exact Nat.mul_le_mul_left _ (Nat.le_mul_of_pos_right _ (Nat.pow_pos (by omega)))
   have h1:2 ^ (64 * i) * lo+2 ^ (64 * i)≤2 ^ (64 * i) * 18446744073709551616:=by
    rw [←Nat.mul_succ];exact Nat.mul_le_mul_left _ hlo
   have h2:2 ^ (64 * i)≤2 ^ (64 * i) * 18446744073709551616:=Nat.le_mul_of_pos_right _ (by omega)
   rw [Nat.div_eq_of_lt (by omega),Nat.div_eq_of_lt (by omega)]
theorem fm_fold {T p x c S:Nat}(hT:T=2 * p+38)(hS:S=x+T * c):(x+38 * c) % p=S % p:=by
 rw [hS,hT,show x+(2 * p+38) * c=(x+38 * c)+p * (2 * c) by rw [Nat.add_mul];simp only [Nat.mul_assoc,Nat.mul_left_comm p 2];omega,Nat.add_mul_mod_self_left]
theorem fm_end (W:Nat)(hW:W<T512):fmS W 4 % PP=W % PP∧fmS W 4=fmO W 4+T256 * fmC W 4:=by
 have e:fmS W 4=W % T256+38 * (W / T256):=by
  unfold fmS
  have h:W / T256<T256:=Nat.div_lt_of_lt_mul hW
  rw [show 2 ^ (64 * 4)=T256 from T256_eq.symm,Nat.mod_eq_of_lt h]
 refine ⟨?_,?_⟩
 ·rw [e,fm_fold PP_T (S:=W) (Nat.mod_add_div W T256).symm]
 ·have h:=(Nat.mod_add_div (fmS W 4) T256).symm
  unfold fmO fmC
  rw [show 2 ^ (64 * 4)=T256 from T256_eq.symm]
  exact h
end Go.Proofs.YtkendlnjaopbeaaGreatDoor
