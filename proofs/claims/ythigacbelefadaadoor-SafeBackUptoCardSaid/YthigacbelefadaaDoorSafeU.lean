/- The package safe,walked: Unpack. -/
import Derived.Test.YthigacbelefadaaDoorJnAJ
import Derived.Test.YthigacbelefadaaDoorJnAK
namespace Go.Proofs.YthigacbelefadaaDoor
open Go.RowKit
attribute [local irreducible] rwA bys iw blkD byteD MS.sum MS.write
set_option linter.unusedVariables false
set_option linter.unusedSimpArgs false
set_option maxRecDepth 100000
structure UnS where
 i:Nat
 b:Bool
 pl:Nat
 m1:List Nat
 z1:Nat
 m2:List Nat
 z2:Nat
 nx:Int
 v:Option Addr×Nat×Nat
 l:List He
 oa:Blks
abbrev UnS.val (x:UnS):Value:=.slice x.v.1 x.v.2.1 x.v.2.2
structure UnS.Good (P:List (Nat×List Nat))(x:UnS):Prop where
 four:4≤P.length
 each:∀ j y,j<x.i→P[j]? = some y→itOk j y
 pl:0<x.i→x.pl=unPl P
 l1:1<x.i→x.m1=unM P 1∧x.z1=unZ P 1
 l2:2<x.i→x.m2=unM P 2∧x.z2=unZ P 2
 nx:3<x.i→x.nx=(unNx P:Int)
 hs:x.l.map absH=((P.take x.i).drop 4).map fun y=>hdO y.2
structure UnS.Ok (P:List (Nat×List Nat))(x:UnS):Prop where
 le:x.i≤P.length
 b1:NBy x.m1 32∧ByL x.m1
 b2:NBy x.m2 32∧ByL x.m2
 own:∃ oo ob,x.oa=oo++ob∧OwnL 49 3 x.val x.l.length (hesC x.l) oo∧BodH (Hd ob) x.l
 few:x.l.length≤x.i
 pl:x.pl<18446744073709551616
 bad:x.b=true→¬KForm P
 good:x.b=false→x.Good P
theorem lkM_by {p:List Nat}(h:∀ x∈p,x<256):ByL (lkM p):=⟨fun x hx=>by
 unfold lkM at hx
 split at hx
 ·exact h x (List.mem_of_mem_take hx)
 ·rw [List.mem_replicate] at hx;omega⟩
theorem fnum_n (w:World){g:Nat}{b:Bool}{v:Value}{n:Nat}{p:List Nat}(h:Cb w v n p)(most:Nat)(hne:bl p≠[]→elB v∉[g])(hg:w.heap[g]? = some (.cells #[.bool b] 56)) :
  Calls Tryd.prog 15 [ptr g,v,.int .i64 (most:Int)].toArray w (RetP (fun _:Unit=>.int .u64 (((readN p).2 % 18446744073709551616:Nat):Int)) g #[.bool b] 56 (fun _ c=>c=#[.bool (b || fnB p most)]) w):=by
 have:=fnum_c w h most hne hg
 rw [limb0] at this
 exact this
theorem getD_at {P:List (Nat×List Nat)}{i:Nat}{x:Nat×List Nat}(h:P[i]? = some x):P.getD i (0,[])=x:=by rw [List.getD_eq_getElem?_getD,h];rfl
theorem un_next {P:List (Nat×List Nat)}{x:UnS}(h:x.Ok P){tg:Nat}{q:List Nat}(hPx:P[x.i]? = some (tg,q)){tb cb:Bool}(hit:itOk x.i (tg,q)↔tb=false∧cb=false){y:UnS}(hi:y.i=x.i+1)(hb:y.b=(x.b || tb || cb))
  (b1:NBy y.m1 32∧ByL y.m1) (b2:NBy y.m2 32∧ByL y.m2) (own:∃ oo ob,y.oa=oo++ob∧OwnL 49 3 y.val y.l.length (hesC y.l) oo∧BodH (Hd ob) y.l) (few:y.l.length≤y.i) (pl:y.pl<18446744073709551616)
  (hpl:y.pl=if x.i=0 then (readN q).2 % 18446744073709551616 else x.pl) (h1:(y.m1,y.z1)=if x.i=1 then (lkM q,lkZ q) else (x.m1,x.z1)) (h2:(y.m2,y.z2)=if x.i=2 then (lkM q,lkZ q) else (x.m2,x.z2))
  (hnx:y.nx=if x.i=3 then IntKind.i64.wrap (((readN q).2 % 18446744073709551616:Nat):Int) else x.nx) (hl:itOk x.i (tg,q)→y.l.map absH=x.l.map absH++if x.i<4 then [] else [hdO q]):y.Ok P:=by
 have hlt:x.i<P.length:=(List.getElem?_eq_some_iff.1 hPx).1
 have hgd:=getD_at hPx
 refine ⟨by omega,b1,b2,own,few,pl,fun hy hK=>?_,fun hy=>?_⟩
 ·rw [hb] at hy
  have hi2:=hit.1 (hK.2 _ _ hPx)
  rw [hi2.1,hi2.2,Bool.or_false,Bool.or_false] at hy
  exact h.bad hy hK
 ·rw [hb,Bool.or_eq_false_iff,Bool.or_eq_false_iff] at hy
  obtain ⟨⟨y1,y2⟩,y3⟩:=hy
  have hI:=hit.2 ⟨y2,y3⟩
  have hg:=h.good y1
  have hl:=hl hI
  refine ⟨hg.four,fun j z hj hz=>?_,fun h0=>?_,fun h0=>?_,fun h0=>?_,fun h0=>?_,?_⟩
  ·rcases Nat.lt_or_ge j x.i with hj'|hj'
   ·exact hg.each j z hj' hz
   ·obtain rfl:j=x.i:=by omega
    rw [hPx] at hz
    cases hz;exact hI
  ·rw [hpl]
   by_cases h0:x.i=0
   ·rw [if_pos h0]
    have h3:=hI.2
    rw [h0] at h3 hgd
    rw [if_pos rfl] at h3
    unfold unPl
    rw [hgd]
    refine Nat.mod_eq_of_lt ?_
    unfold fnB at h3
    rw [Bool.or_eq_false_iff] at h3
    have h4:=of_decide_eq_false h3.2
    exact (show (readN q).2<2 ^ 64 from blen_le.1 (Nat.le_of_not_lt h4))
   ·rw [if_neg h0];exact hg.pl (by omega)
  ·have e1:=congrArg Prod.fst h1
   have e2:=congrArg Prod.snd h1
   dsimp only at e1 e2
   by_cases h0:x.i=1
   ·rw [if_pos h0] at e1 e2
    rw [h0] at hgd
    unfold unM unZ
    rw [hgd]
    exact ⟨e1,e2⟩
   ·rw [if_neg h0] at e1 e2
    obtain ⟨f1,f2⟩:=hg.l1 (by omega)
    exact ⟨e1.trans f1,e2.trans f2⟩
  ·have e1:=congrArg Prod.fst h2
   have e2:=congrArg Prod.snd h2
   dsimp only at e1 e2
   by_cases h0:x.i=2
   ·rw [if_pos h0] at e1 e2
    rw [h0] at hgd
    unfold unM unZ
    rw [hgd]
    exact ⟨e1,e2⟩
   ·rw [if_neg h0] at e1 e2
    obtain ⟨f1,f2⟩:=hg.l2 (by omega)
    exact ⟨e1.trans f1,e2.trans f2⟩
  ·rw [hnx]
   by_cases h0:x.i=3
   ·rw [if_pos h0]
    have h3:=hI.2
    rw [h0] at h3 hgd
    rw [if_neg (by decide),if_neg (by decide),if_pos rfl] at h3
    unfold unNx
    rw [hgd]
    unfold fnB at h3
    rw [Bool.or_eq_false_iff] at h3
    have h4:=of_decide_eq_false h3.2
    have h5:(readN q).2<9223372036854775808:=(show (readN q).2<2 ^ 63 from blen_le.1 (Nat.le_of_not_lt h4))
    rw [Nat.mod_eq_of_lt (by omega),i64_small h5]
   ·rw [if_neg h0];exact hg.nx (by omega)
  ·rw [hl,hg.hs,hi,List.take_add_one,hPx]
   by_cases h4:x.i<4
   ·rw [if_pos h4,List.append_nil]
    have e1:(P.take x.i).drop 4=[]:=List.drop_eq_nil_of_le (by rw [List.length_take];omega)
    have e2:(P.take x.i++(some (tg,q)).toList).drop 4=[]:=List.drop_eq_nil_of_le (by rw [List.length_append,List.length_take];simp only [Option.toList,List.length_singleton];omega)
    rw [e1,e2]
   ·rw [if_neg h4,List.drop_append_of_le_length (by rw [List.length_take];omega),List.map_append]
    rfl
instance {P:List (Nat×List Nat)}{i:Nat}:NBy (unM P i) 32:=⟨lkM_len _⟩
instance sp_kept:SP Tryd.prog 28 [(0,1),(1,33),(34,33),(67,1),(68,1)]:=⟨by kernel_rfl⟩
instance zg_kept:ZG Tryd.prog 28 (kpG 0 (List.replicate 32 0) 0 (List.replicate 32 0) 0 0 (.slice none 0 0)):=⟨by kernel_rfl,inferInstance⟩
theorem byl_zero:ByL (List.replicate 32 0):=⟨fun x hx=>by rw [List.mem_replicate] at hx;omega⟩
theorem KOk.same {z1 z2 nx:Int}{l m:List He}(h:KOk z1 z2 nx l)(he:l.map absH=m.map absH):KOk z1 z2 nx m:=by
 have e1:l.map (·.1)=m.map (·.1):=by
  have:=congrArg (List.map (·.1)) he
  rwa [List.map_map,List.map_map] at this
 have key:∀ x∈m,∃ y∈l,absH y=absH x:=fun x hx=>by
  have h1:absH x∈l.map absH:=by rw [he];exact List.mem_map_of_mem hx
  obtain ⟨y,hy,h2⟩:=List.mem_map.1 h1
  exact ⟨y,hy,h2⟩
 refine ⟨h.l1,h.l2,⟨h.sto.num,⟨by rw [←e1];exact h.sto.rise.rise,fun x hx=>?_⟩,?_⟩,fun x hx=>?_⟩
 ·obtain ⟨y,hy,h2⟩:=key x hx
  have h3:y.1=x.1:=congrArg (·.1) h2
  rw [←h3];exact h.sto.rise.pos y hy
 ·have:=congrArg List.length he
  rw [List.length_map,List.length_map] at this
  rw [←this];exact h.sto.few
 ·obtain ⟨y,hy,h2⟩:=key x hx
  have h3:y.2.1=x.2.1:=congrArg (·.2.1) h2
  have h4:abs y.2.2.2=abs x.2.2.2:=congrArg (·.2.2) h2
  obtain ⟨a1,a2,a3,a4⟩:=h.each y hy
  exact ⟨by rw [←h4];exact a1,by rw [←h4];exact a2,by rw [←h3];exact a3,by rw [←h4];exact a4⟩
structure SafeOk (p:List Nat):Prop where
 rd:(rdD p).1=0
 form:KForm (rdD p).2
 kept:∃ l:List He,l.map absH=unH (rdD p).2∧KOk (unZ (rdD p).2 1:Int) (unZ (rdD p).2 2:Int) (unNx (rdD p).2:Int) l
theorem abOk_small {l:List Att}(h:AbOk (abs l)):Small l:=⟨by have:=h.len;rw [abs_len] at this;omega,fun x hx=>by
 have:=fitsB_le (h.each (x.1,x.2.2) (List.mem_map.2 ⟨x,hx,rfl⟩)).2.2
 dsimp only at this;omega⟩
theorem unH_small {P:List (Nat×List Nat)}(h:KForm P){l:List He}(hl:l.map absH=unH P):∀ x∈l,Small x.2.2.2:=fun x hx=>by
 have h1:absH x∈unH P:=by rw [←hl];exact List.mem_map_of_mem hx
 unfold unH at h1
 obtain ⟨y,hy,h2⟩:=List.mem_map.1 h1
 obtain ⟨i,hi⟩:=List.mem_iff_getElem?.1 hy
 rw [List.getElem?_drop] at hi
 have h3:=(h.2 _ _ hi).2
 rw [if_neg (by omega),if_neg (by omega),if_neg (by omega)] at h3
 obtain ⟨qa,qc,e1,e2,e3⟩:=h3.out
 rw [hdO_of e1] at h2
 have h4:toAb (rdD qc).2=abs x.2.2.2:=congrArg (·.2.2) h2
 exact abOk_small (by rw [←h4];exact e2.ok)
abbrev kzV:Value:=kpV' 0 (List.replicate 32 0) 0 (List.replicate 32 0) 0 0 (.slice none 0 0)
def UkP (p:List Nat)(x:Value×Int)(oa:Blks):Prop:=
 (x.2≠0∧x.1=kzV∧oa=[]∧¬SafeOk p)∨(x.2=0∧KForm (rdD p).2∧∃ pv lv cv,∃ l:List He,x.1=kpV' (unPl (rdD p).2) (unM (rdD p).2 1) (unZ (rdD p).2 1:Int) (unM (rdD p).2 2) (unZ (rdD p).2 2:Int) (unNx (rdD p).2:Int) (.slice pv lv cv)∧
  OwnH (.slice pv lv cv) l oa∧l.map absH=unH (rdD p).2∧KOk (unZ (rdD p).2 1:Int) (unZ (rdD p).2 2:Int) (unNx (rdD p).2:Int) l)
theorem un_end {P:List (Nat×List Nat)}{x:UnS}(h:x.Good P)(hi:x.i=P.length):KForm P∧x.pl=unPl P∧(x.m1=unM P 1∧x.z1=unZ P 1)∧(x.m2=unM P 2∧x.z2=unZ P 2)∧x.nx=(unNx P:Int)∧x.l.map absH=unH P:=by
 have h4:=h.four
 refine ⟨⟨h4,fun j y hj=>h.each j y (by rw [hi];exact (List.getElem?_eq_some_iff.1 hj).1) hj⟩,h.pl (by omega),h.l1 (by omega),h.l2 (by omega),h.nx (by omega),?_⟩
 rw [h.hs,hi,List.take_length];rfl
set_option maxHeartbeats 16000000 in
theorem sun_c (w:World)(hT:Tab w){v:Value}{n:Nat}{p:List Nat}(h:Cb w v n p)(he:(rdD p).1=0) :
  Calls Tryd.prog 6 [v].toArray w (RetO (fun x:Value×Int=>.tuple #[x.1,.int .i64 x.2]) (UkP p) w):=by
 have i0:=h.old
 have hpb:=h.ok.by'
 obtain ⟨L,hL⟩:∃ L,L=(rdD p).2:=⟨_,rfl⟩
 have RY:=fun w' (h:Cb w' v n p)=>read_yes w' h (l:=L) (Prod.ext he hL.symm)
 have hfit:=(rdD_back hpb he).2
 have hbyt:=wrL_bytes (rdD_back hpb he).1 hpb
 rw [←hL] at hfit hbyt
 have hLl:L.length≤200:=hfit.1
 have t0:((0:Int) != 0)=false:=rfl
 clear h he
 obtain ⟨b0,hb0⟩:∃ z,decide ((L.length:Int)<4)=z:=⟨_,rfl⟩
 refine fn_own (N:=_) Tryd.func6 rfl Tryd.ntmps6 Tryd.results6 (by simp) ?_
 simp only [initS,Nat.reduceAdd,Nat.zero_add]
 repeat' (first|(refine wlS ?_)|(refine wlG ?_)|(refine wlB ?_)|(refine wlE ?_)|(refine efSvao ?_;intro v oa ho)|(refine efG ?_)|(refine efGnn ?_;intro n hn)|((with_reducible refine sel_call ?_);first|(refine wl_newO rfl rfl rfl rfl rfl (fun w hm=>by with_reducible exact RY w (VwB.out w hm)) ?_;intro x oa hx))|(refine efBnn ?_;intro n hn)|(refine efB ?_)|(refine efBS ?_)|(refine wl_skip rfl rfl ?_)|(refine wdS ?_)|(refine wdG ?_)|(refine wdV ?_)|(refine wdB ?_)|(refine wdE ?_)|(refine wdT ?_)|(refine wdTO ?_)|(refine wd_skip rfl rfl ?_)|((with_reducible refine seld_nil ?_);refine wd_nil hm0 ?_;clear hm0 hw0)|((with_reducible refine wc_seq ?_);intro K hK)|(refine auC ?_)|(refine wc_cond rfl (fun hc=>?_) (fun hc=>?_))|(refine wc_draw (by kernel_rfl) (by kernel_rfl) (by decide +kernel) ?_;intro w0 hw0 hm0;(try simp only [List.append_eq,List.cons_append,List.nil_append]))|(refine auP ?_)|((refine auR ?_);clear hK K)|(refine auR ?_)|((with_reducible refine hK _ _ ?_);clear hK K)|fail)
 obtain ⟨u,its⟩:=x
 obtain ⟨hmap,hown⟩:=hx
 dsimp only at hmap hown
 obtain ⟨on,ob,rfl,hol,hbod⟩:=hown.out
 haveI:=hol
 have hil:its.length=L.length:=by rw [←hmap,List.length_map]
 rw [←hil] at hb0 hLl
 clear RY
 dsimp only
 repeat' (first|(refine wlS ?_)|(refine wlG ?_)|(refine wlB ?_)|(refine wlE ?_)|(refine efSvao ?_;intro v oa ho)|(refine efG ?_)|(refine efGnn ?_;intro n hn)|(refine efZCnn ?_;intro n hn)|(refine efBnn ?_;intro n hn)|(refine efB ?_)|(refine efBS ?_)|(refine wl_skip rfl rfl ?_)|(refine wdS ?_)|(refine wdG ?_)|(refine wdV ?_)|(refine wdB ?_)|(refine wdE ?_)|(refine wdT ?_)|(refine wdTO ?_)|(refine wd_skip rfl rfl ?_)|((with_reducible refine seld_nil ?_);refine wd_nil hm0 ?_;clear hm0 hw0)|((with_reducible refine wc_seq ?_);intro K hK)|(refine auC ?_)|(refine wc_cond rfl (fun hc=>?_) (fun hc=>?_))|(refine wc_draw (by kernel_rfl) (by kernel_rfl) (by decide +kernel) ?_;intro w0 hw0 hm0;(try simp only [List.append_eq,List.cons_append,List.nil_append]))|(refine auP ?_)|((refine auR ?_);clear hK K)|(refine auR ?_)|((with_reducible refine hK _ _ ?_);clear hK K)|fail)
 obtain ⟨g,rfl⟩:∃ g,g=n:=⟨n,rfl⟩
 obtain ⟨nk,rfl⟩:∃ g,g=n:=⟨n,rfl⟩
 obtain ⟨nr,rfl⟩:∃ g,g=n:=⟨n,rfl⟩
 have hP:itP' its=L:=hmap
 have hst:UnS.Ok L ⟨0,b0,0,List.replicate 32 0,0,List.replicate 32 0,0,0,(none,0,0),[],[]⟩:=⟨Nat.zero_le _,⟨⟨by simp⟩,byl_zero⟩,⟨⟨by simp⟩,byl_zero⟩,⟨[],[],rfl,OwnL.nil _ _,BodH.nil⟩,by simp,by show 0<18446744073709551616;decide,fun h hK=>by
   have:=hK.1
   rw [←hb0] at h
   have:=of_decide_eq_true h
   omega,fun h=>⟨by rw [←hb0] at h;have:=of_decide_eq_false h;omega,fun j y hj=>absurd hj (Nat.not_lt_zero _),fun h=>absurd h (Nat.lt_irrefl _),fun h=>absurd h (by dsimp only;omega),fun h=>absurd h (by dsimp only;omega),fun h=>absurd h (by dsimp only;omega),rfl⟩⟩
 refine wc_loop (σ:=UnS) (fun x=>[(2,ptr nr),(3,.int .i64 0),(6,ptr nk),(7,ptr g),(26,u),(27,.int .i64 (its.length:Int)),(28,.int .i64 (x.i:Int))])
  (fun x=>(g,(#[.bool x.b],56))::(nk,(rwA (kpG x.pl x.m1 (x.z1:Int) x.m2 (x.z2:Int) x.nx x.val),28))::(nr,(rwA (kpG 0 (List.replicate 32 0) 0 (List.replicate 32 0) 0 0 (.slice none 0 0)),28))::(on++(ob++x.oa)))
  (UnS.Ok L) (fun x=>its.length - x.i) ⟨0,b0,0,List.replicate 32 0,0,List.replicate 32 0,0,0,(none,0,0),[],[]⟩ hst (Fits.of ⟨rfl,rfl,rfl,rfl,rfl,rfl,rfl,trivial⟩ (by rw [List.append_nil];exact SubL.refl _) rfl) ?_
 clear hst hb0 i0 t0
 rintro ⟨i,b,pl,m1,z1,m2,z2,nx,⟨pv,lv,cv⟩,l,oa⟩ hok0
 have hok1:=hok0
 obtain ⟨hi,⟨nb1,nb2⟩,⟨nb3,nb4⟩,⟨oo,od,rfl,hol2,hbd⟩,hfew,hpl,hbad,hgood⟩:=hok1
 dsimp only at hi nb1 nb2 nb3 nb4 hol2 hbd hfew hpl hbad hgood ⊢
 dsimp only [UnS.val]
 haveI:=nb1;haveI:=nb2;haveI:=nb3;haveI:=nb4;haveI:=hol2
 by_cases hlt:i<its.length
 ·obtain ⟨⟨tg,bv,q⟩,hx⟩:∃ x,its[i]? = some x:=⟨its[i]'(by omega),List.getElem?_eq_getElem _⟩
  have hmem:=List.mem_of_getElem? hx
  have hget:=itsC_get hx
  have hPx:L[i]? = some (tg,q):=by rw [←hmap,List.getElem?_map,hx];rfl
  obtain ⟨hk1,hk2,hk3⟩:=hbod _ hmem
  dsimp only at hget hk1 hk2 hk3
  haveI ba:CsB (Hd ob) bv q.length q:=⟨⟨hk2.2,hk3⟩,hk2.1⟩
  have u1:decide ((i:Int)<(its.length:Int))=true:=decide_eq_true (by omega)
  have u2:IntKind.i64.wrap ((i:Int)+1)=((i+1:Nat):Int):=by rw [wrap_i64 _ (by omega) (by omega)];omega
  have u3:IntKind.i64.wrap (tg:Int)=(tg:Int):=by rw [wrap_i64 _ (by omega) (by omega)]
  have j1:(i:Int)<(its.length:Int):=by omega
  obtain ⟨mn,hmn⟩:∃ m:Nat,m=if 5<i+1 then 5 else i+1:=⟨_,rfl⟩
  have um:(if (5:Int)<((i+1:Nat):Int) then (5:Int) else ((i+1:Nat):Int))=(mn:Int):=by rw [hmn];split <;> split <;> omega
  obtain ⟨tb,htb⟩:∃ z,((tg:Int) != (mn:Int))=z:=⟨_,rfl⟩
  clear hbod hmap hx hgood hbad hown
  by_cases h0:i=0
  ·subst h0
   have k0:(((0:Nat):Int) == 0)=true:=rfl
   have hit:itOk 0 (tg,q)↔tb=false∧fnB q 64=false:=by
    rw [←htb];unfold itOk;rw [←hmn];simp;intro _;omega
   cases b
   ·repeat' (first|(refine wlS ?_)|(refine wlG ?_)|(refine wlB ?_)|(refine wlMIN ?_)|(refine wlNB ?_)|(refine wlE ?_)|(refine efSvao ?_;intro v oa ho)|(refine efG ?_)|(refine efGnn ?_;intro n hn)|(refine efZCnn ?_;intro n hn)|(refine efBnn ?_;intro n hn)|(refine efB ?_)|(refine efBS ?_)|(refine wl_skip rfl rfl ?_)|(refine wdS ?_)|(refine wdG ?_)|(refine wdV ?_)|(refine wdB ?_)|(refine wdMIN ?_)|(refine wdE ?_)|(refine wdT ?_)|(refine wdTO ?_)|(refine wd_skip rfl rfl ?_)|((with_reducible refine seld_nil ?_);refine wd_nil hm0 ?_;clear hm0 hw0)|((with_reducible refine wc_seq ?_);intro K hK)|(refine auC ?_)|(refine wc_cond rfl (fun hc=>?_) (fun hc=>?_))|(refine wc_draw (by kernel_rfl) (by kernel_rfl) (by decide +kernel) ?_;intro w0 hw0 hm0;(try simp only [List.append_eq,List.cons_append,List.nil_append]))|(refine auP ?_)|((refine auR ?_);clear hK K)|(refine auR ?_)|((with_reducible refine hK _ _ ?_);clear hK K)|fail)
    have e:#[Value.bool false].setIfInBounds 0 (Value.bool tb)=#[.bool tb]:=rfl
    rw [e];clear e
    refine wl_updP rfl rfl rfl rfl rfl (fun w' hm hw=>fnum_n w' (b:=tb) (p:=q) (VwB.out w' hm) 64 (fun hq hin=>by
    have h1:=CsF.blk ba.cs (w:=w') (Hold.out w' hm) hq
    rw [List.mem_singleton.1 hin] at h1
    have nd:=hm.nd
    simp only [keys,List.map_cons,List.map_append,List.nodup_cons,List.mem_cons,List.mem_append,not_or] at nd
    exact nd.2.1.2.2.2.1 (by simpa only [keys] using h1)) hw) ?_
    intro x c hx;subst hx
    repeat' (first|(refine wlS ?_)|(refine wlG ?_)|(refine wlB ?_)|(refine wlE ?_)|(refine efSvao ?_;intro v oa ho)|(refine efG ?_)|(refine efGnn ?_;intro n hn)|(refine efBnn ?_;intro n hn)|(refine efB ?_)|(refine efBS ?_)|(refine wl_skip rfl rfl ?_)|(refine wdS ?_)|(refine wdG ?_)|(refine wdV ?_)|(refine wdB ?_)|(refine wdE ?_)|(refine wdT ?_)|(refine wdTO ?_)|(refine wd_skip rfl rfl ?_)|((with_reducible refine seld_nil ?_);refine wd_nil hm0 ?_;clear hm0 hw0)|((with_reducible refine wc_seq ?_);intro K hK)|(refine auC ?_)|(refine wc_cond rfl (fun hc=>?_) (fun hc=>?_))|(refine wc_draw (by kernel_rfl) (by kernel_rfl) (by decide +kernel) ?_;intro w0 hw0 hm0;(try simp only [List.append_eq,List.cons_append,List.nil_append]))|(refine auP ?_)|((refine auR ?_);clear hK K)|(refine auR ?_)|((with_reducible refine hK _ _ ?_);clear hK K)|fail)
    refine ⟨⟨1,(tb || fnB q 64),(readN q).2 % 18446744073709551616,m1,z1,m2,z2,nx,(pv,lv,cv),l,oo++od⟩,?_,by dsimp only;omega,Fits.of ⟨rfl,rfl,rfl,rfl,rfl,rfl,rfl,trivial⟩ (.skip (SubL.refl _)) rfl⟩
    exact un_next hok0 hPx (tb:=tb) (cb:=fnB q 64) hit (y:=⟨1,(tb || fnB q 64),(readN q).2 % 18446744073709551616,m1,z1,m2,z2,nx,(pv,lv,cv),l,oo++od⟩) rfl (by simp) ⟨inferInstance,inferInstance⟩ ⟨inferInstance,inferInstance⟩ ⟨_,_,rfl,hol2,hbd⟩ (by dsimp only;omega) (Nat.mod_lt _ (by decide)) rfl rfl rfl rfl (fun _=>by simp)
   ·repeat' (first|(refine wlS ?_)|(refine wlG ?_)|(refine wlB ?_)|(refine wlMIN ?_)|(refine wlNB ?_)|(refine wlE ?_)|(refine efSvao ?_;intro v oa ho)|(refine efG ?_)|(refine efGnn ?_;intro n hn)|(refine efZCnn ?_;intro n hn)|(refine efBnn ?_;intro n hn)|(refine efB ?_)|(refine efBS ?_)|(refine wl_skip rfl rfl ?_)|(refine wdS ?_)|(refine wdG ?_)|(refine wdV ?_)|(refine wdB ?_)|(refine wdMIN ?_)|(refine wdE ?_)|(refine wdT ?_)|(refine wdTO ?_)|(refine wd_skip rfl rfl ?_)|((with_reducible refine seld_nil ?_);refine wd_nil hm0 ?_;clear hm0 hw0)|((with_reducible refine wc_seq ?_);intro K hK)|(refine auC ?_)|(refine wc_cond rfl (fun hc=>?_) (fun hc=>?_))|(refine wc_draw (by kernel_rfl) (by kernel_rfl) (by decide +kernel) ?_;intro w0 hw0 hm0;(try simp only [List.append_eq,List.cons_append,List.nil_append]))|(refine auP ?_)|((refine auR ?_);clear hK K)|(refine auR ?_)|((with_reducible refine hK _ _ ?_);clear hK K)|fail)
    have e:#[Value.bool true].setIfInBounds 0 (Value.bool true)=#[.bool true]:=rfl
    rw [e];clear e
    refine wl_updP rfl rfl rfl rfl rfl (fun w' hm hw=>fnum_n w' (b:=true) (p:=q) (VwB.out w' hm) 64 (fun hq hin=>by
    have h1:=CsF.blk ba.cs (w:=w') (Hold.out w' hm) hq
    rw [List.mem_singleton.1 hin] at h1
    have nd:=hm.nd
    simp only [keys,List.map_cons,List.map_append,List.nodup_cons,List.mem_cons,List.mem_append,not_or] at nd
    exact nd.2.1.2.2.2.1 (by simpa only [keys] using h1)) hw) ?_
    intro x c hx;subst hx
    repeat' (first|(refine wlS ?_)|(refine wlG ?_)|(refine wlB ?_)|(refine wlE ?_)|(refine efSvao ?_;intro v oa ho)|(refine efG ?_)|(refine efGnn ?_;intro n hn)|(refine efBnn ?_;intro n hn)|(refine efB ?_)|(refine efBS ?_)|(refine wl_skip rfl rfl ?_)|(refine wdS ?_)|(refine wdG ?_)|(refine wdV ?_)|(refine wdB ?_)|(refine wdE ?_)|(refine wdT ?_)|(refine wdTO ?_)|(refine wd_skip rfl rfl ?_)|((with_reducible refine seld_nil ?_);refine wd_nil hm0 ?_;clear hm0 hw0)|((with_reducible refine wc_seq ?_);intro K hK)|(refine auC ?_)|(refine wc_cond rfl (fun hc=>?_) (fun hc=>?_))|(refine wc_draw (by kernel_rfl) (by kernel_rfl) (by decide +kernel) ?_;intro w0 hw0 hm0;(try simp only [List.append_eq,List.cons_append,List.nil_append]))|(refine auP ?_)|((refine auR ?_);clear hK K)|(refine auR ?_)|((with_reducible refine hK _ _ ?_);clear hK K)|fail)
    refine ⟨⟨1,(true || fnB q 64),(readN q).2 % 18446744073709551616,m1,z1,m2,z2,nx,(pv,lv,cv),l,oo++od⟩,?_,by dsimp only;omega,Fits.of ⟨rfl,rfl,rfl,rfl,rfl,rfl,rfl,trivial⟩ (.skip (SubL.refl _)) rfl⟩
    exact un_next hok0 hPx (tb:=tb) (cb:=fnB q 64) hit (y:=⟨1,(true || fnB q 64),(readN q).2 % 18446744073709551616,m1,z1,m2,z2,nx,(pv,lv,cv),l,oo++od⟩) rfl (by simp) ⟨inferInstance,inferInstance⟩ ⟨inferInstance,inferInstance⟩ ⟨_,_,rfl,hol2,hbd⟩ (by dsimp only;omega) (Nat.mod_lt _ (by decide)) rfl rfl rfl rfl (fun _=>by simp)
  by_cases h1:i=1
  ·subst h1
   have k0:(((1:Nat):Int) == 0)=false:=rfl
   have k1:(((1:Nat):Int) == 1)=true:=rfl
   have hit:itOk 1 (tg,q)↔tb=false∧decide (q.length≠33)=false:=by
    rw [←htb];unfold itOk;rw [←hmn];simp;intro _;omega
   haveI:ByL (lkM q):=lkM_by hk2.1.by'
   cases b
   ·repeat' (first|(refine wlS ?_)|(refine wlG ?_)|(refine wlB ?_)|(refine wlMIN ?_)|(refine wlNB ?_)|(refine wlE ?_)|(refine efSvao ?_;intro v oa ho)|(refine efG ?_)|(refine efGnn ?_;intro n hn)|(refine efZCnn ?_;intro n hn)|(refine efBnn ?_;intro n hn)|(refine efB ?_)|(refine efBS ?_)|(refine wl_skip rfl rfl ?_)|(refine wdS ?_)|(refine wdG ?_)|(refine wdV ?_)|(refine wdB ?_)|(refine wdMIN ?_)|(refine wdE ?_)|(refine wdT ?_)|(refine wdTO ?_)|(refine wd_skip rfl rfl ?_)|((with_reducible refine seld_nil ?_);refine wd_nil hm0 ?_;clear hm0 hw0)|((with_reducible refine wc_seq ?_);intro K hK)|(refine auC ?_)|(refine wc_cond rfl (fun hc=>?_) (fun hc=>?_))|(refine wc_draw (by kernel_rfl) (by kernel_rfl) (by decide +kernel) ?_;intro w0 hw0 hm0;(try simp only [List.append_eq,List.cons_append,List.nil_append]))|(refine auP ?_)|((refine auR ?_);clear hK K)|(refine auR ?_)|((with_reducible refine hK _ _ ?_);clear hK K)|fail)
    have e:#[Value.bool false].setIfInBounds 0 (Value.bool tb)=#[.bool tb]:=rfl
    rw [e];clear e
    refine wl_updP rfl rfl rfl rfl rfl (fun w' hm hw=>flock_c w' (b:=tb) (p:=q) (VwB.out w' hm) (fun hq hin=>by
    have h1:=CsF.blk ba.cs (w:=w') (Hold.out w' hm) hq
    rw [List.mem_singleton.1 hin] at h1
    have nd:=hm.nd
    simp only [keys,List.map_cons,List.map_append,List.nodup_cons,List.mem_cons,List.mem_append,not_or] at nd
    exact nd.2.1.2.2.2.1 (by simpa only [keys] using h1)) hw) ?_
    intro x c hx;subst hx
    repeat' (first|(refine wlS ?_)|(refine wlG ?_)|(refine wlB ?_)|(refine wlE ?_)|(refine efSvao ?_;intro v oa ho)|(refine efG ?_)|(refine efGnn ?_;intro n hn)|(refine efBnn ?_;intro n hn)|(refine efB ?_)|(refine efBS ?_)|(refine wl_skip rfl rfl ?_)|(refine wdS ?_)|(refine wdG ?_)|(refine wdV ?_)|(refine wdB ?_)|(refine wdE ?_)|(refine wdT ?_)|(refine wdTO ?_)|(refine wd_skip rfl rfl ?_)|((with_reducible refine seld_nil ?_);refine wd_nil hm0 ?_;clear hm0 hw0)|((with_reducible refine wc_seq ?_);intro K hK)|(refine auC ?_)|(refine wc_cond rfl (fun hc=>?_) (fun hc=>?_))|(refine wc_draw (by kernel_rfl) (by kernel_rfl) (by decide +kernel) ?_;intro w0 hw0 hm0;(try simp only [List.append_eq,List.cons_append,List.nil_append]))|(refine auP ?_)|((refine auR ?_);clear hK K)|(refine auR ?_)|((with_reducible refine hK _ _ ?_);clear hK K)|fail)
    refine ⟨⟨2,(tb || decide (q.length≠33)),pl,lkM q,lkZ q,m2,z2,nx,(pv,lv,cv),l,oo++od⟩,?_,by dsimp only;omega,Fits.of ⟨rfl,rfl,rfl,rfl,rfl,rfl,rfl,trivial⟩ (.skip (SubL.refl _)) rfl⟩
    exact un_next hok0 hPx (tb:=tb) (cb:=decide (q.length≠33)) hit (y:=⟨2,(tb || decide (q.length≠33)),pl,lkM q,lkZ q,m2,z2,nx,(pv,lv,cv),l,oo++od⟩) rfl (by simp) ⟨inferInstance,inferInstance⟩ ⟨inferInstance,inferInstance⟩ ⟨_,_,rfl,hol2,hbd⟩ (by dsimp only;omega) hpl rfl rfl rfl rfl (fun _=>by simp)
   ·repeat' (first|(refine wlS ?_)|(refine wlG ?_)|(refine wlB ?_)|(refine wlMIN ?_)|(refine wlNB ?_)|(refine wlE ?_)|(refine efSvao ?_;intro v oa ho)|(refine efG ?_)|(refine efGnn ?_;intro n hn)|(refine efZCnn ?_;intro n hn)|(refine efBnn ?_;intro n hn)|(refine efB ?_)|(refine efBS ?_)|(refine wl_skip rfl rfl ?_)|(refine wdS ?_)|(refine wdG ?_)|(refine wdV ?_)|(refine wdB ?_)|(refine wdMIN ?_)|(refine wdE ?_)|(refine wdT ?_)|(refine wdTO ?_)|(refine wd_skip rfl rfl ?_)|((with_reducible refine seld_nil ?_);refine wd_nil hm0 ?_;clear hm0 hw0)|((with_reducible refine wc_seq ?_);intro K hK)|(refine auC ?_)|(refine wc_cond rfl (fun hc=>?_) (fun hc=>?_))|(refine wc_draw (by kernel_rfl) (by kernel_rfl) (by decide +kernel) ?_;intro w0 hw0 hm0;(try simp only [List.append_eq,List.cons_append,List.nil_append]))|(refine auP ?_)|((refine auR ?_);clear hK K)|(refine auR ?_)|((with_reducible refine hK _ _ ?_);clear hK K)|fail)
    have e:#[Value.bool true].setIfInBounds 0 (Value.bool true)=#[.bool true]:=rfl
    rw [e];clear e
    refine wl_updP rfl rfl rfl rfl rfl (fun w' hm hw=>flock_c w' (b:=true) (p:=q) (VwB.out w' hm) (fun hq hin=>by
    have h1:=CsF.blk ba.cs (w:=w') (Hold.out w' hm) hq
    rw [List.mem_singleton.1 hin] at h1
    have nd:=hm.nd
    simp only [keys,List.map_cons,List.map_append,List.nodup_cons,List.mem_cons,List.mem_append,not_or] at nd
    exact nd.2.1.2.2.2.1 (by simpa only [keys] using h1)) hw) ?_
    intro x c hx;subst hx
    repeat' (first|(refine wlS ?_)|(refine wlG ?_)|(refine wlB ?_)|(refine wlE ?_)|(refine efSvao ?_;intro v oa ho)|(refine efG ?_)|(refine efGnn ?_;intro n hn)|(refine efBnn ?_;intro n hn)|(refine efB ?_)|(refine efBS ?_)|(refine wl_skip rfl rfl ?_)|(refine wdS ?_)|(refine wdG ?_)|(refine wdV ?_)|(refine wdB ?_)|(refine wdE ?_)|(refine wdT ?_)|(refine wdTO ?_)|(refine wd_skip rfl rfl ?_)|((with_reducible refine seld_nil ?_);refine wd_nil hm0 ?_;clear hm0 hw0)|((with_reducible refine wc_seq ?_);intro K hK)|(refine auC ?_)|(refine wc_cond rfl (fun hc=>?_) (fun hc=>?_))|(refine wc_draw (by kernel_rfl) (by kernel_rfl) (by decide +kernel) ?_;intro w0 hw0 hm0;(try simp only [List.append_eq,List.cons_append,List.nil_append]))|(refine auP ?_)|((refine auR ?_);clear hK K)|(refine auR ?_)|((with_reducible refine hK _ _ ?_);clear hK K)|fail)
    refine ⟨⟨2,(true || decide (q.length≠33)),pl,lkM q,lkZ q,m2,z2,nx,(pv,lv,cv),l,oo++od⟩,?_,by dsimp only;omega,Fits.of ⟨rfl,rfl,rfl,rfl,rfl,rfl,rfl,trivial⟩ (.skip (SubL.refl _)) rfl⟩
    exact un_next hok0 hPx (tb:=tb) (cb:=decide (q.length≠33)) hit (y:=⟨2,(true || decide (q.length≠33)),pl,lkM q,lkZ q,m2,z2,nx,(pv,lv,cv),l,oo++od⟩) rfl (by simp) ⟨inferInstance,inferInstance⟩ ⟨inferInstance,inferInstance⟩ ⟨_,_,rfl,hol2,hbd⟩ (by dsimp only;omega) hpl rfl rfl rfl rfl (fun _=>by simp)
  by_cases h2:i=2
  ·subst h2
   have k0:(((2:Nat):Int) == 0)=false:=rfl
   have k1:(((2:Nat):Int) == 1)=false:=rfl
   have k2:(((2:Nat):Int) == 2)=true:=rfl
   have hit:itOk 2 (tg,q)↔tb=false∧decide (q.length≠33)=false:=by
    rw [←htb];unfold itOk;rw [←hmn];simp;intro _;omega
   haveI:ByL (lkM q):=lkM_by hk2.1.by'
   cases b
   ·repeat' (first|(refine wlS ?_)|(refine wlG ?_)|(refine wlB ?_)|(refine wlMIN ?_)|(refine wlNB ?_)|(refine wlE ?_)|(refine efSvao ?_;intro v oa ho)|(refine efG ?_)|(refine efGnn ?_;intro n hn)|(refine efZCnn ?_;intro n hn)|(refine efBnn ?_;intro n hn)|(refine efB ?_)|(refine efBS ?_)|(refine wl_skip rfl rfl ?_)|(refine wdS ?_)|(refine wdG ?_)|(refine wdV ?_)|(refine wdB ?_)|(refine wdMIN ?_)|(refine wdE ?_)|(refine wdT ?_)|(refine wdTO ?_)|(refine wd_skip rfl rfl ?_)|((with_reducible refine seld_nil ?_);refine wd_nil hm0 ?_;clear hm0 hw0)|((with_reducible refine wc_seq ?_);intro K hK)|(refine auC ?_)|(refine wc_cond rfl (fun hc=>?_) (fun hc=>?_))|(refine wc_draw (by kernel_rfl) (by kernel_rfl) (by decide +kernel) ?_;intro w0 hw0 hm0;(try simp only [List.append_eq,List.cons_append,List.nil_append]))|(refine auP ?_)|((refine auR ?_);clear hK K)|(refine auR ?_)|((with_reducible refine hK _ _ ?_);clear hK K)|fail)
    have e:#[Value.bool false].setIfInBounds 0 (Value.bool tb)=#[.bool tb]:=rfl
    rw [e];clear e
    refine wl_updP rfl rfl rfl rfl rfl (fun w' hm hw=>flock_c w' (b:=tb) (p:=q) (VwB.out w' hm) (fun hq hin=>by
    have h1:=CsF.blk ba.cs (w:=w') (Hold.out w' hm) hq
    rw [List.mem_singleton.1 hin] at h1
    have nd:=hm.nd
    simp only [keys,List.map_cons,List.map_append,List.nodup_cons,List.mem_cons,List.mem_append,not_or] at nd
    exact nd.2.1.2.2.2.1 (by simpa only [keys] using h1)) hw) ?_
    intro x c hx;subst hx
    repeat' (first|(refine wlS ?_)|(refine wlG ?_)|(refine wlB ?_)|(refine wlE ?_)|(refine efSvao ?_;intro v oa ho)|(refine efG ?_)|(refine efGnn ?_;intro n hn)|(refine efBnn ?_;intro n hn)|(refine efB ?_)|(refine efBS ?_)|(refine wl_skip rfl rfl ?_)|(refine wdS ?_)|(refine wdG ?_)|(refine wdV ?_)|(refine wdB ?_)|(refine wdE ?_)|(refine wdT ?_)|(refine wdTO ?_)|(refine wd_skip rfl rfl ?_)|((with_reducible refine seld_nil ?_);refine wd_nil hm0 ?_;clear hm0 hw0)|((with_reducible refine wc_seq ?_);intro K hK)|(refine auC ?_)|(refine wc_cond rfl (fun hc=>?_) (fun hc=>?_))|(refine wc_draw (by kernel_rfl) (by kernel_rfl) (by decide +kernel) ?_;intro w0 hw0 hm0;(try simp only [List.append_eq,List.cons_append,List.nil_append]))|(refine auP ?_)|((refine auR ?_);clear hK K)|(refine auR ?_)|((with_reducible refine hK _ _ ?_);clear hK K)|fail)
    refine ⟨⟨3,(tb || decide (q.length≠33)),pl,m1,z1,lkM q,lkZ q,nx,(pv,lv,cv),l,oo++od⟩,?_,by dsimp only;omega,Fits.of ⟨rfl,rfl,rfl,rfl,rfl,rfl,rfl,trivial⟩ (.skip (SubL.refl _)) rfl⟩
    exact un_next hok0 hPx (tb:=tb) (cb:=decide (q.length≠33)) hit (y:=⟨3,(tb || decide (q.length≠33)),pl,m1,z1,lkM q,lkZ q,nx,(pv,lv,cv),l,oo++od⟩) rfl (by simp) ⟨inferInstance,inferInstance⟩ ⟨inferInstance,inferInstance⟩ ⟨_,_,rfl,hol2,hbd⟩ (by dsimp only;omega) hpl rfl rfl rfl rfl (fun _=>by simp)
   ·repeat' (first|(refine wlS ?_)|(refine wlG ?_)|(refine wlB ?_)|(refine wlMIN ?_)|(refine wlNB ?_)|(refine wlE ?_)|(refine efSvao ?_;intro v oa ho)|(refine efG ?_)|(refine efGnn ?_;intro n hn)|(refine efZCnn ?_;intro n hn)|(refine efBnn ?_;intro n hn)|(refine efB ?_)|(refine efBS ?_)|(refine wl_skip rfl rfl ?_)|(refine wdS ?_)|(refine wdG ?_)|(refine wdV ?_)|(refine wdB ?_)|(refine wdMIN ?_)|(refine wdE ?_)|(refine wdT ?_)|(refine wdTO ?_)|(refine wd_skip rfl rfl ?_)|((with_reducible refine seld_nil ?_);refine wd_nil hm0 ?_;clear hm0 hw0)|((with_reducible refine wc_seq ?_);intro K hK)|(refine auC ?_)|(refine wc_cond rfl (fun hc=>?_) (fun hc=>?_))|(refine wc_draw (by kernel_rfl) (by kernel_rfl) (by decide +kernel) ?_;intro w0 hw0 hm0;(try simp only [List.append_eq,List.cons_append,List.nil_append]))|(refine auP ?_)|((refine auR ?_);clear hK K)|(refine auR ?_)|((with_reducible refine hK _ _ ?_);clear hK K)|fail)
    have e:#[Value.bool true].setIfInBounds 0 (Value.bool true)=#[.bool true]:=rfl
    rw [e];clear e
    refine wl_updP rfl rfl rfl rfl rfl (fun w' hm hw=>flock_c w' (b:=true) (p:=q) (VwB.out w' hm) (fun hq hin=>by
    have h1:=CsF.blk ba.cs (w:=w') (Hold.out w' hm) hq
    rw [List.mem_singleton.1 hin] at h1
    have nd:=hm.nd
    simp only [keys,List.map_cons,List.map_append,List.nodup_cons,List.mem_cons,List.mem_append,not_or] at nd
    exact nd.2.1.2.2.2.1 (by simpa only [keys] using h1)) hw) ?_
    intro x c hx;subst hx
    repeat' (first|(refine wlS ?_)|(refine wlG ?_)|(refine wlB ?_)|(refine wlE ?_)|(refine efSvao ?_;intro v oa ho)|(refine efG ?_)|(refine efGnn ?_;intro n hn)|(refine efBnn ?_;intro n hn)|(refine efB ?_)|(refine efBS ?_)|(refine wl_skip rfl rfl ?_)|(refine wdS ?_)|(refine wdG ?_)|(refine wdV ?_)|(refine wdB ?_)|(refine wdE ?_)|(refine wdT ?_)|(refine wdTO ?_)|(refine wd_skip rfl rfl ?_)|((with_reducible refine seld_nil ?_);refine wd_nil hm0 ?_;clear hm0 hw0)|((with_reducible refine wc_seq ?_);intro K hK)|(refine auC ?_)|(refine wc_cond rfl (fun hc=>?_) (fun hc=>?_))|(refine wc_draw (by kernel_rfl) (by kernel_rfl) (by decide +kernel) ?_;intro w0 hw0 hm0;(try simp only [List.append_eq,List.cons_append,List.nil_append]))|(refine auP ?_)|((refine auR ?_);clear hK K)|(refine auR ?_)|((with_reducible refine hK _ _ ?_);clear hK K)|fail)
    refine ⟨⟨3,(true || decide (q.length≠33)),pl,m1,z1,lkM q,lkZ q,nx,(pv,lv,cv),l,oo++od⟩,?_,by dsimp only;omega,Fits.of ⟨rfl,rfl,rfl,rfl,rfl,rfl,rfl,trivial⟩ (.skip (SubL.refl _)) rfl⟩
    exact un_next hok0 hPx (tb:=tb) (cb:=decide (q.length≠33)) hit (y:=⟨3,(true || decide (q.length≠33)),pl,m1,z1,lkM q,lkZ q,nx,(pv,lv,cv),l,oo++od⟩) rfl (by simp) ⟨inferInstance,inferInstance⟩ ⟨inferInstance,inferInstance⟩ ⟨_,_,rfl,hol2,hbd⟩ (by dsimp only;omega) hpl rfl rfl rfl rfl (fun _=>by simp)
  by_cases h3:i=3
  ·subst h3
   have k0:(((3:Nat):Int) == 0)=false:=rfl
   have k1:(((3:Nat):Int) == 1)=false:=rfl
   have k2:(((3:Nat):Int) == 2)=false:=rfl
   have k3:(((3:Nat):Int) == 3)=true:=rfl
   have hit:itOk 3 (tg,q)↔tb=false∧fnB q 63=false:=by
    rw [←htb];unfold itOk;rw [←hmn];simp;intro _;omega
   cases b
   ·repeat' (first|(refine wlS ?_)|(refine wlG ?_)|(refine wlB ?_)|(refine wlMIN ?_)|(refine wlNB ?_)|(refine wlE ?_)|(refine efSvao ?_;intro v oa ho)|(refine efG ?_)|(refine efGnn ?_;intro n hn)|(refine efZCnn ?_;intro n hn)|(refine efBnn ?_;intro n hn)|(refine efB ?_)|(refine efBS ?_)|(refine wl_skip rfl rfl ?_)|(refine wdS ?_)|(refine wdG ?_)|(refine wdV ?_)|(refine wdB ?_)|(refine wdMIN ?_)|(refine wdE ?_)|(refine wdT ?_)|(refine wdTO ?_)|(refine wd_skip rfl rfl ?_)|((with_reducible refine seld_nil ?_);refine wd_nil hm0 ?_;clear hm0 hw0)|((with_reducible refine wc_seq ?_);intro K hK)|(refine auC ?_)|(refine wc_cond rfl (fun hc=>?_) (fun hc=>?_))|(refine wc_draw (by kernel_rfl) (by kernel_rfl) (by decide +kernel) ?_;intro w0 hw0 hm0;(try simp only [List.append_eq,List.cons_append,List.nil_append]))|(refine auP ?_)|((refine auR ?_);clear hK K)|(refine auR ?_)|((with_reducible refine hK _ _ ?_);clear hK K)|fail)
    have e:#[Value.bool false].setIfInBounds 0 (Value.bool tb)=#[.bool tb]:=rfl
    rw [e];clear e
    refine wl_updP rfl rfl rfl rfl rfl (fun w' hm hw=>fnum_n w' (b:=tb) (p:=q) (VwB.out w' hm) 63 (fun hq hin=>by
    have h1:=CsF.blk ba.cs (w:=w') (Hold.out w' hm) hq
    rw [List.mem_singleton.1 hin] at h1
    have nd:=hm.nd
    simp only [keys,List.map_cons,List.map_append,List.nodup_cons,List.mem_cons,List.mem_append,not_or] at nd
    exact nd.2.1.2.2.2.1 (by simpa only [keys] using h1)) hw) ?_
    intro x c hx;subst hx
    repeat' (first|(refine wlS ?_)|(refine wlG ?_)|(refine wlB ?_)|(refine wlE ?_)|(refine efSvao ?_;intro v oa ho)|(refine efG ?_)|(refine efGnn ?_;intro n hn)|(refine efBnn ?_;intro n hn)|(refine efB ?_)|(refine efBS ?_)|(refine wl_skip rfl rfl ?_)|(refine wdS ?_)|(refine wdG ?_)|(refine wdV ?_)|(refine wdB ?_)|(refine wdE ?_)|(refine wdT ?_)|(refine wdTO ?_)|(refine wd_skip rfl rfl ?_)|((with_reducible refine seld_nil ?_);refine wd_nil hm0 ?_;clear hm0 hw0)|((with_reducible refine wc_seq ?_);intro K hK)|(refine auC ?_)|(refine wc_cond rfl (fun hc=>?_) (fun hc=>?_))|(refine wc_draw (by kernel_rfl) (by kernel_rfl) (by decide +kernel) ?_;intro w0 hw0 hm0;(try simp only [List.append_eq,List.cons_append,List.nil_append]))|(refine auP ?_)|((refine auR ?_);clear hK K)|(refine auR ?_)|((with_reducible refine hK _ _ ?_);clear hK K)|fail)
    refine ⟨⟨4,(tb || fnB q 63),pl,m1,z1,m2,z2,IntKind.i64.wrap (((readN q).2 % 18446744073709551616:Nat):Int),(pv,lv,cv),l,oo++od⟩,?_,by dsimp only;omega,Fits.of ⟨rfl,rfl,rfl,rfl,rfl,rfl,rfl,trivial⟩ (.skip (SubL.refl _)) rfl⟩
    exact un_next hok0 hPx (tb:=tb) (cb:=fnB q 63) hit (y:=⟨4,(tb || fnB q 63),pl,m1,z1,m2,z2,IntKind.i64.wrap (((readN q).2 % 18446744073709551616:Nat):Int),(pv,lv,cv),l,oo++od⟩) rfl (by simp) ⟨inferInstance,inferInstance⟩ ⟨inferInstance,inferInstance⟩ ⟨_,_,rfl,hol2,hbd⟩ (by dsimp only;omega) hpl rfl rfl rfl rfl (fun _=>by simp)
   ·repeat' (first|(refine wlS ?_)|(refine wlG ?_)|(refine wlB ?_)|(refine wlMIN ?_)|(refine wlNB ?_)|(refine wlE ?_)|(refine efSvao ?_;intro v oa ho)|(refine efG ?_)|(refine efGnn ?_;intro n hn)|(refine efZCnn ?_;intro n hn)|(refine efBnn ?_;intro n hn)|(refine efB ?_)|(refine efBS ?_)|(refine wl_skip rfl rfl ?_)|(refine wdS ?_)|(refine wdG ?_)|(refine wdV ?_)|(refine wdB ?_)|(refine wdMIN ?_)|(refine wdE ?_)|(refine wdT ?_)|(refine wdTO ?_)|(refine wd_skip rfl rfl ?_)|((with_reducible refine seld_nil ?_);refine wd_nil hm0 ?_;clear hm0 hw0)|((with_reducible refine wc_seq ?_);intro K hK)|(refine auC ?_)|(refine wc_cond rfl (fun hc=>?_) (fun hc=>?_))|(refine wc_draw (by kernel_rfl) (by kernel_rfl) (by decide +kernel) ?_;intro w0 hw0 hm0;(try simp only [List.append_eq,List.cons_append,List.nil_append]))|(refine auP ?_)|((refine auR ?_);clear hK K)|(refine auR ?_)|((with_reducible refine hK _ _ ?_);clear hK K)|fail)
    have e:#[Value.bool true].setIfInBounds 0 (Value.bool true)=#[.bool true]:=rfl
    rw [e];clear e
    refine wl_updP rfl rfl rfl rfl rfl (fun w' hm hw=>fnum_n w' (b:=true) (p:=q) (VwB.out w' hm) 63 (fun hq hin=>by
    have h1:=CsF.blk ba.cs (w:=w') (Hold.out w' hm) hq
    rw [List.mem_singleton.1 hin] at h1
    have nd:=hm.nd
    simp only [keys,List.map_cons,List.map_append,List.nodup_cons,List.mem_cons,List.mem_append,not_or] at nd
    exact nd.2.1.2.2.2.1 (by simpa only [keys] using h1)) hw) ?_
    intro x c hx;subst hx
    repeat' (first|(refine wlS ?_)|(refine wlG ?_)|(refine wlB ?_)|(refine wlE ?_)|(refine efSvao ?_;intro v oa ho)|(refine efG ?_)|(refine efGnn ?_;intro n hn)|(refine efBnn ?_;intro n hn)|(refine efB ?_)|(refine efBS ?_)|(refine wl_skip rfl rfl ?_)|(refine wdS ?_)|(refine wdG ?_)|(refine wdV ?_)|(refine wdB ?_)|(refine wdE ?_)|(refine wdT ?_)|(refine wdTO ?_)|(refine wd_skip rfl rfl ?_)|((with_reducible refine seld_nil ?_);refine wd_nil hm0 ?_;clear hm0 hw0)|((with_reducible refine wc_seq ?_);intro K hK)|(refine auC ?_)|(refine wc_cond rfl (fun hc=>?_) (fun hc=>?_))|(refine wc_draw (by kernel_rfl) (by kernel_rfl) (by decide +kernel) ?_;intro w0 hw0 hm0;(try simp only [List.append_eq,List.cons_append,List.nil_append]))|(refine auP ?_)|((refine auR ?_);clear hK K)|(refine auR ?_)|((with_reducible refine hK _ _ ?_);clear hK K)|fail)
    refine ⟨⟨4,(true || fnB q 63),pl,m1,z1,m2,z2,IntKind.i64.wrap (((readN q).2 % 18446744073709551616:Nat):Int),(pv,lv,cv),l,oo++od⟩,?_,by dsimp only;omega,Fits.of ⟨rfl,rfl,rfl,rfl,rfl,rfl,rfl,trivial⟩ (.skip (SubL.refl _)) rfl⟩
    exact un_next hok0 hPx (tb:=tb) (cb:=fnB q 63) hit (y:=⟨4,(true || fnB q 63),pl,m1,z1,m2,z2,IntKind.i64.wrap (((readN q).2 % 18446744073709551616:Nat):Int),(pv,lv,cv),l,oo++od⟩) rfl (by simp) ⟨inferInstance,inferInstance⟩ ⟨inferInstance,inferInstance⟩ ⟨_,_,rfl,hol2,hbd⟩ (by dsimp only;omega) hpl rfl rfl rfl rfl (fun _=>by simp)
  ·have k0:((i:Int) == 0)=false:=by simp only [beq_eq_false_iff_ne,ne_eq];omega
   have k1:((i:Int) == 1)=false:=by simp only [beq_eq_false_iff_ne,ne_eq];omega
   have k2:((i:Int) == 2)=false:=by simp only [beq_eq_false_iff_ne,ne_eq];omega
   have k3:((i:Int) == 3)=false:=by simp only [beq_eq_false_iff_ne,ne_eq];omega
   have hit:itOk i (tg,q)↔tb=false∧HdOk q:=by
    rw [←htb];unfold itOk;rw [←hmn,if_neg h0,if_neg (by omega),if_neg h3];simp;intro _;omega
   cases b
   ·repeat' (first|(refine wlS ?_)|(refine wlG ?_)|(refine wlB ?_)|(refine wlMIN ?_)|(refine wlNB ?_)|(refine wlE ?_)|(refine efSvao ?_;intro v oa ho)|(refine efG ?_)|(refine efGnn ?_;intro n hn)|(refine efZCnn ?_;intro n hn)|(refine efBnn ?_;intro n hn)|(refine efB ?_)|(refine efBS ?_)|(refine wl_skip rfl rfl ?_)|((with_reducible refine wc_seq ?_);intro K hK)|(refine auC ?_)|(refine wc_cond rfl (fun hc=>?_) (fun hc=>?_))|(refine auP ?_)|((refine auR ?_);clear hK K)|(refine auR ?_)|((with_reducible refine hK _ _ ?_);clear hK K)|fail)
    have e:#[Value.bool false].setIfInBounds 0 (Value.bool tb)=#[.bool tb]:=rfl
    rw [e];clear e
    refine wc_drawH [(n,(#[.int .u8 (tg:Int),bv],44)),(nk,(rwA (kpG pl m1 (z1:Int) m2 (z2:Int) nx (.slice pv lv cv)),28))] [9] (by kernel_rfl) (by
     repeat (first|exact SubL.nil|exact SubL.refl _|refine SubL.keep ?_|exact SubL.headA _ _|refine SubL.keepA ?_ _|refine SubL.skip ?_|refine SubL.skipA ?_ _)) ?_
    (try simp only [List.append_eq,List.cons_append,List.nil_append,List.length_cons,List.length_nil,Nat.reduceAdd])
    repeat' (first|(refine wlS ?_)|(refine wlG ?_)|(refine wlB ?_)|(refine wlE ?_)|(refine efSvao ?_;intro v oa ho)|(refine efG ?_)|(refine efGnn ?_;intro n hn)|(refine efBnn ?_;intro n hn)|(refine efB ?_)|(refine efBS ?_)|(refine wl_skip rfl rfl ?_)|((with_reducible refine wc_seq ?_);intro K hK)|(refine auC ?_)|(refine wc_cond rfl (fun hc=>?_) (fun hc=>?_))|((with_reducible refine wc_drawT (by kernel_rfl) ?_);(try simp only [List.append_eq,List.cons_append,List.nil_append,List.length_cons,List.length_nil,Nat.reduceAdd]))|((with_reducible refine sel_wh ?_);(refine wh_if (by decide +kernel) ?_);first|(refine wh_take (lq:=[]) rfl rfl rfl rfl (by first|exact rvS|exact rvG|exact rvB|exact rvE) (Or.inl rfl) ?_)|(refine wh_takeL rfl rfl rfl rfl (by first|exact rvS|exact rvG|exact rvB|exact rvE) (by decide +kernel) ?_))|(refine whS ?_;intro v hv hp)|((with_reducible refine sel_wh ?_);first|(refine wh_pass rfl rfl rfl rfl ?_)|(refine wh_done rfl ?_)|(refine wh_all rfl ?_))|((with_reducible refine sel_rest ?_);first|exact rest_nil rfl|refine rest_cons rfl rfl ?_ ?_)|((with_reducible refine sel_nx ?_);first|refine next_of ?_|refine next_late (by decide +kernel) ?_)|(refine auP ?_)|((refine auR ?_);clear hK K)|(refine auR ?_)|((with_reducible refine hK _ _ ?_);clear hK K)|fail)
    by_cases hf:HdForm q
    ·obtain ⟨e1,⟨ka,qa⟩,⟨kc,qc⟩,e2,e3,e4⟩:=hf
     dsimp only at e3 e4
     subst e3;subst e4
     have hrd:rdD q=(0,[(1,qa),(2,qc)]):=Prod.ext e1 e2
     by_cases hG:GoodA qc
     ·have hq:HdOk q↔fnB qa 63=false:=⟨fun h=>by
       obtain ⟨a,c,h1,h2,h3⟩:=h.out
       rw [hrd] at h1
       simp only [Prod.mk.injEq,List.cons.injEq,true_and,and_true] at h1
       rw [h1.1];exact h3,fun h=>⟨_,_,hrd,hG,h⟩⟩
      have hO:=hdO_of hrd
      refine wl_updPO rfl rfl rfl rfl rfl (fun w' hm hw=>fheld_good w' (b:=tb) (p:=q) (VwB.out w' hm) (fun hq hin=>by
      have h1:=CsF.blk ba.cs (w:=w') (Hold.out w' hm) hq
      rw [List.mem_singleton.1 hin] at h1
      have nd:=hm.nd
      simp only [keys,List.map_cons,List.map_append,List.nodup_cons,List.mem_cons,List.mem_append,not_or] at nd
      exact nd.2.1.2.2.2.1 (by simpa only [keys] using h1)) hw hrd hG) (by intro _;repeat (first|exact At.here|apply At.there|apply At.skipA)) ?_
      intro x c oa hx
      obtain ⟨x1,xp,xl,xc⟩:=x
      obtain ⟨hx1,rfl,at_,hT,hab⟩:=hx
      dsimp only at hx1 hT hab ⊢
      obtain ⟨oX,rfl⟩:∃ o,o=oa:=⟨oa,rfl⟩
      repeat' (first|(refine wlS ?_)|(refine wlG ?_)|(refine wlB ?_)|(refine wlE ?_)|(refine efSvao ?_;intro v oa ho)|(refine efG ?_)|(refine efGnn ?_;intro n hn)|(refine efBnn ?_;intro n hn)|(refine efB ?_)|(refine efBS ?_)|(refine wl_skip rfl rfl ?_)|((with_reducible refine wc_seq ?_);intro K hK)|(refine auC ?_)|(refine wc_cond rfl (fun hc=>?_) (fun hc=>?_))|((with_reducible refine wc_drawT (by kernel_rfl) ?_);(try simp only [List.append_eq,List.cons_append,List.nil_append,List.length_cons,List.length_nil,Nat.reduceAdd]))|((with_reducible refine sel_wh ?_);(refine wh_if (by decide +kernel) ?_);first|(refine wh_take (lq:=[]) rfl rfl rfl rfl (by first|exact rvS|exact rvG|exact rvB|exact rvE) (Or.inl rfl) ?_)|(refine wh_takeL rfl rfl rfl rfl (by first|exact rvS|exact rvG|exact rvB|exact rvE) (by decide +kernel) ?_))|(refine whS ?_;intro v hv hp)|((with_reducible refine sel_wh ?_);first|(refine wh_pass rfl rfl rfl rfl ?_)|(refine wh_done rfl ?_)|(refine wh_all rfl ?_))|((with_reducible refine sel_rest ?_);first|exact rest_nil rfl|refine rest_cons rfl rfl ?_ ?_)|((with_reducible refine sel_nx ?_);first|refine next_of ?_|refine next_late (by decide +kernel) ?_)|(refine auP ?_)|((refine auR ?_);clear hK K)|(refine auR ?_)|((with_reducible refine hK _ _ ?_);clear hK K)|fail)
      obtain ⟨pp,cc,hv,_⟩:=ho.ln.out
      subst hv
      obtain ⟨oN,rfl⟩:∃ o,o=oa:=⟨oa,rfl⟩
      have hll:(l++[((x1,0,.slice xp xl xc,at_):He)]).length=l.length+1:=by simp
      refine ⟨⟨i+1,(tb || fnB qa 63),pl,m1,z1,m2,z2,nx,(pp,l.length+1,cc),l++[(x1,0,.slice xp xl xc,at_)],oN++(od++oX)⟩,?_,by dsimp only;omega,Fits.of ⟨rfl,rfl,rfl,rfl,rfl,rfl,rfl,trivial⟩ ?_ rfl⟩
      ·refine un_next hok0 hPx (tb:=tb) (cb:=fnB qa 63) (hit.trans (by rw [hq])) (y:=⟨i+1,(tb || fnB qa 63),pl,m1,z1,m2,z2,nx,(pp,l.length+1,cc),l++[(x1,0,.slice xp xl xc,at_)],oN++(od++oX)⟩) rfl (by simp) ⟨inferInstance,inferInstance⟩ ⟨inferInstance,inferInstance⟩ ⟨oN,od++oX,rfl,?_,hbd.app (BodH.one hT)⟩ (by dsimp only;rw [hll];omega) hpl (by rw [if_neg h0]) (by rw [if_neg h1]) (by rw [if_neg h2]) (by rw [if_neg h3]) ?_
       ·dsimp only
        rw [hll,hesC_app]
        exact ho
       ·intro hI
        dsimp only;rw [List.map_append,if_neg (show ¬i<4 by omega),hO,←hx1,←hab];rfl
      ·dsimp only
       repeat (first|exact SubL.nil|exact SubL.refl _|refine SubL.keep ?_|exact SubL.headA _ _|refine SubL.keepA ?_ _|refine SubL.skip ?_|refine SubL.skipA ?_ _)
     ·have hq:¬HdOk q:=fun h=>by
       obtain ⟨a,c,h1,h2,h3⟩:=h.out
       rw [hrd] at h1
       simp only [Prod.mk.injEq,List.cons.injEq,true_and,and_true] at h1
       rw [h1.2] at hG;exact hG h2
      refine wl_updP rfl rfl rfl rfl rfl (fun w' hm hw=>fheld_none w' (b:=tb) (p:=q) (VwB.out w' hm) (fun hq hin=>by
      have h1:=CsF.blk ba.cs (w:=w') (Hold.out w' hm) hq
      rw [List.mem_singleton.1 hin] at h1
      have nd:=hm.nd
      simp only [keys,List.map_cons,List.map_append,List.nodup_cons,List.mem_cons,List.mem_append,not_or] at nd
      exact nd.2.1.2.2.2.1 (by simpa only [keys] using h1)) hw hrd hG) ?_
      intro x c hx;subst hx
      obtain ⟨z,rfl⟩:∃ z,z=x:=⟨x,rfl⟩
      repeat' (first|(refine wlS ?_)|(refine wlG ?_)|(refine wlB ?_)|(refine wlE ?_)|(refine efSvao ?_;intro v oa ho)|(refine efG ?_)|(refine efGnn ?_;intro n hn)|(refine efBnn ?_;intro n hn)|(refine efB ?_)|(refine efBS ?_)|(refine wl_skip rfl rfl ?_)|((with_reducible refine wc_seq ?_);intro K hK)|(refine auC ?_)|(refine wc_cond rfl (fun hc=>?_) (fun hc=>?_))|((with_reducible refine wc_drawT (by kernel_rfl) ?_);(try simp only [List.append_eq,List.cons_append,List.nil_append,List.length_cons,List.length_nil,Nat.reduceAdd]))|((with_reducible refine sel_wh ?_);(refine wh_if (by decide +kernel) ?_);first|(refine wh_take (lq:=[]) rfl rfl rfl rfl (by first|exact rvS|exact rvG|exact rvB|exact rvE) (Or.inl rfl) ?_)|(refine wh_takeL rfl rfl rfl rfl (by first|exact rvS|exact rvG|exact rvB|exact rvE) (by decide +kernel) ?_))|(refine whS ?_;intro v hv hp)|((with_reducible refine sel_wh ?_);first|(refine wh_pass rfl rfl rfl rfl ?_)|(refine wh_done rfl ?_)|(refine wh_all rfl ?_))|((with_reducible refine sel_rest ?_);first|exact rest_nil rfl|refine rest_cons rfl rfl ?_ ?_)|((with_reducible refine sel_nx ?_);first|refine next_of ?_|refine next_late (by decide +kernel) ?_)|(refine auP ?_)|((refine auR ?_);clear hK K)|(refine auR ?_)|((with_reducible refine hK _ _ ?_);clear hK K)|fail)
      obtain ⟨pp,cc,hv,_⟩:=ho.ln.out
      subst hv
      obtain ⟨oN,rfl⟩:∃ o,o=oa:=⟨oa,rfl⟩
      have hll:(l++[((z,0,.slice none 0 0,[]):He)]).length=l.length+1:=by simp
      refine ⟨⟨i+1,true,pl,m1,z1,m2,z2,nx,(pp,l.length+1,cc),l++[(z,0,.slice none 0 0,[])],oN++(od++[])⟩,?_,by dsimp only;omega,Fits.of ⟨rfl,rfl,rfl,rfl,rfl,rfl,rfl,trivial⟩ ?_ rfl⟩
      ·refine un_next hok0 hPx (tb:=tb) (cb:=true) ⟨fun h=>absurd (hit.1 h).2 hq,fun h=>absurd h.2 (by decide)⟩ (y:=⟨i+1,true,pl,m1,z1,m2,z2,nx,(pp,l.length+1,cc),l++[(z,0,.slice none 0 0,[])],oN++(od++[])⟩) rfl (by simp) ⟨inferInstance,inferInstance⟩ ⟨inferInstance,inferInstance⟩ ⟨oN,od++[],rfl,?_,hbd.app (BodH.one OwnT.nil)⟩ (by dsimp only;rw [hll];omega) hpl (by rw [if_neg h0]) (by rw [if_neg h1]) (by rw [if_neg h2]) (by rw [if_neg h3]) ?_
       ·dsimp only
        rw [hll,hesC_app]
        exact ho
       ·intro hI
        exact absurd (hit.1 hI).2 hq
      ·dsimp only
       repeat (first|exact SubL.nil|exact SubL.refl _|refine SubL.keep ?_|exact SubL.headA _ _|refine SubL.keepA ?_ _|refine SubL.skip ?_|refine SubL.skipA ?_ _)
    ·have hq:¬HdOk q:=fun h=>by
      obtain ⟨a,c,h1,h2,h3⟩:=h.out
      exact hf ⟨by rw [h1],(1,a),(2,c),by rw [h1],rfl,rfl⟩
     refine wl_updP rfl rfl rfl rfl rfl (fun w' hm hw=>fheld_bad w' (b:=tb) (p:=q) (VwB.out w' hm) (fun hq hin=>by
      have h1:=CsF.blk ba.cs (w:=w') (Hold.out w' hm) hq
      rw [List.mem_singleton.1 hin] at h1
      have nd:=hm.nd
      simp only [keys,List.map_cons,List.map_append,List.nodup_cons,List.mem_cons,List.mem_append,not_or] at nd
      exact nd.2.1.2.2.2.1 (by simpa only [keys] using h1)) hw hf) ?_
     intro x c hx;subst hx
     repeat' (first|(refine wlS ?_)|(refine wlG ?_)|(refine wlB ?_)|(refine wlE ?_)|(refine efSvao ?_;intro v oa ho)|(refine efG ?_)|(refine efGnn ?_;intro n hn)|(refine efBnn ?_;intro n hn)|(refine efB ?_)|(refine efBS ?_)|(refine wl_skip rfl rfl ?_)|((with_reducible refine wc_seq ?_);intro K hK)|(refine auC ?_)|(refine wc_cond rfl (fun hc=>?_) (fun hc=>?_))|((with_reducible refine wc_drawT (by kernel_rfl) ?_);(try simp only [List.append_eq,List.cons_append,List.nil_append,List.length_cons,List.length_nil,Nat.reduceAdd]))|((with_reducible refine sel_wh ?_);(refine wh_if (by decide +kernel) ?_);first|(refine wh_take (lq:=[]) rfl rfl rfl rfl (by first|exact rvS|exact rvG|exact rvB|exact rvE) (Or.inl rfl) ?_)|(refine wh_takeL rfl rfl rfl rfl (by first|exact rvS|exact rvG|exact rvB|exact rvE) (by decide +kernel) ?_))|(refine whS ?_;intro v hv hp)|((with_reducible refine sel_wh ?_);first|(refine wh_pass rfl rfl rfl rfl ?_)|(refine wh_done rfl ?_)|(refine wh_all rfl ?_))|((with_reducible refine sel_rest ?_);first|exact rest_nil rfl|refine rest_cons rfl rfl ?_ ?_)|((with_reducible refine sel_nx ?_);first|refine next_of ?_|refine next_late (by decide +kernel) ?_)|(refine auP ?_)|((refine auR ?_);clear hK K)|(refine auR ?_)|((with_reducible refine hK _ _ ?_);clear hK K)|fail)
     obtain ⟨pp,cc,hv,_⟩:=ho.ln.out
     subst hv
     obtain ⟨oN,rfl⟩:∃ o,o=oa:=⟨oa,rfl⟩
     have hll:(l++[((0,0,.slice none 0 0,[]):He)]).length=l.length+1:=by simp
     refine ⟨⟨i+1,true,pl,m1,z1,m2,z2,nx,(pp,l.length+1,cc),l++[(0,0,.slice none 0 0,[])],oN++(od++[])⟩,?_,by dsimp only;omega,Fits.of ⟨rfl,rfl,rfl,rfl,rfl,rfl,rfl,trivial⟩ ?_ rfl⟩
     ·refine un_next hok0 hPx (tb:=tb) (cb:=true) ⟨fun h=>absurd (hit.1 h).2 hq,fun h=>absurd h.2 (by decide)⟩ (y:=⟨i+1,true,pl,m1,z1,m2,z2,nx,(pp,l.length+1,cc),l++[(0,0,.slice none 0 0,[])],oN++(od++[])⟩) rfl (by simp) ⟨inferInstance,inferInstance⟩ ⟨inferInstance,inferInstance⟩ ⟨oN,od++[],rfl,?_,hbd.app (BodH.one OwnT.nil)⟩ (by dsimp only;rw [hll];omega) hpl (by rw [if_neg h0]) (by rw [if_neg h1]) (by rw [if_neg h2]) (by rw [if_neg h3]) ?_
      ·dsimp only
       rw [hll,hesC_app]
       exact ho
      ·intro hI
       exact absurd (hit.1 hI).2 hq
     ·dsimp only
      repeat (first|exact SubL.nil|exact SubL.refl _|refine SubL.keep ?_|exact SubL.headA _ _|refine SubL.keepA ?_ _|refine SubL.skip ?_|refine SubL.skipA ?_ _)
   ·repeat' (first|(refine wlS ?_)|(refine wlG ?_)|(refine wlB ?_)|(refine wlMIN ?_)|(refine wlNB ?_)|(refine wlE ?_)|(refine efSvao ?_;intro v oa ho)|(refine efG ?_)|(refine efGnn ?_;intro n hn)|(refine efZCnn ?_;intro n hn)|(refine efBnn ?_;intro n hn)|(refine efB ?_)|(refine efBS ?_)|(refine wl_skip rfl rfl ?_)|((with_reducible refine wc_seq ?_);intro K hK)|(refine auC ?_)|(refine wc_cond rfl (fun hc=>?_) (fun hc=>?_))|(refine auP ?_)|((refine auR ?_);clear hK K)|(refine auR ?_)|((with_reducible refine hK _ _ ?_);clear hK K)|fail)
    have e:#[Value.bool true].setIfInBounds 0 (Value.bool true)=#[.bool true]:=rfl
    rw [e];clear e
    refine wc_drawH [(n,(#[.int .u8 (tg:Int),bv],44)),(nk,(rwA (kpG pl m1 (z1:Int) m2 (z2:Int) nx (.slice pv lv cv)),28))] [9] (by kernel_rfl) (by
     repeat (first|exact SubL.nil|exact SubL.refl _|refine SubL.keep ?_|exact SubL.headA _ _|refine SubL.keepA ?_ _|refine SubL.skip ?_|refine SubL.skipA ?_ _)) ?_
    (try simp only [List.append_eq,List.cons_append,List.nil_append,List.length_cons,List.length_nil,Nat.reduceAdd])
    repeat' (first|(refine wlS ?_)|(refine wlG ?_)|(refine wlB ?_)|(refine wlE ?_)|(refine efSvao ?_;intro v oa ho)|(refine efG ?_)|(refine efGnn ?_;intro n hn)|(refine efBnn ?_;intro n hn)|(refine efB ?_)|(refine efBS ?_)|(refine wl_skip rfl rfl ?_)|((with_reducible refine wc_seq ?_);intro K hK)|(refine auC ?_)|(refine wc_cond rfl (fun hc=>?_) (fun hc=>?_))|((with_reducible refine wc_drawT (by kernel_rfl) ?_);(try simp only [List.append_eq,List.cons_append,List.nil_append,List.length_cons,List.length_nil,Nat.reduceAdd]))|((with_reducible refine sel_wh ?_);(refine wh_if (by decide +kernel) ?_);first|(refine wh_take (lq:=[]) rfl rfl rfl rfl (by first|exact rvS|exact rvG|exact rvB|exact rvE) (Or.inl rfl) ?_)|(refine wh_takeL rfl rfl rfl rfl (by first|exact rvS|exact rvG|exact rvB|exact rvE) (by decide +kernel) ?_))|(refine whS ?_;intro v hv hp)|((with_reducible refine sel_wh ?_);first|(refine wh_pass rfl rfl rfl rfl ?_)|(refine wh_done rfl ?_)|(refine wh_all rfl ?_))|((with_reducible refine sel_rest ?_);first|exact rest_nil rfl|refine rest_cons rfl rfl ?_ ?_)|((with_reducible refine sel_nx ?_);first|refine next_of ?_|refine next_late (by decide +kernel) ?_)|(refine auP ?_)|((refine auR ?_);clear hK K)|(refine auR ?_)|((with_reducible refine hK _ _ ?_);clear hK K)|fail)
    by_cases hf:HdForm q
    ·obtain ⟨e1,⟨ka,qa⟩,⟨kc,qc⟩,e2,e3,e4⟩:=hf
     dsimp only at e3 e4
     subst e3;subst e4
     have hrd:rdD q=(0,[(1,qa),(2,qc)]):=Prod.ext e1 e2
     by_cases hG:GoodA qc
     ·have hq:HdOk q↔fnB qa 63=false:=⟨fun h=>by
       obtain ⟨a,c,h1,h2,h3⟩:=h.out
       rw [hrd] at h1
       simp only [Prod.mk.injEq,List.cons.injEq,true_and,and_true] at h1
       rw [h1.1];exact h3,fun h=>⟨_,_,hrd,hG,h⟩⟩
      have hO:=hdO_of hrd
      refine wl_updPO rfl rfl rfl rfl rfl (fun w' hm hw=>fheld_good w' (b:=true) (p:=q) (VwB.out w' hm) (fun hq hin=>by
      have h1:=CsF.blk ba.cs (w:=w') (Hold.out w' hm) hq
      rw [List.mem_singleton.1 hin] at h1
      have nd:=hm.nd
      simp only [keys,List.map_cons,List.map_append,List.nodup_cons,List.mem_cons,List.mem_append,not_or] at nd
      exact nd.2.1.2.2.2.1 (by simpa only [keys] using h1)) hw hrd hG) (by intro _;repeat (first|exact At.here|apply At.there|apply At.skipA)) ?_
      intro x c oa hx
      obtain ⟨x1,xp,xl,xc⟩:=x
      obtain ⟨hx1,rfl,at_,hT,hab⟩:=hx
      dsimp only at hx1 hT hab ⊢
      obtain ⟨oX,rfl⟩:∃ o,o=oa:=⟨oa,rfl⟩
      repeat' (first|(refine wlS ?_)|(refine wlG ?_)|(refine wlB ?_)|(refine wlE ?_)|(refine efSvao ?_;intro v oa ho)|(refine efG ?_)|(refine efGnn ?_;intro n hn)|(refine efBnn ?_;intro n hn)|(refine efB ?_)|(refine efBS ?_)|(refine wl_skip rfl rfl ?_)|((with_reducible refine wc_seq ?_);intro K hK)|(refine auC ?_)|(refine wc_cond rfl (fun hc=>?_) (fun hc=>?_))|((with_reducible refine wc_drawT (by kernel_rfl) ?_);(try simp only [List.append_eq,List.cons_append,List.nil_append,List.length_cons,List.length_nil,Nat.reduceAdd]))|((with_reducible refine sel_wh ?_);(refine wh_if (by decide +kernel) ?_);first|(refine wh_take (lq:=[]) rfl rfl rfl rfl (by first|exact rvS|exact rvG|exact rvB|exact rvE) (Or.inl rfl) ?_)|(refine wh_takeL rfl rfl rfl rfl (by first|exact rvS|exact rvG|exact rvB|exact rvE) (by decide +kernel) ?_))|(refine whS ?_;intro v hv hp)|((with_reducible refine sel_wh ?_);first|(refine wh_pass rfl rfl rfl rfl ?_)|(refine wh_done rfl ?_)|(refine wh_all rfl ?_))|((with_reducible refine sel_rest ?_);first|exact rest_nil rfl|refine rest_cons rfl rfl ?_ ?_)|((with_reducible refine sel_nx ?_);first|refine next_of ?_|refine next_late (by decide +kernel) ?_)|(refine auP ?_)|((refine auR ?_);clear hK K)|(refine auR ?_)|((with_reducible refine hK _ _ ?_);clear hK K)|fail)
      obtain ⟨pp,cc,hv,_⟩:=ho.ln.out
      subst hv
      obtain ⟨oN,rfl⟩:∃ o,o=oa:=⟨oa,rfl⟩
      have hll:(l++[((x1,0,.slice xp xl xc,at_):He)]).length=l.length+1:=by simp
      refine ⟨⟨i+1,(true || fnB qa 63),pl,m1,z1,m2,z2,nx,(pp,l.length+1,cc),l++[(x1,0,.slice xp xl xc,at_)],oN++(od++oX)⟩,?_,by dsimp only;omega,Fits.of ⟨rfl,rfl,rfl,rfl,rfl,rfl,rfl,trivial⟩ ?_ rfl⟩
      ·refine un_next hok0 hPx (tb:=tb) (cb:=fnB qa 63) (hit.trans (by rw [hq])) (y:=⟨i+1,(true || fnB qa 63),pl,m1,z1,m2,z2,nx,(pp,l.length+1,cc),l++[(x1,0,.slice xp xl xc,at_)],oN++(od++oX)⟩) rfl (by simp) ⟨inferInstance,inferInstance⟩ ⟨inferInstance,inferInstance⟩ ⟨oN,od++oX,rfl,?_,hbd.app (BodH.one hT)⟩ (by dsimp only;rw [hll];omega) hpl (by rw [if_neg h0]) (by rw [if_neg h1]) (by rw [if_neg h2]) (by rw [if_neg h3]) ?_
       ·dsimp only
        rw [hll,hesC_app]
        exact ho
       ·intro hI
        dsimp only;rw [List.map_append,if_neg (show ¬i<4 by omega),hO,←hx1,←hab];rfl
      ·dsimp only
       repeat (first|exact SubL.nil|exact SubL.refl _|refine SubL.keep ?_|exact SubL.headA _ _|refine SubL.keepA ?_ _|refine SubL.skip ?_|refine SubL.skipA ?_ _)
     ·have hq:¬HdOk q:=fun h=>by
       obtain ⟨a,c,h1,h2,h3⟩:=h.out
       rw [hrd] at h1
       simp only [Prod.mk.injEq,List.cons.injEq,true_and,and_true] at h1
       rw [h1.2] at hG;exact hG h2
      refine wl_updP rfl rfl rfl rfl rfl (fun w' hm hw=>fheld_none w' (b:=true) (p:=q) (VwB.out w' hm) (fun hq hin=>by
      have h1:=CsF.blk ba.cs (w:=w') (Hold.out w' hm) hq
      rw [List.mem_singleton.1 hin] at h1
      have nd:=hm.nd
      simp only [keys,List.map_cons,List.map_append,List.nodup_cons,List.mem_cons,List.mem_append,not_or] at nd
      exact nd.2.1.2.2.2.1 (by simpa only [keys] using h1)) hw hrd hG) ?_
      intro x c hx;subst hx
      obtain ⟨z,rfl⟩:∃ z,z=x:=⟨x,rfl⟩
      repeat' (first|(refine wlS ?_)|(refine wlG ?_)|(refine wlB ?_)|(refine wlE ?_)|(refine efSvao ?_;intro v oa ho)|(refine efG ?_)|(refine efGnn ?_;intro n hn)|(refine efBnn ?_;intro n hn)|(refine efB ?_)|(refine efBS ?_)|(refine wl_skip rfl rfl ?_)|((with_reducible refine wc_seq ?_);intro K hK)|(refine auC ?_)|(refine wc_cond rfl (fun hc=>?_) (fun hc=>?_))|((with_reducible refine wc_drawT (by kernel_rfl) ?_);(try simp only [List.append_eq,List.cons_append,List.nil_append,List.length_cons,List.length_nil,Nat.reduceAdd]))|((with_reducible refine sel_wh ?_);(refine wh_if (by decide +kernel) ?_);first|(refine wh_take (lq:=[]) rfl rfl rfl rfl (by first|exact rvS|exact rvG|exact rvB|exact rvE) (Or.inl rfl) ?_)|(refine wh_takeL rfl rfl rfl rfl (by first|exact rvS|exact rvG|exact rvB|exact rvE) (by decide +kernel) ?_))|(refine whS ?_;intro v hv hp)|((with_reducible refine sel_wh ?_);first|(refine wh_pass rfl rfl rfl rfl ?_)|(refine wh_done rfl ?_)|(refine wh_all rfl ?_))|((with_reducible refine sel_rest ?_);first|exact rest_nil rfl|refine rest_cons rfl rfl ?_ ?_)|((with_reducible refine sel_nx ?_);first|refine next_of ?_|refine next_late (by decide +kernel) ?_)|(refine auP ?_)|((refine auR ?_);clear hK K)|(refine auR ?_)|((with_reducible refine hK _ _ ?_);clear hK K)|fail)
      obtain ⟨pp,cc,hv,_⟩:=ho.ln.out
      subst hv
      obtain ⟨oN,rfl⟩:∃ o,o=oa:=⟨oa,rfl⟩
      have hll:(l++[((z,0,.slice none 0 0,[]):He)]).length=l.length+1:=by simp
      refine ⟨⟨i+1,true,pl,m1,z1,m2,z2,nx,(pp,l.length+1,cc),l++[(z,0,.slice none 0 0,[])],oN++(od++[])⟩,?_,by dsimp only;omega,Fits.of ⟨rfl,rfl,rfl,rfl,rfl,rfl,rfl,trivial⟩ ?_ rfl⟩
      ·refine un_next hok0 hPx (tb:=tb) (cb:=true) ⟨fun h=>absurd (hit.1 h).2 hq,fun h=>absurd h.2 (by decide)⟩ (y:=⟨i+1,true,pl,m1,z1,m2,z2,nx,(pp,l.length+1,cc),l++[(z,0,.slice none 0 0,[])],oN++(od++[])⟩) rfl (by simp) ⟨inferInstance,inferInstance⟩ ⟨inferInstance,inferInstance⟩ ⟨oN,od++[],rfl,?_,hbd.app (BodH.one OwnT.nil)⟩ (by dsimp only;rw [hll];omega) hpl (by rw [if_neg h0]) (by rw [if_neg h1]) (by rw [if_neg h2]) (by rw [if_neg h3]) ?_
       ·dsimp only
        rw [hll,hesC_app]
        exact ho
       ·intro hI
        exact absurd (hit.1 hI).2 hq
      ·dsimp only
       repeat (first|exact SubL.nil|exact SubL.refl _|refine SubL.keep ?_|exact SubL.headA _ _|refine SubL.keepA ?_ _|refine SubL.skip ?_|refine SubL.skipA ?_ _)
    ·have hq:¬HdOk q:=fun h=>by
      obtain ⟨a,c,h1,h2,h3⟩:=h.out
      exact hf ⟨by rw [h1],(1,a),(2,c),by rw [h1],rfl,rfl⟩
     refine wl_updP rfl rfl rfl rfl rfl (fun w' hm hw=>fheld_bad w' (b:=true) (p:=q) (VwB.out w' hm) (fun hq hin=>by
      have h1:=CsF.blk ba.cs (w:=w') (Hold.out w' hm) hq
      rw [List.mem_singleton.1 hin] at h1
      have nd:=hm.nd
      simp only [keys,List.map_cons,List.map_append,List.nodup_cons,List.mem_cons,List.mem_append,not_or] at nd
      exact nd.2.1.2.2.2.1 (by simpa only [keys] using h1)) hw hf) ?_
     intro x c hx;subst hx
     repeat' (first|(refine wlS ?_)|(refine wlG ?_)|(refine wlB ?_)|(refine wlE ?_)|(refine efSvao ?_;intro v oa ho)|(refine efG ?_)|(refine efGnn ?_;intro n hn)|(refine efBnn ?_;intro n hn)|(refine efB ?_)|(refine efBS ?_)|(refine wl_skip rfl rfl ?_)|((with_reducible refine wc_seq ?_);intro K hK)|(refine auC ?_)|(refine wc_cond rfl (fun hc=>?_) (fun hc=>?_))|((with_reducible refine wc_drawT (by kernel_rfl) ?_);(try simp only [List.append_eq,List.cons_append,List.nil_append,List.length_cons,List.length_nil,Nat.reduceAdd]))|((with_reducible refine sel_wh ?_);(refine wh_if (by decide +kernel) ?_);first|(refine wh_take (lq:=[]) rfl rfl rfl rfl (by first|exact rvS|exact rvG|exact rvB|exact rvE) (Or.inl rfl) ?_)|(refine wh_takeL rfl rfl rfl rfl (by first|exact rvS|exact rvG|exact rvB|exact rvE) (by decide +kernel) ?_))|(refine whS ?_;intro v hv hp)|((with_reducible refine sel_wh ?_);first|(refine wh_pass rfl rfl rfl rfl ?_)|(refine wh_done rfl ?_)|(refine wh_all rfl ?_))|((with_reducible refine sel_rest ?_);first|exact rest_nil rfl|refine rest_cons rfl rfl ?_ ?_)|((with_reducible refine sel_nx ?_);first|refine next_of ?_|refine next_late (by decide +kernel) ?_)|(refine auP ?_)|((refine auR ?_);clear hK K)|(refine auR ?_)|((with_reducible refine hK _ _ ?_);clear hK K)|fail)
     obtain ⟨pp,cc,hv,_⟩:=ho.ln.out
     subst hv
     obtain ⟨oN,rfl⟩:∃ o,o=oa:=⟨oa,rfl⟩
     have hll:(l++[((0,0,.slice none 0 0,[]):He)]).length=l.length+1:=by simp
     refine ⟨⟨i+1,true,pl,m1,z1,m2,z2,nx,(pp,l.length+1,cc),l++[(0,0,.slice none 0 0,[])],oN++(od++[])⟩,?_,by dsimp only;omega,Fits.of ⟨rfl,rfl,rfl,rfl,rfl,rfl,rfl,trivial⟩ ?_ rfl⟩
     ·refine un_next hok0 hPx (tb:=tb) (cb:=true) ⟨fun h=>absurd (hit.1 h).2 hq,fun h=>absurd h.2 (by decide)⟩ (y:=⟨i+1,true,pl,m1,z1,m2,z2,nx,(pp,l.length+1,cc),l++[(0,0,.slice none 0 0,[])],oN++(od++[])⟩) rfl (by simp) ⟨inferInstance,inferInstance⟩ ⟨inferInstance,inferInstance⟩ ⟨oN,od++[],rfl,?_,hbd.app (BodH.one OwnT.nil)⟩ (by dsimp only;rw [hll];omega) hpl (by rw [if_neg h0]) (by rw [if_neg h1]) (by rw [if_neg h2]) (by rw [if_neg h3]) ?_
      ·dsimp only
       rw [hll,hesC_app]
       exact ho
      ·intro hI
       exact absurd (hit.1 hI).2 hq
     ·dsimp only
      repeat (first|exact SubL.nil|exact SubL.refl _|refine SubL.keep ?_|exact SubL.headA _ _|refine SubL.keepA ?_ _|refine SubL.skip ?_|refine SubL.skipA ?_ _)
 ·obtain rfl:i=its.length:=by omega
  have u1:decide ((its.length:Int)<(its.length:Int))=false:=decide_eq_false (by omega)
  have hcs:=hol2.cs
  have hLL:its.length=L.length:=hil
  cases b
  ·obtain ⟨hKF,rfl,⟨rfl,rfl⟩,⟨rfl,rfl⟩,rfl,hab⟩:=un_end (hgood rfl) hLL
   dsimp only at hab
   have hsm:=unH_small hKF hab
   have hl1:l.length≤1048576:=by omega
   subst hL
   by_cases hk:KOk (unZ (rdD p).2 1:Int) (unZ (rdD p).2 2:Int) (unNx (rdD p).2:Int) l
   ·have RN:=fun w' (h0:Below w.heap.size w w') (h1:Cs w' (.slice pv lv cv) l.length (hesC l)) (h2:Hd od w')=>rest_yes (pl:=unPl (rdD p).2) (m1:=unM (rdD p).2 1) (m2:=unM (rdD p).2 2) hk hsm w' (hT.below h0) (cb_nil w') (hv:=.slice pv lv cv) ⟨h1,fun x hx=>(hbd x hx).out w' h2⟩
    have hUG:UkP p (kpV' (unPl (rdD p).2) (unM (rdD p).2 1) (unZ (rdD p).2 1:Int) (unM (rdD p).2 2) (unZ (rdD p).2 2:Int) (unNx (rdD p).2:Int) (.slice pv lv cv),0) (oo++od):=.inr ⟨rfl,hKF,pv,lv,cv,l,rfl,⟨oo,od,fun q hq=>hq,hol2,hbd⟩,hab,hk⟩
    clear hok0 hgood hbad hbod hab hk hsm hKF
    generalize unPl (rdD p).2=pl0 at *
    generalize unM (rdD p).2 1=m10 at *
    generalize unZ (rdD p).2 1=z10 at *
    generalize unM (rdD p).2 2=m20 at *
    generalize unZ (rdD p).2 2=z20 at *
    generalize unNx (rdD p).2=nx0 at *
    repeat' (first|(refine wlS ?_)|(refine wlG ?_)|(refine wlB ?_)|(refine wlE ?_)|(refine efSvao ?_;intro v oa ho)|(refine efG ?_)|(refine efGnn ?_;intro n hn)|((with_reducible refine sel_call ?_);first|(refine wl_newO rfl rfl rfl rfl rfl (fun w hm=>by with_reducible exact RN w (hm.below rfl) (Vw.out w hm) (Mem.hd hm)) ?_;intro x oa hx))|(refine efBnn ?_;intro n hn)|(refine efB ?_)|(refine efBS ?_)|(refine wl_skip rfl rfl ?_)|(refine wdS ?_)|(refine wdG ?_)|(refine wdV ?_)|(refine wdB ?_)|(refine wdE ?_)|(refine wdT ?_)|(refine wdTO ?_)|(refine wd_skip rfl rfl ?_)|((with_reducible refine seld_nil ?_);refine wd_nil hm0 ?_;clear hm0 hw0)|((with_reducible refine wc_seq ?_);intro K hK)|(refine auC ?_)|(refine wc_cond rfl (fun hc=>?_) (fun hc=>?_))|(refine wc_draw (by kernel_rfl) (by kernel_rfl) (by decide +kernel) ?_;intro w0 hw0 hm0;(try simp only [List.append_eq,List.cons_append,List.nil_append]))|(refine auP ?_)|((refine auR ?_);clear hK K)|(refine auR ?_)|((with_reducible refine hK _ _ ?_);clear hK K)|fail)
    first|refine end_ret (ResP.cell rfl ld_wholeG (ResP.tmp rfl ResP.nil)) ?_|refine end_normal (ResP.cell rfl ld_wholeG (ResP.tmp rfl ResP.nil)) ?_
    (try dsimp only [tupV])
    refine ⟨(kpV' pl0 m10 (z10:Int) m20 (z20:Int) (nx0:Int) (.slice pv lv cv),0),oo++od,rfl,hUG,?_⟩
    repeat (first|exact SubL.nil|exact SubL.refl _|refine SubL.keep ?_|exact SubL.headA _ _|refine SubL.keepA ?_ _|refine SubL.skip ?_|refine SubL.skipA ?_ _)
   ·obtain ⟨er,her,hc⟩:=rest_none (nx:=(unNx (rdD p).2:Int)) hk hsm hl1
    have RN:=fun w' (h0:Below w.heap.size w w') (h1:Cs w' (.slice pv lv cv) l.length (hesC l)) (h2:Hd od w')=>hc (pl:=unPl (rdD p).2) (m1:=unM (rdD p).2 1) (m2:=unM (rdD p).2 2) w' (hT.below h0) (cb_nil w') (hv:=.slice pv lv cv) ⟨h1,fun x hx=>(hbd x hx).out w' h2⟩
    have hno:¬SafeOk p:=fun h=>by
     obtain ⟨l2,e1,e2⟩:=h.kept
     exact hk (e2.same (by rw [e1,hab]))
    have t5:(er != 0)=true:=by rw [bne_iff_ne];exact her
    clear hok0 hgood hbad hbod hc hk hab hsm hKF
    generalize unPl (rdD p).2=pl0 at *
    generalize unM (rdD p).2 1=m10 at *
    generalize unZ (rdD p).2 1=z10 at *
    generalize unM (rdD p).2 2=m20 at *
    generalize unZ (rdD p).2 2=z20 at *
    generalize unNx (rdD p).2=nx0 at *
    repeat' (first|(refine wlS ?_)|(refine wlG ?_)|(refine wlBZ ?_)|(refine wlB ?_)|(refine wlE ?_)|(refine efSvao ?_;intro v oa ho)|(refine efG ?_)|(refine efGnn ?_;intro n hn)|((with_reducible refine sel_call ?_);first|(refine wl_newO rfl rfl rfl rfl rfl (fun w hm=>by with_reducible exact RN w (hm.below rfl) (Vw.out w hm) (Mem.hd hm)) ?_;intro x oa hx))|(refine efBnn ?_;intro n hn)|(refine efB ?_)|(refine efBS ?_)|(refine wl_skip rfl rfl ?_)|(refine wdS ?_)|(refine wdG ?_)|(refine wdV ?_)|(refine wdB ?_)|(refine wdE ?_)|(refine wdT ?_)|(refine wdTO ?_)|(refine wd_skip rfl rfl ?_)|((with_reducible refine seld_nil ?_);refine wd_nil hm0 ?_;clear hm0 hw0)|((with_reducible refine wc_seq ?_);intro K hK)|(refine auC ?_)|(refine wc_cond rfl (fun hc=>?_) (fun hc=>?_))|(refine wc_draw (by kernel_rfl) (by kernel_rfl) (by decide +kernel) ?_;intro w0 hw0 hm0;(try simp only [List.append_eq,List.cons_append,List.nil_append]))|(refine auP ?_)|((refine auR ?_);clear hK K)|(refine auR ?_)|((with_reducible refine hK _ _ ?_);clear hK K)|fail)
    first|refine end_ret (ResP.cell rfl ld_wholeG (ResP.tmp rfl ResP.nil)) ?_|refine end_normal (ResP.cell rfl ld_wholeG (ResP.tmp rfl ResP.nil)) ?_
    (try dsimp only [tupV])
    exact ⟨(kzV,er),[],rfl,.inl ⟨her,rfl,rfl,hno⟩,.nil⟩
  ·have hno:¬SafeOk p:=fun h=>by
    have:=h.form
    rw [←hL] at this
    exact hbad rfl this
   clear hok0 hgood hbad hbod
   repeat' (first|(refine wlS ?_)|(refine wlG ?_)|(refine wlBZ ?_)|(refine wlB ?_)|(refine wlE ?_)|(refine efSvao ?_;intro v oa ho)|(refine efG ?_)|(refine efGnn ?_;intro n hn)|(refine efBnn ?_;intro n hn)|(refine efB ?_)|(refine efBS ?_)|(refine wl_skip rfl rfl ?_)|(refine wdS ?_)|(refine wdG ?_)|(refine wdV ?_)|(refine wdB ?_)|(refine wdE ?_)|(refine wdT ?_)|(refine wdTO ?_)|(refine wd_skip rfl rfl ?_)|((with_reducible refine seld_nil ?_);refine wd_nil hm0 ?_;clear hm0 hw0)|((with_reducible refine wc_seq ?_);intro K hK)|(refine auC ?_)|(refine wc_cond rfl (fun hc=>?_) (fun hc=>?_))|(refine wc_draw (by kernel_rfl) (by kernel_rfl) (by decide +kernel) ?_;intro w0 hw0 hm0;(try simp only [List.append_eq,List.cons_append,List.nil_append]))|(refine auP ?_)|((refine auR ?_);clear hK K)|(refine auR ?_)|((with_reducible refine hK _ _ ?_);clear hK K)|fail)
   first|refine end_ret (ResP.cell rfl ld_wholeG (ResP.tmp rfl ResP.nil)) ?_|refine end_normal (ResP.cell rfl ld_wholeG (ResP.tmp rfl ResP.nil)) ?_
   (try dsimp only [tupV])
   exact ⟨(kzV,4),[],rfl,.inl ⟨by decide,rfl,rfl,hno⟩,.nil⟩
end Go.Proofs.YthigacbelefadaaDoor
