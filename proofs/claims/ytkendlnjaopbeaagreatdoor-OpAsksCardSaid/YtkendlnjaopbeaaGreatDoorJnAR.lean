/- The package op,walked: Update,Final,Check,Over in all their cases,over whatever way. The package op: a way,whatever its kind;what it answers,as plain functions. Pointers against nil. A desk's pointer against nil. The package op: digests and marks as ways. The package op: signers and their judges as ways. The package op: streams,sealers,openers as ways. The package op: openers as ways (one part only). What comes in parts: plain laws for each kind of way. The package op: New,for each kind;what is to be shown for whatever way. The package op: the law's own ops. -/
import Derived.Test.YtkendlnjaopbeaaGreatDoorOpNo
import Derived.Test.YtkendlnjaopbeaaGreatDoorJnAB
import Derived.Test.YtkendlnjaopbeaaGreatDoorJnAC
namespace Go.Proofs.YtkendlnjaopbeaaGreatDoor
open Go.RowKit
attribute [local irreducible] rwA bys
set_option linter.unusedVariables false
set_option linter.unusedSimpArgs false
set_option maxRecDepth 100000
abbrev opB (b:Nat)(t:TypeId)(g many:Nat)(over:Bool):Nat×(Array Value×TypeId):=(b,(opC t g many over,57))
theorem RetU.seenR {u:Value}{oa:Blks}{P:Program}{f:Nat}{vs:Array Value}{w:World}(hd:Hd oa w)(h:Calls P f vs w (RetU (fun _:Unit=>u) oa (fun _ ob=>ob=oa) w)):Calls P f vs w (Ret u w):=
 (RetU.seen2 (Φ:=fun _ oX=>oX=[]) hd (h.mono fun e w2 ⟨x,ob,h1,h2,h3⟩=>⟨x,ob,h1,⟨[],h2,rfl⟩,h3⟩)).mono fun e w2 ⟨_,oa,h1,h2,h3⟩=>⟨h1,h3.below⟩
theorem keys_one (x:Nat×(Array Value×TypeId)):(keys [x]).Nodup:=by simp [keys]
section
variable {t:TypeId}{g b many:Nat}
set_option maxHeartbeats 4000000 in
theorem fin_over (w:World)(hd:Hd [opB b t g many true] w)(r:Int):Calls Tryz.prog 12 [ptr b,.int .i64 r].toArray w (Ret (.tuple #[.slice none 0 0,.int .i64 0,.int .i64 8]) w):=by
 refine RetU.seenR hd ?_
 have nd:=keys_one (opB b t g many true)
 refine fn_upd (N:=_) Tryz.func12 rfl Tryz.ntmps12 Tryz.results12 (by simp) nd hd ?_
 simp only [initS,Nat.reduceAdd,Nat.zero_add]
 repeat' (first|(refine wlS ?_)|(refine wlB ?_)|(refine wlE ?_)|(refine efSvao ?_;intro v oa ho)|(refine efB ?_)|(refine efBS ?_)|(refine wl_skip rfl rfl ?_)|((with_reducible refine wc_seq ?_);intro K hK)|(refine auC ?_)|(refine wc_cond rfl (fun hc=>?_) (fun hc=>?_))|(refine wc_draw (by kernel_rfl) (by kernel_rfl) (by decide +kernel) ?_;intro w0 hw0 hm0;(try simp only [List.append_eq,List.cons_append,List.nil_append]))|(refine auP ?_)|((refine auR ?_);clear hK K)|(refine auR ?_)|((with_reducible refine hK _ _ ?_);clear hK K)|fail)
 first|refine end_ret (ResP.tmp rfl (ResP.tmp rfl (ResP.tmp rfl ResP.nil))) ?_|refine end_normal (ResP.tmp rfl (ResP.tmp rfl (ResP.tmp rfl ResP.nil))) ?_
 (try dsimp only [tupV])
 exact ⟨(),_,rfl,rfl,SubL.refl _⟩
set_option maxHeartbeats 4000000 in
theorem over_c (w:World){o:Bool}(hd:Hd [opB b t g many o] w):Calls Tryz.prog 13 [ptr b].toArray w (Ret (.bool o) w):=by
 refine RetU.seenR hd ?_
 have nd:=keys_one (opB b t g many o)
 refine fn_upd (N:=_) Tryz.func13 rfl Tryz.ntmps13 Tryz.results13 (by simp) nd hd ?_
 simp only [initS,Nat.reduceAdd,Nat.zero_add]
 repeat' (first|(refine wlS ?_)|(refine wlB ?_)|(refine wl_skip rfl rfl ?_)|((with_reducible refine wc_seq ?_);intro K hK)|(refine auC ?_)|(refine wc_cond rfl (fun hc=>?_) (fun hc=>?_))|(refine wc_draw (by kernel_rfl) (by kernel_rfl) (by decide +kernel) ?_;intro w0 hw0 hm0;(try simp only [List.append_eq,List.cons_append,List.nil_append]))|(refine auP ?_)|((refine auR ?_);clear hK K)|(refine auR ?_)|((with_reducible refine hK _ _ ?_);clear hK K)|fail)
 first|refine end_ret (ResP.tmp rfl ResP.nil) ?_|refine end_normal (ResP.tmp rfl ResP.nil) ?_
 (try dsimp only [tupV])
 exact ⟨(),_,rfl,rfl,SubL.refl _⟩
set_option maxHeartbeats 4000000 in
theorem upd_large (w0 w:World)(hb:Below w0.heap.size w0 w){n:Nat}{v:Value}{p:List Nat}(hd:Hd [opB b t g many false] w)(hf:∀ k∈keys [opB b t g many false],w0.heap.size≤k)(hp:Cb w0 v n p)(hm:many≤2048)(hn:2048<many+n) :
  Calls Tryz.prog 10 [ptr b,v].toArray w (RetU (fun _:Unit=>.tuple #[.slice none 0 0,.int .i64 2]) [opB b t g many false] (fun _ l=>l=[opB b t g many true]) w):=by
 have i1:CsB (Old w (keys [opB b t g many false])) v n p:=hp.oldB hb hf
 have u1:IntKind.i64.wrap (2048 - (many:Int))=2048 - (many:Int):=wrap_i64 _ (by omega) (by omega)
 have t1:decide ((n:Int)>2048 - (many:Int))=true:=decide_eq_true (by omega)
 have nd:=keys_one (opB b t g many false)
 clear hp
 refine fn_upd (N:=_) Tryz.func10 rfl Tryz.ntmps10 Tryz.results10 (by simp) nd hd ?_
 simp only [initS,Nat.reduceAdd,Nat.zero_add]
 repeat' (first|(refine wlS ?_)|(refine wlB ?_)|(refine wlE ?_)|(refine efSvao ?_;intro v oa ho)|(refine efB ?_)|(refine efBS ?_)|(refine wl_skip rfl rfl ?_)|((with_reducible refine wc_seq ?_);intro K hK)|(refine auC ?_)|(refine wc_cond rfl (fun hc=>?_) (fun hc=>?_))|(refine wc_draw (by kernel_rfl) (by kernel_rfl) (by decide +kernel) ?_;intro w0 hw0 hm0;(try simp only [List.append_eq,List.cons_append,List.nil_append]))|(refine auP ?_)|((refine auR ?_);clear hK K)|(refine auR ?_)|((with_reducible refine hK _ _ ?_);clear hK K)|fail)
 first|refine end_ret (ResP.tmp rfl (ResP.tmp rfl ResP.nil)) ?_|refine end_normal (ResP.tmp rfl (ResP.tmp rfl ResP.nil)) ?_
 (try dsimp only [tupV])
 exact ⟨(),_,rfl,rfl,SubL.refl _⟩
set_option maxHeartbeats 4000000 in
theorem fin_judge (hA:∀ w,(Instr.typeAssert (.iface t (ptr g)) 54 60 true).run Tryz.prog w=.ok (.tuple #[.iface t (ptr g),.bool true]) w)(w:World)(hd:Hd [opB b t g many false] w)(r:Int) :
  Calls Tryz.prog 12 [ptr b,.int .i64 r].toArray w (Ret (.tuple #[.slice none 0 0,.int .i64 0,.int .i64 13]) w):=by
 refine RetU.seenR hd ?_
 have nd:=keys_one (opB b t g many false)
 refine fn_upd (N:=_) Tryz.func12 rfl Tryz.ntmps12 Tryz.results12 (by simp) nd hd ?_
 simp only [initS,Nat.reduceAdd,Nat.zero_add]
 repeat' (first|(refine wlS ?_)|(refine wlB ?_)|((with_reducible refine sel_typeAssert ?_);refine wv rfl rfl (rd_tas2 rfl rfl) ?_)|(refine wlE ?_)|(refine efSvao ?_;intro v oa ho)|(refine efB ?_)|(refine efBS ?_)|(refine wl_skip rfl rfl ?_)|((with_reducible refine wc_seq ?_);intro K hK)|(refine auC ?_)|(refine wc_cond rfl (fun hc=>?_) (fun hc=>?_))|(refine wc_draw (by kernel_rfl) (by kernel_rfl) (by decide +kernel) ?_;intro w0 hw0 hm0;(try simp only [List.append_eq,List.cons_append,List.nil_append]))|(refine auP ?_)|((refine auR ?_);clear hK K)|(refine auR ?_)|((with_reducible refine hK _ _ ?_);clear hK K)|fail)
 first|refine end_ret (ResP.tmp rfl (ResP.tmp rfl (ResP.tmp rfl ResP.nil))) ?_|refine end_normal (ResP.tmp rfl (ResP.tmp rfl (ResP.tmp rfl ResP.nil))) ?_
 (try dsimp only [tupV])
 exact ⟨(),_,rfl,rfl,SubL.refl _⟩
set_option maxHeartbeats 4000000 in
theorem chk_w {fC:Nat}{ob:Blks}{v:Value}{r:Int}(hA:∀ w,(Instr.typeAssert (.iface t (ptr g)) 54 60 true).run Tryz.prog w=.ok (.tuple #[.iface t (ptr g),.bool true]) w)(hI:∀ w,(method (Tryz.prog.types.size+Made.depth) t (ptr g) "sealring/op.check").run Tryz.prog w=.ok (fC,ptr g) w)(hkC:callOk Tryz.prog fC=true)
  (w:World) (nd:(keys (opB b t g many false::ob)).Nodup) (hd:Hd (opB b t g many false::ob) w)
  (CC:∀ w',Mem ⟨Tryz.prog,w,27,keys (opB b t g many false::ob)⟩ (opB b t g many true::ob) w'→Calls Tryz.prog fC [ptr g,v].toArray w' (Ret (.int .i64 r) w')) :
  Calls Tryz.prog 16 [ptr b,v].toArray w (RetU (fun _:Unit=>.int .i64 r) (opB b t g many false::ob) (fun _ l=>l=opB b t g many true::ob) w):=by
 refine fn_upd (N:=_) Tryz.func16 rfl Tryz.ntmps16 Tryz.results16 (by simp) nd hd ?_
 simp only [initS,Nat.reduceAdd,Nat.zero_add]
 repeat' (first|(refine wlS ?_)|(refine wlB ?_)|((with_reducible refine sel_typeAssert ?_);refine wv rfl rfl (rd_tas2 rfl rfl) ?_)|(refine wlE ?_)|(refine efSvao ?_;intro v oa ho)|(refine efB ?_)|(refine efBS ?_)|(refine wl_skip rfl rfl ?_)|((with_reducible refine wc_seq ?_);intro K hK)|(refine auC ?_)|(refine wc_cond rfl (fun hc=>?_) (fun hc=>?_))|(refine wc_draw (by kernel_rfl) (by kernel_rfl) (by decide +kernel) ?_;intro w0 hw0 hm0;(try simp only [List.append_eq,List.cons_append,List.nil_append]))|(refine auP ?_)|((refine auR ?_);clear hK K)|(refine auR ?_)|((with_reducible refine hK _ _ ?_);clear hK K)|fail)
 refine wl_rd rfl rfl (rd_callI rfl rfl rfl hI rfl (fun w hm=>CC w hm) hkC) ?_
 repeat' (first|(refine wlS ?_)|(refine wlB ?_)|(refine wlE ?_)|(refine efSvao ?_;intro v oa ho)|(refine efB ?_)|(refine efBS ?_)|(refine wl_skip rfl rfl ?_)|((with_reducible refine wc_seq ?_);intro K hK)|(refine auC ?_)|(refine wc_cond rfl (fun hc=>?_) (fun hc=>?_))|(refine wc_draw (by kernel_rfl) (by kernel_rfl) (by decide +kernel) ?_;intro w0 hw0 hm0;(try simp only [List.append_eq,List.cons_append,List.nil_append]))|(refine auP ?_)|((refine auR ?_);clear hK K)|(refine auR ?_)|((with_reducible refine hK _ _ ?_);clear hK K)|fail)
 first|refine end_ret (ResP.tmp rfl ResP.nil) ?_|refine end_normal (ResP.tmp rfl ResP.nil) ?_
 (try dsimp only [tupV])
 exact ⟨(),_,rfl,rfl,SubL.refl _⟩
set_option maxHeartbeats 4000000 in
theorem fin_err {fE:Nat}{ob:Blks}{Φ:Value→Blks→Prop}{e:Int}(hI:∀ w,(method (Tryz.prog.types.size+Made.depth) t (ptr g) "sealring/op.end").run Tryz.prog w=.ok (fE,ptr g) w)(hkE:callOk Tryz.prog fE=true)
  (hA:∀ w,(Instr.typeAssert (.iface t (ptr g)) 54 60 true).run Tryz.prog w=.ok (.tuple #[.nilIface,.bool false]) w)
  (w0 w:World) (hb:Below w0.heap.size w0 w) (nd:(keys (opB b t g many false::ob)).Nodup) (hd:Hd (opB b t g many false::ob) w) (hf:∀ k∈keys (opB b t g many false::ob),w0.heap.size≤k) {room:Int} (he:(e != 0)=true)
  (EE:∀ w',Below w0.heap.size w0 w'→(keys ob).Nodup→Hd ob w'→(∀ k∈keys ob,w0.heap.size≤k)→Calls Tryz.prog fE [ptr g].toArray w' (RetO (fun v:Value=>.tuple #[v,.int .i64 e]) Φ w')) :
  Calls Tryz.prog 12 [ptr b,.int .i64 room].toArray w (RetU (fun _:Unit=>.tuple #[.slice none 0 0,.int .i64 0,.int .i64 e]) (opB b t g many false::ob) (fun _ l=>l=opB b t g many true::ob) w):=by
 refine fn_upd (N:=_) Tryz.func12 rfl Tryz.ntmps12 Tryz.results12 (by simp) nd hd ?_
 simp only [initS,Nat.reduceAdd,Nat.zero_add]
 repeat' (first|(refine wlS ?_)|(refine wlB ?_)|((with_reducible refine sel_typeAssert ?_);refine wv rfl rfl (rd_tas2 rfl rfl) ?_)|(refine wlE ?_)|(refine efSvao ?_;intro v oa ho)|(refine efB ?_)|(refine efBS ?_)|(refine wl_skip rfl rfl ?_)|((with_reducible refine wc_seq ?_);intro K hK)|(refine auC ?_)|(refine wc_cond rfl (fun hc=>?_) (fun hc=>?_))|(refine wc_draw (by kernel_rfl) (by kernel_rfl) (by decide +kernel) ?_;intro w0 hw0 hm0;(try simp only [List.append_eq,List.cons_append,List.nil_append]))|(refine auP ?_)|((refine auR ?_);clear hK K)|(refine auR ?_)|((with_reducible refine hK _ _ ?_);clear hK K)|fail)
 refine wl_newI rfl rfl rfl rfl rfl hI rfl (fun w hm=>EE w (Mem.belowO hm hb hf) (Mem.ndS hm) (Mem.hd hm) (Mem.freshO hm hb hf)) ?_ hkE
 intro x oa hx
 repeat' (first|(refine wlS ?_)|(refine wlB ?_)|(refine wlE ?_)|(refine efSvao ?_;intro v oa ho)|(refine efB ?_)|(refine efBS ?_)|(refine wl_skip rfl rfl ?_)|((with_reducible refine wc_seq ?_);intro K hK)|(refine auC ?_)|(refine wc_cond rfl (fun hc=>?_) (fun hc=>?_))|(refine wc_draw (by kernel_rfl) (by kernel_rfl) (by decide +kernel) ?_;intro w0 hw0 hm0;(try simp only [List.append_eq,List.cons_append,List.nil_append]))|(refine auP ?_)|((refine auR ?_);clear hK K)|(refine auR ?_)|((with_reducible refine hK _ _ ?_);clear hK K)|fail)
 first|refine end_ret (ResP.tmp rfl (ResP.tmp rfl (ResP.tmp rfl ResP.nil))) ?_|refine end_normal (ResP.tmp rfl (ResP.tmp rfl (ResP.tmp rfl ResP.nil))) ?_
 (try dsimp only [tupV])
 refine ⟨(),_,rfl,rfl,?_⟩
 repeat (first|exact SubL.nil|exact SubL.refl _|refine SubL.keep ?_|exact SubL.headA _ _|refine SubL.keepA ?_ _|refine SubL.skip ?_|refine SubL.skipA ?_ _)
set_option maxHeartbeats 4000000 in
theorem fin_ask {fE:Nat}{ob:Blks}{Φ:Value→Blks→Prop}{m:Nat}{q:List Nat}(hI:∀ w,(method (Tryz.prog.types.size+Made.depth) t (ptr g) "sealring/op.end").run Tryz.prog w=.ok (fE,ptr g) w)(hkE:callOk Tryz.prog fE=true)
  (hA:∀ w,(Instr.typeAssert (.iface t (ptr g)) 54 60 true).run Tryz.prog w=.ok (.tuple #[.nilIface,.bool false]) w)
  (w0 w:World) (hb:Below w0.heap.size w0 w) (nd:(keys (opB b t g many false::ob)).Nodup) (hd:Hd (opB b t g many false::ob) w) (hf:∀ k∈keys (opB b t g many false::ob),w0.heap.size≤k) (hΦ:∀ v oa,Φ v oa→CsB (Hd oa) v m q) {room:Int} (hr:room<0)
  (EE:∀ w',Below w0.heap.size w0 w'→(keys ob).Nodup→Hd ob w'→(∀ k∈keys ob,w0.heap.size≤k)→Calls Tryz.prog fE [ptr g].toArray w' (RetO (fun v:Value=>.tuple #[v,.int .i64 0]) Φ w')) :
  Calls Tryz.prog 12 [ptr b,.int .i64 room].toArray w (Ret (.tuple #[.slice none 0 0,.int .i64 (m:Int),.int .i64 0]) w):=by
 refine RetU.seenR hd ?_
 have t0:((0:Int) != 0)=false:=rfl
 have t1:decide (room<0)=true:=decide_eq_true hr
 refine fn_upd (N:=_) Tryz.func12 rfl Tryz.ntmps12 Tryz.results12 (by simp) nd hd ?_
 simp only [initS,Nat.reduceAdd,Nat.zero_add]
 repeat' (first|(refine wlS ?_)|(refine wlB ?_)|((with_reducible refine sel_typeAssert ?_);refine wv rfl rfl (rd_tas2 rfl rfl) ?_)|(refine wlE ?_)|(refine efSvao ?_;intro v oa ho)|(refine efB ?_)|(refine efBS ?_)|(refine wl_skip rfl rfl ?_)|((with_reducible refine wc_seq ?_);intro K hK)|(refine auC ?_)|(refine wc_cond rfl (fun hc=>?_) (fun hc=>?_))|(refine wc_draw (by kernel_rfl) (by kernel_rfl) (by decide +kernel) ?_;intro w0 hw0 hm0;(try simp only [List.append_eq,List.cons_append,List.nil_append]))|(refine auP ?_)|((refine auR ?_);clear hK K)|(refine auR ?_)|((with_reducible refine hK _ _ ?_);clear hK K)|fail)
 refine wl_newI rfl rfl rfl rfl rfl hI rfl (fun w hm=>EE w (Mem.belowO hm hb hf) (Mem.ndS hm) (Mem.hd hm) (Mem.freshO hm hb hf)) ?_ hkE
 intro x oa hx
 haveI:=hΦ x oa hx
 repeat' (first|(refine wlS ?_)|(refine wlB ?_)|(refine wlE ?_)|(refine efSvao ?_;intro v oa ho)|(refine efB ?_)|(refine efBS ?_)|(refine wl_skip rfl rfl ?_)|((with_reducible refine wc_seq ?_);intro K hK)|(refine auC ?_)|(refine wc_cond rfl (fun hc=>?_) (fun hc=>?_))|(refine wc_draw (by kernel_rfl) (by kernel_rfl) (by decide +kernel) ?_;intro w0 hw0 hm0;(try simp only [List.append_eq,List.cons_append,List.nil_append]))|(refine auP ?_)|((refine auR ?_);clear hK K)|(refine auR ?_)|((with_reducible refine hK _ _ ?_);clear hK K)|fail)
 first|refine end_ret (ResP.tmp rfl (ResP.tmp rfl (ResP.tmp rfl ResP.nil))) ?_|refine end_normal (ResP.tmp rfl (ResP.tmp rfl (ResP.tmp rfl ResP.nil))) ?_
 (try dsimp only [tupV])
 refine ⟨(),_,rfl,rfl,?_⟩
 repeat (first|exact SubL.nil|exact SubL.refl _|refine SubL.keep ?_|exact SubL.headA _ _|refine SubL.keepA ?_ _|refine SubL.skip ?_|refine SubL.skipA ?_ _)
set_option maxHeartbeats 4000000 in
theorem fin_small {fE:Nat}{ob:Blks}{Φ:Value→Blks→Prop}{m:Nat}{q:List Nat}(hI:∀ w,(method (Tryz.prog.types.size+Made.depth) t (ptr g) "sealring/op.end").run Tryz.prog w=.ok (fE,ptr g) w)(hkE:callOk Tryz.prog fE=true)
  (hA:∀ w,(Instr.typeAssert (.iface t (ptr g)) 54 60 true).run Tryz.prog w=.ok (.tuple #[.nilIface,.bool false]) w)
  (w0 w:World) (hb:Below w0.heap.size w0 w) (nd:(keys (opB b t g many false::ob)).Nodup) (hd:Hd (opB b t g many false::ob) w) (hf:∀ k∈keys (opB b t g many false::ob),w0.heap.size≤k) (hΦ:∀ v oa,Φ v oa→CsB (Hd oa) v m q) {room:Int} (hr:0≤room) (hm:room<(m:Int))
  (EE:∀ w',Below w0.heap.size w0 w'→(keys ob).Nodup→Hd ob w'→(∀ k∈keys ob,w0.heap.size≤k)→Calls Tryz.prog fE [ptr g].toArray w' (RetO (fun v:Value=>.tuple #[v,.int .i64 0]) Φ w')) :
  Calls Tryz.prog 12 [ptr b,.int .i64 room].toArray w (Ret (.tuple #[.slice none 0 0,.int .i64 (m:Int),.int .i64 14]) w):=by
 refine RetU.seenR hd ?_
 have t0:((0:Int) != 0)=false:=rfl
 have t1:decide (room<0)=false:=decide_eq_false (by omega)
 have t2:decide (room<(m:Int))=true:=decide_eq_true hm
 refine fn_upd (N:=_) Tryz.func12 rfl Tryz.ntmps12 Tryz.results12 (by simp) nd hd ?_
 simp only [initS,Nat.reduceAdd,Nat.zero_add]
 repeat' (first|(refine wlS ?_)|(refine wlB ?_)|((with_reducible refine sel_typeAssert ?_);refine wv rfl rfl (rd_tas2 rfl rfl) ?_)|(refine wlE ?_)|(refine efSvao ?_;intro v oa ho)|(refine efB ?_)|(refine efBS ?_)|(refine wl_skip rfl rfl ?_)|((with_reducible refine wc_seq ?_);intro K hK)|(refine auC ?_)|(refine wc_cond rfl (fun hc=>?_) (fun hc=>?_))|(refine wc_draw (by kernel_rfl) (by kernel_rfl) (by decide +kernel) ?_;intro w0 hw0 hm0;(try simp only [List.append_eq,List.cons_append,List.nil_append]))|(refine auP ?_)|((refine auR ?_);clear hK K)|(refine auR ?_)|((with_reducible refine hK _ _ ?_);clear hK K)|fail)
 refine wl_newI rfl rfl rfl rfl rfl hI rfl (fun w hm=>EE w (Mem.belowO hm hb hf) (Mem.ndS hm) (Mem.hd hm) (Mem.freshO hm hb hf)) ?_ hkE
 intro x oa hx
 haveI:=hΦ x oa hx
 repeat' (first|(refine wlS ?_)|(refine wlB ?_)|(refine wlE ?_)|(refine efSvao ?_;intro v oa ho)|(refine efB ?_)|(refine efBS ?_)|(refine wl_skip rfl rfl ?_)|((with_reducible refine wc_seq ?_);intro K hK)|(refine auC ?_)|(refine wc_cond rfl (fun hc=>?_) (fun hc=>?_))|(refine wc_draw (by kernel_rfl) (by kernel_rfl) (by decide +kernel) ?_;intro w0 hw0 hm0;(try simp only [List.append_eq,List.cons_append,List.nil_append]))|(refine auP ?_)|((refine auR ?_);clear hK K)|(refine auR ?_)|((with_reducible refine hK _ _ ?_);clear hK K)|fail)
 first|refine end_ret (ResP.tmp rfl (ResP.tmp rfl (ResP.tmp rfl ResP.nil))) ?_|refine end_normal (ResP.tmp rfl (ResP.tmp rfl (ResP.tmp rfl ResP.nil))) ?_
 (try dsimp only [tupV])
 refine ⟨(),_,rfl,rfl,?_⟩
 repeat (first|exact SubL.nil|exact SubL.refl _|refine SubL.keep ?_|exact SubL.headA _ _|refine SubL.keepA ?_ _|refine SubL.skip ?_|refine SubL.skipA ?_ _)
set_option maxHeartbeats 4000000 in
theorem fin_ok {fE:Nat}{ob:Blks}{Φ:Value→Blks→Prop}{m:Nat}{q:List Nat}(hI:∀ w,(method (Tryz.prog.types.size+Made.depth) t (ptr g) "sealring/op.end").run Tryz.prog w=.ok (fE,ptr g) w)(hkE:callOk Tryz.prog fE=true)
  (hA:∀ w,(Instr.typeAssert (.iface t (ptr g)) 54 60 true).run Tryz.prog w=.ok (.tuple #[.nilIface,.bool false]) w)
  (w0 w:World) (hb:Below w0.heap.size w0 w) (nd:(keys (opB b t g many false::ob)).Nodup) (hd:Hd (opB b t g many false::ob) w) (hf:∀ k∈keys (opB b t g many false::ob),w0.heap.size≤k) (hΦ:∀ v oa,Φ v oa→CsB (Hd oa) v m q) {room:Int} (hr:0≤room) (hm:(m:Int)≤room)
  (EE:∀ w',Below w0.heap.size w0 w'→(keys ob).Nodup→Hd ob w'→(∀ k∈keys ob,w0.heap.size≤k)→Calls Tryz.prog fE [ptr g].toArray w' (RetO (fun v:Value=>.tuple #[v,.int .i64 0]) Φ w')) :
  Calls Tryz.prog 12 [ptr b,.int .i64 room].toArray w (RetU (fun v:Value=>.tuple #[v,.int .i64 (m:Int),.int .i64 0]) (opB b t g many false::ob) (fun v l=>∃ oX,l=opB b t g many true::(ob++oX)∧Φ v oX) w):=by
 have t0:((0:Int) != 0)=false:=rfl
 have t1:decide (room<0)=false:=decide_eq_false (by omega)
 have t2:decide (room<(m:Int))=false:=decide_eq_false (by omega)
 refine fn_upd (N:=_) Tryz.func12 rfl Tryz.ntmps12 Tryz.results12 (by simp) nd hd ?_
 simp only [initS,Nat.reduceAdd,Nat.zero_add]
 repeat' (first|(refine wlS ?_)|(refine wlB ?_)|((with_reducible refine sel_typeAssert ?_);refine wv rfl rfl (rd_tas2 rfl rfl) ?_)|(refine wlE ?_)|(refine efSvao ?_;intro v oa ho)|(refine efB ?_)|(refine efBS ?_)|(refine wl_skip rfl rfl ?_)|((with_reducible refine wc_seq ?_);intro K hK)|(refine auC ?_)|(refine wc_cond rfl (fun hc=>?_) (fun hc=>?_))|(refine wc_draw (by kernel_rfl) (by kernel_rfl) (by decide +kernel) ?_;intro w0 hw0 hm0;(try simp only [List.append_eq,List.cons_append,List.nil_append]))|(refine auP ?_)|((refine auR ?_);clear hK K)|(refine auR ?_)|((with_reducible refine hK _ _ ?_);clear hK K)|fail)
 refine wl_newI rfl rfl rfl rfl rfl hI rfl (fun w hm=>EE w (Mem.belowO hm hb hf) (Mem.ndS hm) (Mem.hd hm) (Mem.freshO hm hb hf)) ?_ hkE
 intro x oa hx
 haveI:=hΦ x oa hx
 repeat' (first|(refine wlS ?_)|(refine wlB ?_)|(refine wlE ?_)|(refine efSvao ?_;intro v oa ho)|(refine efB ?_)|(refine efBS ?_)|(refine wl_skip rfl rfl ?_)|((with_reducible refine wc_seq ?_);intro K hK)|(refine auC ?_)|(refine wc_cond rfl (fun hc=>?_) (fun hc=>?_))|(refine wc_draw (by kernel_rfl) (by kernel_rfl) (by decide +kernel) ?_;intro w0 hw0 hm0;(try simp only [List.append_eq,List.cons_append,List.nil_append]))|(refine auP ?_)|((refine auR ?_);clear hK K)|(refine auR ?_)|((with_reducible refine hK _ _ ?_);clear hK K)|fail)
 first|refine end_ret (ResP.tmp rfl (ResP.tmp rfl (ResP.tmp rfl ResP.nil))) ?_|refine end_normal (ResP.tmp rfl (ResP.tmp rfl (ResP.tmp rfl ResP.nil))) ?_
 (try dsimp only [tupV])
 exact ⟨_,_,rfl,⟨_,rfl,hx⟩,SubL.refl _⟩
end
end Go.Proofs.YtkendlnjaopbeaaGreatDoor
namespace Go.Proofs.YtkendlnjaopbeaaGreatDoor
open Go.RowKit
attribute [local irreducible] rwA bys
set_option linter.unusedVariables false
set_option linter.unusedSimpArgs false
set_option maxRecDepth 100000
instance seg_head {x:Nat×(Array Value×TypeId)}{l:Blks}:Seg (x::l) [x] (fun o=>o++l):=⟨[],l,rfl,fun _=>rfl⟩
instance seg_cons {x:Nat×(Array Value×TypeId)}{a r:Blks}:Seg (x::(a++r)) (x::a) (fun o=>o++r):=⟨[],r,by simp,fun _=>rfl⟩
def OutG (v:Value)(p:List Nat)(oX:Blks):Prop:=OwnB 5 v p.length p oX∨OutS v p.length p oX
theorem OutG.nil:OutG (.slice none 0 0) [] []:=.inl (inferInstance:OwnB 5 (.slice none 0 0) 0 [] [])
theorem OutG.cs {v:Value}{p:List Nat}{oX:Blks}(h:OutG v p oX):CsB (Hd oX) v p.length p:=by
 rcases h with h|h
 ·haveI:=h;infer_instance
 ·exact h.cs
structure WayC (w0:World)(t:TypeId)(jd:Bool)(St:Type)(one:Option St)(Ok:Nat→Nat→St→Blks→Prop)(up:St→List Nat→St)(out:St→List Nat→List Nat)(fin:St→List Nat×Int)(chk:St→List Nat→Int):Prop where
 asr:∀ g w,(Instr.typeAssert (.iface t (ptr g)) 54 60 true).run Tryz.prog w=.ok (.tuple #[cond jd (.iface t (ptr g)) .nilIface,.bool jd]) w
 more:∃ fM,callOk Tryz.prog fM=true∧(∀ g w,(method (Tryz.prog.types.size+Made.depth) t (ptr g) "sealring/op.more").run Tryz.prog w=.ok (fM,ptr g) w)∧
  ∀ {g many n:Nat} {s:St} {ob:Blks} {v:Value} {p:List Nat} (w':World),Below w0.heap.size w0 w'→(keys ob).Nodup→Hd ob w'→(∀ k∈keys ob,w0.heap.size≤k)→Ok g many s ob→(∀ x,one=some x→s=x)→many+n≤2048→Cb w0 v n p→
   Calls Tryz.prog fM [ptr g,v].toArray w' (RetU (fun v:Value=>v) ob (fun v l=>∃ oW oX,l=oW++oX∧Ok g (many+n) (up s p) oW∧OutG v (out s p) oX) w')
 fin:jd=false→∃ fE,callOk Tryz.prog fE=true∧(∀ g w,(method (Tryz.prog.types.size+Made.depth) t (ptr g) "sealring/op.end").run Tryz.prog w=.ok (fE,ptr g) w)∧
  ∀ {g many:Nat} {s:St} {ob:Blks} (w':World),Below w0.heap.size w0 w'→(keys ob).Nodup→Hd ob w'→(∀ k∈keys ob,w0.heap.size≤k)→Ok g many s ob→
   Calls Tryz.prog fE [ptr g].toArray w' (RetO (fun v:Value=>.tuple #[v,.int .i64 (fin s).2]) (fun v oa=>CsB (Hd oa) v (fin s).1.length (fin s).1) w')
 chk:jd=true→∃ fC,callOk Tryz.prog fC=true∧(∀ g w,(method (Tryz.prog.types.size+Made.depth) t (ptr g) "sealring/op.check").run Tryz.prog w=.ok (fC,ptr g) w)∧
  ∀ {g many m:Nat} {s:St} {ob:Blks} {u:Value} {sig:List Nat} (w':World),Below w0.heap.size w0 w'→(keys ob).Nodup→Hd ob w'→(∀ k∈keys ob,w0.heap.size≤k)→Ok g many s ob→CsB (Old w' (keys ob)) u m sig→
   Calls Tryz.prog fC [ptr g,u].toArray w' (Ret (.int .i64 (chk s sig)) w')
section
variable {t:TypeId}{jd:Bool}{St:Type}{one:Option St}{Ok:Nat→Nat→St→Blks→Prop}{up:St→List Nat→St}{out:St→List Nat→List Nat}{fin:St→List Nat×Int}{chk:St→List Nat→Int}{w0:World}
theorem WayC.upd (WC:WayC w0 t jd St one Ok up out fin chk){g b many n:Nat}{s:St}{ob:Blks}{v:Value}{p:List Nat}(w:World)(hb:Below w0.heap.size w0 w)(nd:(keys (opB b t g many false::ob)).Nodup)(hd:Hd (opB b t g many false::ob) w)(hf:∀ k∈keys (opB b t g many false::ob),w0.heap.size≤k)
  (ho:Ok g many s ob) (h1:∀ x,one=some x→s=x) (hp:Cb w0 v n p) (hn:many+n≤2048) :
  Calls Tryz.prog 10 [ptr b,v].toArray w (RetU (fun v:Value=>.tuple #[v,.int .i64 0]) (opB b t g many false::ob) (fun v l=>∃ oW oX,l=opB b t g (many+n) false::(oW++oX)∧Ok g (many+n) (up s p) oW∧OutG v (out s p) oX) w):=by
 obtain ⟨fM,hk,hI,MO⟩:=WC.more
 refine (up_w (hI g) hk w0 w hb nd hd hf hp rfl hn fun w' hb nd hd hf=>MO w' hb nd hd hf ho h1 hn hp).mono fun e w2 ⟨x,l,h1,⟨o2,h2,oW,oX,h3,h4,h5⟩,h6⟩=>⟨x,l,h1,⟨oW,oX,by rw [h2,h3],h4,h5⟩,h6⟩
theorem WayC.finE (WC:WayC w0 t false St one Ok up out fin chk){g b many:Nat}{s:St}{ob:Blks}{room:Int}(w:World)(hb:Below w0.heap.size w0 w)(nd:(keys (opB b t g many false::ob)).Nodup)(hd:Hd (opB b t g many false::ob) w)(hf:∀ k∈keys (opB b t g many false::ob),w0.heap.size≤k)(ho:Ok g many s ob)(he:((fin s).2 != 0)=true) :
  Calls Tryz.prog 12 [ptr b,.int .i64 room].toArray w (RetU (fun _:Unit=>.tuple #[.slice none 0 0,.int .i64 0,.int .i64 (fin s).2]) (opB b t g many false::ob) (fun _ l=>l=opB b t g many true::ob) w):=by
 obtain ⟨fE,hk,hI,EE⟩:=WC.fin rfl
 exact fin_err (hI g) hk (WC.asr g) w0 w hb nd hd hf he (fun w' h1 h2 h3 h4=>EE w' h1 h2 h3 h4 ho)
theorem WayC.finA (WC:WayC w0 t false St one Ok up out fin chk){g b many:Nat}{s:St}{ob:Blks}{room:Int}(w:World)(hb:Below w0.heap.size w0 w)(nd:(keys (opB b t g many false::ob)).Nodup)(hd:Hd (opB b t g many false::ob) w)(hf:∀ k∈keys (opB b t g many false::ob),w0.heap.size≤k)(ho:Ok g many s ob)(he:(fin s).2=0)(hr:room<0) :
  Calls Tryz.prog 12 [ptr b,.int .i64 room].toArray w (Ret (.tuple #[.slice none 0 0,.int .i64 ((fin s).1.length:Int),.int .i64 0]) w):=by
 obtain ⟨fE,hk,hI,EE⟩:=WC.fin rfl
 exact fin_ask (hI g) hk (WC.asr g) w0 w hb nd hd hf (fun v oa h=>h) hr (fun w' h1 h2 h3 h4=>by have:=EE w' h1 h2 h3 h4 ho;rwa [he] at this)
theorem WayC.finS (WC:WayC w0 t false St one Ok up out fin chk){g b many:Nat}{s:St}{ob:Blks}{room:Int}(w:World)(hb:Below w0.heap.size w0 w)(nd:(keys (opB b t g many false::ob)).Nodup)(hd:Hd (opB b t g many false::ob) w)(hf:∀ k∈keys (opB b t g many false::ob),w0.heap.size≤k)(ho:Ok g many s ob)(he:(fin s).2=0)(hr:0≤room)(hm:room<((fin s).1.length:Int)) :
  Calls Tryz.prog 12 [ptr b,.int .i64 room].toArray w (Ret (.tuple #[.slice none 0 0,.int .i64 ((fin s).1.length:Int),.int .i64 14]) w):=by
 obtain ⟨fE,hk,hI,EE⟩:=WC.fin rfl
 exact fin_small (hI g) hk (WC.asr g) w0 w hb nd hd hf (fun v oa h=>h) hr hm (fun w' h1 h2 h3 h4=>by have:=EE w' h1 h2 h3 h4 ho;rwa [he] at this)
theorem WayC.finO (WC:WayC w0 t false St one Ok up out fin chk){g b many:Nat}{s:St}{ob:Blks}{room:Int}(w:World)(hb:Below w0.heap.size w0 w)(nd:(keys (opB b t g many false::ob)).Nodup)(hd:Hd (opB b t g many false::ob) w)(hf:∀ k∈keys (opB b t g many false::ob),w0.heap.size≤k)(ho:Ok g many s ob)(he:(fin s).2=0)(hr:0≤room)(hm:((fin s).1.length:Int)≤room) :
  Calls Tryz.prog 12 [ptr b,.int .i64 room].toArray w (RetU (fun v:Value=>.tuple #[v,.int .i64 ((fin s).1.length:Int),.int .i64 0]) (opB b t g many false::ob) (fun v l=>∃ oX,l=opB b t g many true::(ob++oX)∧CsB (Hd oX) v (fin s).1.length (fin s).1) w):=by
 obtain ⟨fE,hk,hI,EE⟩:=WC.fin rfl
 exact fin_ok (hI g) hk (WC.asr g) w0 w hb nd hd hf (fun v oa h=>h) hr hm (fun w' h1 h2 h3 h4=>by have:=EE w' h1 h2 h3 h4 ho;rwa [he] at this)
end
end Go.Proofs.YtkendlnjaopbeaaGreatDoor
namespace Go.Proofs.YtkendlnjaopbeaaGreatDoor
open Go.RowKit
set_option linter.unusedVariables false
set_option linter.unusedSimpArgs false
section
variable {X:Cx}{s:Slots}{l:Blks}{o:Oper}
theorem rd_eqlP {t yt n:Nat}{x y:Operand}(ho:o.op=.binOp .eql t x y yt)(hx:val s x=some (ptr n))(hy:val s y=some (.pointer none))
  (q:∀ w:World,(Op.equalIn 10000 t (ptr n) (.pointer none)).run X.P w=.ok false w) (hg:X.P.eqGuardType X.P.depth t=false:=by kernel_rfl):RdV X s l o (.bool false):=
 rd_val fun e w he hm=>by
  simp only [execOp,ho,he.eval hx,he.eval hy,eqGuard]
  simp [run_eql w rfl (q w),hg]
theorem rd_neqP {t yt n:Nat}{x y:Operand}(ho:o.op=.binOp .neq t x y yt)(hx:val s x=some (ptr n))(hy:val s y=some (.pointer none))
  (q:∀ w:World,(Op.equalIn 10000 t (ptr n) (.pointer none)).run X.P w=.ok false w) (hg:X.P.eqGuardType X.P.depth t=false:=by kernel_rfl):RdV X s l o (.bool true):=
 rd_val fun e w he hm=>by
  simp only [execOp,ho,he.eval hx,he.eval hy,eqGuard]
  simp [run_neq w rfl (q w),hg]
theorem rd_eqlPN {t yt:Nat}{x y:Operand}(ho:o.op=.binOp .eql t x y yt)(hx:val s x=some (.pointer none))(hy:val s y=some (.pointer none))
  (q:∀ w:World,(Op.equalIn 10000 t (.pointer none) (.pointer none)).run X.P w=.ok true w) (hg:X.P.eqGuardType X.P.depth t=false:=by kernel_rfl):RdV X s l o (.bool true):=
 rd_val fun e w he hm=>by
  simp only [execOp,ho,he.eval hx,he.eval hy,eqGuard]
  simp [run_eql w rfl (q w),hg]
end
end Go.Proofs.YtkendlnjaopbeaaGreatDoor
namespace Go.Proofs.YtkendlnjaopbeaaGreatDoor
open Go.RowKit
theorem ptr_nil {n:Nat}(w:World):(Op.equalIn 10000 25 (ptr n) (.pointer none)).run Tryz.prog w=.ok false w:=by
 have h:Tryz.prog.underlying 25=some (.pointer 57):=by kernel_rfl
 rw [show (10000:Nat)=9999+1 from rfl,Op.equalIn,Sem.run_bind,run_underlying h]
 rfl
theorem ptr_nil2 (w:World):(Op.equalIn 10000 25 (.pointer none) (.pointer none)).run Tryz.prog w=.ok true w:=by
 have h:Tryz.prog.underlying 25=some (.pointer 57):=by kernel_rfl
 rw [show (10000:Nat)=9999+1 from rfl,Op.equalIn,Sem.run_bind,run_underlying h]
 rfl
end Go.Proofs.YtkendlnjaopbeaaGreatDoor
namespace Go.Proofs.YtkendlnjaopbeaaGreatDoor
open Go.RowKit
attribute [local irreducible] rwA bys
set_option linter.unusedVariables false
set_option linter.unusedSimpArgs false
set_option maxRecDepth 100000
theorem mm_dg (g:Nat)(w:World):(method (Tryz.prog.types.size+Made.depth) 80 (ptr g) "sealring/op.more").run Tryz.prog w=.ok (92,ptr g) w:=by kernel_rfl
theorem me_dg (g:Nat)(w:World):(method (Tryz.prog.types.size+Made.depth) 80 (ptr g) "sealring/op.end").run Tryz.prog w=.ok (91,ptr g) w:=by kernel_rfl
theorem mm_mk (g:Nat)(w:World):(method (Tryz.prog.types.size+Made.depth) 95 (ptr g) "sealring/op.more").run Tryz.prog w=.ok (109,ptr g) w:=by kernel_rfl
theorem me_mk (g:Nat)(w:World):(method (Tryz.prog.types.size+Made.depth) 95 (ptr g) "sealring/op.end").run Tryz.prog w=.ok (108,ptr g) w:=by kernel_rfl
theorem mm_mj (g:Nat)(w:World):(method (Tryz.prog.types.size+Made.depth) 101 (ptr g) "sealring/op.more").run Tryz.prog w=.ok (109,ptr g) w:=by kernel_rfl
theorem mc_mj (g:Nat)(w:World):(method (Tryz.prog.types.size+Made.depth) 101 (ptr g) "sealring/op.check").run Tryz.prog w=.ok (111,ptr g) w:=by kernel_rfl
theorem wc_1 (w:World)(hT:Tab w):WayC w 80 false HS none (fun g many s ob=>HSo s∧ob=[(g,(rwA (sgH s),82))]) HS.write (fun _ _=>[]) (fun s=>(s.sum,0)) (fun _ _=>0) where
 asr:=fun g w=>run_typeAssert_lacksB Tryz.underlying60 (by kernel_rfl) (by kernel_rfl) _ _ w
 more:=⟨92,by kernel_rfl,mm_dg,fun w' hb nd hd hf ho _ hn hp=>by
  obtain ⟨hs,rfl⟩:=ho
  haveI:=hs
  haveI:ByL _:=⟨hp.ok.by'⟩
  exact (dg_more w w' hT hb rfl nd hd hf hp).mono fun e w2 ⟨x,l,h1,⟨h2,h3⟩,h4⟩=>⟨x,l,h1,⟨_,[],by rw [h3,List.append_nil],⟨inferInstance,rfl⟩,h2 ▸ OutG.nil⟩,h4⟩⟩
 fin:=fun _=>⟨91,by kernel_rfl,me_dg,fun w' hb nd hd hf ho=>by
  obtain ⟨hs,rfl⟩:=ho
  haveI:=hs
  have:=dg_end w w' hT hb rfl nd hd hf
  rwa [←sum_len hs.out] at this⟩
 chk:=fun h=>by cases h
theorem wc_2 (w:World)(hT:Tab w):WayC w 95 false MS none (fun g many s ob=>MSo s∧ob=[(g,(rwA (sgM s),100))]) MS.write (fun _ _=>[]) (fun s=>(s.sum,0)) (fun _ _=>0) where
 asr:=fun g w=>run_typeAssert_lacksB Tryz.underlying60 (by kernel_rfl) (by kernel_rfl) _ _ w
 more:=⟨109,by kernel_rfl,mm_mk,fun w' hb nd hd hf ho _ hn hp=>by
  obtain ⟨hs,rfl⟩:=ho
  haveI:=hs
  haveI:ByL _:=⟨hp.ok.by'⟩
  exact (mk_more w w' hT hb rfl nd hd hf hp).mono fun e w2 ⟨x,l,h1,⟨h2,h3⟩,h4⟩=>⟨x,l,h1,⟨_,[],by rw [h3,List.append_nil],⟨inferInstance,rfl⟩,h2 ▸ OutG.nil⟩,h4⟩⟩
 fin:=fun _=>⟨108,by kernel_rfl,me_mk,fun {g many s ob} w' hb nd hd hf ho=>by
  obtain ⟨hs,rfl⟩:=ho
  haveI:=hs
  have:=mk_end w w' hT hb rfl nd hd hf
  rwa [←msum_len (s:=s)] at this⟩
 chk:=fun h=>by cases h
theorem wc_3 (w:World)(hT:Tab w):WayC w 101 true MS none (fun g many s ob=>MSo s∧ob=[(g,(rwA (sgM s),103))]) MS.write (fun _ _=>[]) (fun s=>(s.sum,0)) (fun s sig=>if sig.length=32 then (if s.sum=sig then 0 else 5) else 1) where
 asr:=fun g w=>run_typeAssert_hasB Tryz.underlying60 (by kernel_rfl) _ _ w
 more:=⟨109,by kernel_rfl,mm_mj,fun w' hb nd hd hf ho _ hn hp=>by
  obtain ⟨hs,rfl⟩:=ho
  haveI:=hs
  haveI:ByL _:=⟨hp.ok.by'⟩
  exact (mk_more w w' hT hb rfl nd hd hf hp).mono fun e w2 ⟨x,l,h1,⟨h2,h3⟩,h4⟩=>⟨x,l,h1,⟨_,[],by rw [h3,List.append_nil],⟨inferInstance,rfl⟩,h2 ▸ OutG.nil⟩,h4⟩⟩
 fin:=fun h=>by cases h
 chk:=fun _=>⟨111,by kernel_rfl,mc_mj,fun w' hb nd hd hf ho hs=>by
  obtain ⟨hs',rfl⟩:=ho
  haveI:=hs'
  have:=mj_check w w' hT hb rfl nd hd hf hs
  rwa [←hs.ok.len] at this⟩
end Go.Proofs.YtkendlnjaopbeaaGreatDoor
namespace Go.Proofs.YtkendlnjaopbeaaGreatDoor
open Go.RowKit
attribute [local irreducible] rwA bys
set_option linter.unusedVariables false
set_option linter.unusedSimpArgs false
set_option maxRecDepth 100000
theorem mm_sg (g:Nat)(w:World):(method (Tryz.prog.types.size+Made.depth) 83 (ptr g) "sealring/op.more").run Tryz.prog w=.ok (94,ptr g) w:=by kernel_rfl
theorem me_sg (g:Nat)(w:World):(method (Tryz.prog.types.size+Made.depth) 83 (ptr g) "sealring/op.end").run Tryz.prog w=.ok (93,ptr g) w:=by kernel_rfl
theorem mm_sj (g:Nat)(w:World):(method (Tryz.prog.types.size+Made.depth) 92 (ptr g) "sealring/op.more").run Tryz.prog w=.ok (94,ptr g) w:=by kernel_rfl
theorem mc_sj (g:Nat)(w:World):(method (Tryz.prog.types.size+Made.depth) 92 (ptr g) "sealring/op.check").run Tryz.prog w=.ok (101,ptr g) w:=by kernel_rfl
noncomputable def verS (k:Nat) (s sig:List Nat):Int:=open Classical in if h:∃ x:Nat×Nat,x.1<T256∧x.2<T256∧sig=lb x.1++lb x.2 then verI k h.choose.1 h.choose.2 s else 1
theorem wc_4 (w:World)(hT:Tab w){seed:Nat}(hs:seed<T256):WayC w 83 false (List Nat) none (fun g many s ob=>many≤2048∧∃ lv oo,ob=(g,(rwA (sgB lv (lb seed)),87))::oo∧OwnB 5 lv many s oo) (fun s p=>s++p) (fun _ _=>[]) (fun s=>(sigL seed s,0)) (fun _ _=>0) where
 asr:=fun g w=>run_typeAssert_lacksB Tryz.underlying60 (by kernel_rfl) (by kernel_rfl) _ _ w
 more:=⟨94,by kernel_rfl,mm_sg,fun w' hb nd hd hf ho _ hn hp=>by
  obtain ⟨hm,lv,oo,rfl,ho⟩:=ho
  exact (by_more w w' hb rfl ho nd hd hf hp hn).mono fun e w2 ⟨x,l,h1,⟨h2,lv',oL,h3,h5⟩,h4⟩=>⟨x,l,h1,⟨_,[],by rw [h3,List.append_nil],⟨hn,lv',oL,rfl,h5⟩,h2 ▸ OutG.nil⟩,h4⟩⟩
 fin:=fun _=>⟨93,by kernel_rfl,me_sg,fun {g many s ob} w' hb nd hd hf ho=>by
  obtain ⟨hm,lv,oo,rfl,ho⟩:=ho
  have:=sg_end w w' hT hb rfl hs ho nd hd hf hm
  have hl:(sigL seed s).length=64:=NBy.out
  rwa [←hl] at this⟩
 chk:=fun h=>by cases h
theorem wc_5 (w:World)(hT:Tab w){k:Nat}(hk:k<T256):WayC w 92 true (List Nat) none (fun g many s ob=>many≤2048∧∃ lv oo,ob=(g,(rwA (sgB lv (lb k)),94))::oo∧OwnB 5 lv many s oo) (fun s p=>s++p) (fun _ _=>[]) (fun s=>([],0)) (verS k) where
 asr:=fun g w=>run_typeAssert_hasB Tryz.underlying60 (by kernel_rfl) _ _ w
 more:=⟨94,by kernel_rfl,mm_sj,fun w' hb nd hd hf ho _ hn hp=>by
  obtain ⟨hm,lv,oo,rfl,ho⟩:=ho
  exact (by_more w w' hb rfl ho nd hd hf hp hn).mono fun e w2 ⟨x,l,h1,⟨h2,lv',oL,h3,h5⟩,h4⟩=>⟨x,l,h1,⟨_,[],by rw [h3,List.append_nil],⟨hn,lv',oL,rfl,h5⟩,h2 ▸ OutG.nil⟩,h4⟩⟩
 fin:=fun h=>by cases h
 chk:=fun _=>⟨101,by kernel_rfl,mc_sj,fun {g many m s ob u sig} w' hb nd hd hf ho i1=>by
  obtain ⟨hm,lv,oo,rfl,ho⟩:=ho
  refine sj_check w w' hb rfl ho nd hd hf i1 fun w2 hb2 h1 h2=>?_
  unfold verS
  by_cases h:∃ x:Nat×Nat,x.1<T256∧x.2<T256∧sig=lb x.1++lb x.2
  ·rw [dif_pos h]
   obtain ⟨a1,a2,a3⟩:=h.choose_spec
   have h64:m=64:=by rw [←h2.ok.len,a3,List.length_append,lb_len,lb_len]
   subst h64
   exact ver_c w hT w2 hb2 k _ _ hk a1 a2 h1 (by omega) (by rw [←a3];exact h2)
  ·rw [dif_neg h]
   refine ver_len w2 k h2 fun h64=>h ?_
   subst h64
   obtain ⟨f,hf1,hf2⟩:=lb_of (d:=sig.take 32) ⟨by rw [List.length_take,h2.ok.len];rfl,fun x hx=>h2.ok.by' x (List.mem_of_mem_take hx)⟩
   obtain ⟨t,ht1,ht2⟩:=lb_of (d:=sig.drop 32) ⟨by rw [List.length_drop,h2.ok.len],fun x hx=>h2.ok.by' x (List.mem_of_mem_drop hx)⟩
   exact ⟨(f,t),hf1,ht1,by rw [←hf2,←ht2,List.take_append_drop]⟩⟩
end Go.Proofs.YtkendlnjaopbeaaGreatDoor
namespace Go.Proofs.YtkendlnjaopbeaaGreatDoor
open Go.RowKit
attribute [local irreducible] rwA bys
set_option linter.unusedVariables false
set_option linter.unusedSimpArgs false
set_option maxRecDepth 100000
theorem Upd.perm {w w':World}{oa ob ob':Blks}(h:Upd w oa w' ob)(hp:List.Perm ob ob'):Upd w oa w' ob':=
 ⟨h.os,h.tape,h.output,h.size,h.old,(hp.map _).nodup_iff.1 h.nd,fun p hm=>h.now p (hp.mem_iff.2 hm),fun n hn=>h.fresh n ((hp.map _).mem_iff.2 hn)⟩
theorem OutG.own {v:Value}{n:Nat}{p:List Nat}{oX:Blks}(h:OwnB 5 v n p oX):OutG v p oX:=.inl (by rw [h.ok.len];exact h)
theorem OutG.full {v:Value}{n:Nat}{p:List Nat}{oX:Blks}(h:OutS v n p oX):OutG v p oX:=.inr (by rw [h.cs.ok.len];exact h)
section
variable {W iv:List Nat}{R:Nat}[hkk:AKey W]
theorem wc_6 (w:World)(hR:R≤14)(hi:B16 iv):WayC w 104 false Nat none (fun g many s ob=>s=many∧ob=[(g,(rwA (sgSt W R iv s),106))]) (fun s p=>s+p.length) (fun s p=>strL (encL W R) iv s p) (fun _=>([],0)) (fun _ _=>0) where
 asr:=as_st
 more:=⟨114,by kernel_rfl,mm_st,fun w' hb nd hd hf ho _ hn hp=>by
  obtain ⟨rfl,rfl⟩:=ho
  exact (RetPO.upd (st_more w w' hb hR hi hd.one (hf _ (by simp [keys])) (by omega) hp (by omega))).mono fun e w2 ⟨x,l,h1,⟨c,oX,h3,h5,h6⟩,h4⟩=>⟨x,l,h1,⟨[_],oX,h3,⟨by rw [hp.ok.len],by rw [h6,hp.ok.len]⟩,OutG.own h5⟩,h4⟩⟩
 fin:=fun _=>⟨113,by kernel_rfl,me_st,fun {g many s ob} w' hb nd hd hf ho=>(st_end w' g).mono fun e w3 ⟨h1,h2⟩=>⟨.slice none 0 0,[],h1,CsB.nil,Upd.of_below h2 (by simp [keys]) (by simp [keys]) (fun p hp=>by cases hp)⟩⟩
 chk:=fun h=>by cases h
theorem wc_7 (w:World)(hR:R≤14):WayC w 107 false (List Nat×List Nat) none (fun g many s ob=>B16 s.1∧s.2.length<16∧∃ lv oo,ob=(g,(rwA (sgSe W R s.1 lv),109))::oo∧OwnB 5 lv s.2.length s.2 oo)
  (fun s p=>(cblk (encL W R) s.1 (s.2++p) ((s.2++p).length / 16),(s.2++p).drop (16 * ((s.2++p).length / 16)))) (fun s p=>cflat (encL W R) s.1 (s.2++p) ((s.2++p).length / 16)) (fun s=>(cflat (encL W R) s.1 (padP s.2) 1,0)) (fun _ _=>0) where
 asr:=as_se
 more:=⟨123,by kernel_rfl,mm_se,fun {g many n s ob v p} w' hb nd hd hf ho _ hn hp=>by
  obtain ⟨hi,hl,lv,oo,rfl,ho⟩:=ho
  have hlen:(s.2++p).length=s.2.length+n:=by rw [List.length_append,hp.ok.len]
  have hby:∀ x∈s.2++p,x<256:=fun x hx=>(List.mem_append.1 hx).elim (ho.ok.by' x) (hp.ok.by' x)
  have ed:=edok hkk.ok R
  refine (se_more w w' hb hR hi ho hl nd hd hf hp (by omega) rfl (m:=(s.2++p).length / 16) (by rw [hlen])).mono fun e w2 ⟨x,l,h1,⟨lv',oL,oX,h3,h5,h6⟩,h4⟩=>⟨x,((g,(rwA (sgSe W R (cblk (encL W R) s.1 (s.2++p) ((s.2++p).length / 16)) lv'),109))::oL)++oX,h1,⟨_,oX,rfl,⟨cblk_ok ed hi hby _ (by omega),by dsimp only;rw [List.length_drop];omega,lv',oL,rfl,?_⟩,OutG.full h6⟩,(h3 ▸ h4).perm ?_⟩
  ·rw [←hlen] at h5
   dsimp only
   rw [List.length_drop]
   exact h5
  ·exact (List.perm_append_comm (l₁:=oX) (l₂:=oL)).cons _⟩
 fin:=fun _=>⟨122,by kernel_rfl,me_se,fun {g many s ob} w' hb nd hd hf ho=>by
  obtain ⟨hi,hl,lv,oo,rfl,ho⟩:=ho
  refine (se_end w' hR hi ho hl nd hd).mono fun e w2 ⟨x,oa,h1,h2,h3⟩=>⟨x,oa,h1,?_,h3⟩
  have h4:CsB (Hd oa) x 16 (cflat (encL W R) s.1 (padP s.2) 1):=by haveI:=h2;infer_instance
  have h5:=h4.ok.len
  rw [←h5] at h4
  exact h4⟩
 chk:=fun h=>by cases h
end
end Go.Proofs.YtkendlnjaopbeaaGreatDoor
namespace Go.Proofs.YtkendlnjaopbeaaGreatDoor
open Go.RowKit
attribute [local irreducible] rwA bys
set_option linter.unusedVariables false
set_option linter.unusedSimpArgs false
set_option maxRecDepth 100000
set_option maxHeartbeats 8000000 in
theorem op_endX (w:World){g k:Nat}{W iv L q:List Nat}{R:Nat}{r:Int}{lv:Value}{oo:Blks}[hkk:AKey W](hi:B16 iv)(hl:CsB (Hd oo) lv k L)
  (OB:∀ {u:Value} w',Cb w' u k L→Calls Tryz.prog 127 [kv W R,.agg (bys iv),u].toArray w' (RetO (fun v:Value=>.tuple #[v,.int .i64 r]) (fun v oa=>CsB (Hd oa) v q.length q) w'))
  (nd:(keys ((g,(rwA (sgSe W R iv lv),111))::oo)).Nodup) (hd:Hd ((g,(rwA (sgSe W R iv lv),111))::oo) w) :
  Calls Tryz.prog 125 [ptr g].toArray w (RetO (fun v:Value=>.tuple #[v,.int .i64 r]) (fun v oa=>CsB (Hd oa) v q.length q) w):=by
 refine RetU.seen hd ?_
 haveI:NBy iv 16:=⟨hi.len⟩
 haveI:One lv:=⟨by obtain ⟨_,_,rfl,_⟩:=hl.cs.ln.out;rfl⟩
 haveI:SgOk (sgSe W R iv lv):=inferInstance
 refine fn_upd (N:=_) Tryz.func125 rfl Tryz.ntmps125 Tryz.results125 (by simp) nd hd ?_
 simp only [initS,Nat.reduceAdd,Nat.zero_add]
 repeat' (first|(refine wlS ?_)|(refine wlG ?_)|(refine wlB ?_)|(refine wlE ?_)|(refine efSvao ?_;intro v oa ho)|((with_reducible refine sel_call ?_);first|(refine wl_newO rfl rfl rfl rfl rfl (fun w hm=>by with_reducible exact OB w (VwB.out w hm)) ?_;intro x oa hx))|(refine wl_skip rfl rfl ?_)|((with_reducible refine wc_seq ?_);intro K hK)|(refine auC ?_)|(refine wc_cond rfl (fun hc=>?_) (fun hc=>?_))|((with_reducible refine wc_drawT (by kernel_rfl) ?_);(try simp only [List.append_eq,List.cons_append,List.nil_append,List.length_cons,List.length_nil,Nat.reduceAdd]))|((with_reducible refine sel_wh ?_);(refine wh_if (by decide +kernel) ?_);first|(refine wh_take (lq:=[]) rfl rfl rfl rfl (by first|exact rvS|exact rvG|exact rvB|exact rvE) (Or.inl rfl) ?_)|(refine wh_takeL rfl rfl rfl rfl (by first|exact rvS|exact rvG|exact rvB|exact rvE) (by decide +kernel) ?_))|(refine whS ?_;intro v hv hp)|((with_reducible refine sel_wh ?_);first|(refine wh_pass rfl rfl rfl rfl ?_)|(refine wh_done rfl ?_)|(refine wh_all rfl ?_))|((with_reducible refine sel_rest ?_);first|exact rest_nil rfl|refine rest_cons rfl rfl ?_ ?_)|((with_reducible refine sel_nx ?_);first|refine next_of ?_|refine next_late (by decide +kernel) ?_)|(refine auP ?_)|((refine auR ?_);clear hK K)|(refine auR ?_)|((with_reducible refine hK _ _ ?_);clear hK K)|fail)
 first|refine end_ret (ResP.tmp rfl (ResP.tmp rfl ResP.nil)) ?_|refine end_normal (ResP.tmp rfl (ResP.tmp rfl ResP.nil)) ?_
 (try dsimp only [tupV])
 exact ⟨_,_,rfl,⟨_,rfl,hx⟩,SubL.refl _⟩
section
variable {W iv:List Nat}{R:Nat}[hkk:AKey W]
noncomputable def opnF (D:List Nat→List Nat) (c L:List Nat):List Nat×Int:=open Classical in
 if L.length=16 then (if endOk (dflat D c L 1) then ((dflat D c L 1).take (16 - endN (dflat D c L 1)),0) else ([],4)) else ([],1)
theorem opnF_ok (D:List Nat→List Nat)(c L:List Nat):((opnF D c L).2 != 0)=true∨((opnF D c L).2=0∧(opnF D c L).1.length≤64):=by
 unfold opnF
 split
 ·split
  ·exact .inr ⟨rfl,by dsimp only;rw [List.length_take];omega⟩
  ·exact .inl rfl
 ·exact .inl rfl
theorem wc_8 (w:World)(hR:R≤14):WayC w 110 false (List Nat×List Nat) none (fun g many s ob=>B16 s.1∧s.2.length≤16∧∃ lv oo,ob=(g,(rwA (sgSe W R s.1 lv),111))::oo∧SufB 5 lv s.2.length s.2 oo)
  (fun s p=>(prevC s.1 (s.2++p) (((s.2++p).length - 1) / 16),(s.2++p).drop (16 * (((s.2++p).length - 1) / 16)))) (fun s p=>dflat (decL W R) s.1 (s.2++p) (((s.2++p).length - 1) / 16)) (fun s=>opnF (decL W R) s.1 s.2) (fun _ _=>0) where
 asr:=as_op
 more:=⟨126,by kernel_rfl,mm_op,fun {g many n s ob v p} w' hb nd hd hf ho _ hn hp=>by
  obtain ⟨hi,hl,lv,oo,rfl,hv⟩:=ho
  have hlen:(s.2++p).length=s.2.length+n:=by rw [List.length_append,hp.ok.len]
  have hby:∀ x∈s.2++p,x<256:=fun x hx=>(List.mem_append.1 hx).elim (hv.ok.by' x) (hp.ok.by' x)
  refine (op_more w w' hb hR hi hv hl nd hd hf hp (by omega) (M:=((s.2++p).length - 1) / 16) (by rw [hlen])).mono fun e w2 ⟨x,l,h1,⟨lv',oL,oX,h3,h5,h6⟩,h4⟩=>⟨x,l,h1,⟨(g,(rwA (sgSe W R (prevC s.1 (s.2++p) (((s.2++p).length - 1) / 16)) lv'),111))::oL,oX,h3,⟨prevC_ok hi hby _ (by omega),by dsimp only;rw [List.length_drop];omega,lv',oL,rfl,?_⟩,OutG.own h6⟩,h4⟩
  rw [←hlen] at h5
  dsimp only
  rw [List.length_drop]
  exact h5⟩
 fin:=fun _=>⟨125,by kernel_rfl,me_op,fun {g many s ob} w' hb nd hd hf ho=>by
  obtain ⟨hi,hl,lv,oo,rfl,hv⟩:=ho
  refine op_endX w' hi hv.cs (fun {u} w2 h=>?_) nd hd
  have ed:=edok hkk.ok R
  have DE:∀ b,B16 b→∀ w,Calls Tryz.prog 128 [kv W R,.agg (bys b)].toArray w (Ret (.agg (bys (decL W R b))) w):=fun b hb w=>dec_c w hR hb
  have RN:∀ {P:Program} {f:Nat} {vs:Array Value} {e:Int},Calls P f vs w2 (Ret (.tuple #[.slice none 0 0,.int .i64 e]) w2)→Calls P f vs w2 (RetO (fun v:Value=>.tuple #[v,.int .i64 e]) (fun v oa=>CsB (Hd oa) v ([]:List Nat).length []) w2):=fun h=>
   h.mono fun e w3 ⟨h1,h2⟩=>⟨.slice none 0 0,[],h1,CsB.nil,Upd.of_below h2 (by simp [keys]) (by simp [keys]) (fun p hp=>by cases hp)⟩
  unfold opnF
  by_cases h16:s.2.length=16
  ·rw [if_pos h16]
   rw [h16] at h
   by_cases hok:endOk (dflat (decL W R) s.1 s.2 1)
   ·rw [if_pos hok]
    have hfl:=(dflat_ok ed hi h.ok.by' 1 (by omega)).1
    have:=open_yes w2 ed DE hi (by decide) (by decide) h hok rfl rfl
    dsimp only
    rwa [List.length_take,hfl,Nat.min_eq_left (by omega)]
   ·rw [if_neg hok]
    exact RN (open_no w2 ed DE hi (by decide) (by decide) h hok)
  ·rw [if_neg h16]
   haveI:Ln u s.2.length:=h.cs.ln
   exact RN (open_bad w2 hi (m:=s.2.length) (by omega) (by omega))⟩
 chk:=fun h=>by cases h
end
end Go.Proofs.YtkendlnjaopbeaaGreatDoor
namespace Go.Proofs.YtkendlnjaopbeaaGreatDoor
set_option linter.unusedVariables false
set_option linter.unusedSimpArgs false
structure HomC {St:Type}(s0:St)(up:St→List Nat→St)(out:St→List Nat→List Nat):Prop where
 up0:up s0 []=s0
 out0:out s0 []=[]
 upA:∀ a b,up s0 (a++b)=up (up s0 a) b
 outA:∀ a b,out s0 (a++b)=out s0 a++out (up s0 a) b
 len:∀ a,(∀ x∈a,x<256)→(out s0 a).length≤a.length
theorem hom_1:HomC newH HS.write (fun _ _=>[]):=⟨rfl,rfl,fun a b=>HS.write_app _ a b,fun _ _=>rfl,fun _ _=>Nat.zero_le _⟩
theorem hom_2 (s:MS):HomC s MS.write (fun _ _=>[]):=⟨rfl,rfl,fun a b=>MS.write_app _ a b,fun _ _=>rfl,fun _ _=>Nat.zero_le _⟩
theorem hom_4:HomC ([]:List Nat) (fun s p=>s++p) (fun _ _=>[]):=⟨rfl,rfl,fun a b=>by simp,fun _ _=>rfl,fun _ _=>Nat.zero_le _⟩
section
variable {E D:List Nat→List Nat}{iv:List Nat}
theorem hom_6:HomC 0 (fun (s:Nat) (p:List Nat)=>s+p.length) (fun s p=>strL E iv s p):=⟨rfl,rfl,fun a b=>by simp [Nat.add_assoc],fun a b=>strL_app _ a b,fun a _=>Nat.le_of_eq (strL_len _ _)⟩
theorem drop_both {a b:List Nat}{m:Nat}(h:m≤a.length):a.drop m++b=(a++b).drop m:=(List.drop_append_of_le_length h).symm
theorem hom_7 (h:EDok E D)(hi:B16 iv):HomC (iv,([]:List Nat)) (fun s p=>(cblk E s.1 (s.2++p) ((s.2++p).length / 16),(s.2++p).drop (16 * ((s.2++p).length / 16)))) (fun s p=>cflat E s.1 (s.2++p) ((s.2++p).length / 16)):=by
 refine ⟨by simp [cblk],by simp [cflat],fun a b=>?_,fun a b=>?_,fun a ha=>?_⟩
 all_goals dsimp only
 all_goals simp only [List.nil_append]
 ·have hm:16 * (a.length / 16)≤a.length:=by omega
  have hp:cblk E iv a (a.length / 16)=cblk E iv (a++b) (a.length / 16):=cblk_pre _ fun k hk=>(blk_app (by omega)).symm
  have hM:(a++b).length / 16=a.length / 16+((a++b).drop (16 * (a.length / 16))).length / 16:=by rw [List.length_drop,List.length_append];omega
  rw [drop_both hm,hp,cblk_drop,List.drop_drop,hM,←Nat.mul_add]
 ·have hm:16 * (a.length / 16)≤a.length:=by omega
  have hp:cblk E iv a (a.length / 16)=cblk E iv (a++b) (a.length / 16):=cblk_pre _ fun k hk=>(blk_app (by omega)).symm
  have hq:cflat E iv a (a.length / 16)=cflat E iv (a++b) (a.length / 16):=cflat_pre _ fun k hk=>(blk_app (by omega)).symm
  have hM:(a++b).length / 16=a.length / 16+((a++b).drop (16 * (a.length / 16))).length / 16:=by rw [List.length_drop,List.length_append];omega
  rw [drop_both hm,hp,hq,←cflat_drop,←hM]
 ·rw [(cflat_ok h hi ha _ (by omega)).1];omega
theorem dflat_pre {a b:List Nat}:∀ m,(∀ k,k<m→blk a k=blk b k)→dflat D iv a m=dflat D iv b m∧prevC iv a m=prevC iv b m
 | 0,_=>⟨rfl,rfl⟩
 | m+1,h=>by
  obtain ⟨h1,h2⟩:=dflat_pre (a:=a) (b:=b) m fun k hk=>h k (by omega)
  rw [dflat,dflat,dblk,dblk,prevC,prevC,h1,h2,h m (by omega)]
  exact ⟨rfl,rfl⟩
theorem hom_8 (h:EDok E D)(hi:B16 iv):HomC (iv,([]:List Nat)) (fun s p=>(prevC s.1 (s.2++p) (((s.2++p).length - 1) / 16),(s.2++p).drop (16 * (((s.2++p).length - 1) / 16)))) (fun s p=>dflat D s.1 (s.2++p) (((s.2++p).length - 1) / 16)):=by
 refine ⟨by simp [prevC],by simp [dflat],fun a b=>?_,fun a b=>?_,fun a ha=>?_⟩
 all_goals dsimp only
 all_goals simp only [List.nil_append]
 ·have hm:16 * ((a.length - 1) / 16)≤a.length:=by omega
  obtain ⟨hq,hp⟩:=dflat_pre (D:=D) (iv:=iv) (a:=a) (b:=a++b) ((a.length - 1) / 16) fun k hk=>(blk_app (by omega)).symm
  have hM:((a++b).length - 1) / 16=(a.length - 1) / 16+(((a++b).drop (16 * ((a.length - 1) / 16))).length - 1) / 16:=by rw [List.length_drop,List.length_append];omega
  rw [drop_both hm,hp,prevC_drop,List.drop_drop,hM,←Nat.mul_add]
 ·have hm:16 * ((a.length - 1) / 16)≤a.length:=by omega
  obtain ⟨hq,hp⟩:=dflat_pre (D:=D) (iv:=iv) (a:=a) (b:=a++b) ((a.length - 1) / 16) fun k hk=>(blk_app (by omega)).symm
  have hM:((a++b).length - 1) / 16=(a.length - 1) / 16+(((a++b).drop (16 * ((a.length - 1) / 16))).length - 1) / 16:=by rw [List.length_drop,List.length_append];omega
  rw [drop_both hm,hp,hq,←dflat_drop,←hM]
 ·rw [(dflat_ok h hi ha _ (by omega)).1];omega
end
end Go.Proofs.YtkendlnjaopbeaaGreatDoor
namespace Go.Proofs.YtkendlnjaopbeaaGreatDoor
open Go.RowKit
attribute [local irreducible] rwA bys
set_option linter.unusedVariables false
set_option linter.unusedSimpArgs false
set_option maxRecDepth 100000
set_option maxHeartbeats 4000000 in
theorem new_badG (w:World){kind:Int}(hk:1≤kind∧kind≤8){v:Value}{n:Nat}{p:List Nat}(hp:Cb w v n p){iv:List Nat}(hi:B16 iv)(WB:∀ w',Cb w' v n p→Calls Tryz.prog 18 [.int .i64 kind,v,.agg (bys iv)].toArray w' (Ret .nilIface w')) :
  Calls Tryz.prog 9 [.int .i64 kind,v,.agg (bys iv)].toArray w (Ret (.tuple #[.pointer none,.int .i64 4]) w):=by
 have i1:=hp.old
 haveI:NBy iv 16:=⟨hi.len⟩
 have t1:decide (kind<1)=false:=decide_eq_false (by omega)
 have t2:decide (kind>8)=false:=decide_eq_false (by omega)
 clear hp
 refine fn_ret (N:=_) Tryz.func9 rfl Tryz.ntmps9 Tryz.results9 (by simp) ?_
 simp only [initS,Nat.reduceAdd,Nat.zero_add]
 repeat' (first|(refine wlS ?_)|(refine wlG ?_)|(refine wlB ?_)|((with_reducible refine sel_call ?_);refine wl_rd rfl rfl (rd_call rfl rfl rfl (fun w hm=>by with_reducible exact WB w (VwB.out w hm))) ?_)|((with_reducible refine sel_b_eql ?_);refine wv rfl rfl (rd_eqlN rfl rfl) ?_)|(refine wlE ?_)|(refine efSvao ?_;intro v oa ho)|(refine efBnn ?_;intro n hn)|(refine wl_skip rfl rfl ?_)|((with_reducible refine wc_seq ?_);intro K hK)|(refine auC ?_)|(refine wc_cond rfl (fun hc=>?_) (fun hc=>?_))|(refine wc_draw (by kernel_rfl) (by kernel_rfl) (by decide +kernel) ?_;intro w0 hw0 hm0;(try simp only [List.append_eq,List.cons_append,List.nil_append]))|(refine auP ?_)|((refine auR ?_);clear hK K)|(refine auR ?_)|((with_reducible refine hK _ _ ?_);clear hK K)|fail)
 first|refine end_ret (ResP.tmp rfl (ResP.tmp rfl ResP.nil)) ?_|refine end_normal (ResP.tmp rfl (ResP.tmp rfl ResP.nil)) ?_
 first|rfl|(show _=_;rfl)|(simp only [tupV, *];done)
set_option maxHeartbeats 4000000 in
theorem new_lo (w:World){kind:Int}(hk:kind<1){v:Value}{iv:List Nat}(hi:B16 iv) :
  Calls Tryz.prog 9 [.int .i64 kind,v,.agg (bys iv)].toArray w (Ret (.tuple #[.pointer none,.int .i64 1]) w):=by
 haveI:NBy iv 16:=⟨hi.len⟩
 have t1:decide (kind<1)=true:=decide_eq_true hk
 refine fn_ret (N:=_) Tryz.func9 rfl Tryz.ntmps9 Tryz.results9 (by simp) ?_
 simp only [initS,Nat.reduceAdd,Nat.zero_add]
 repeat' (first|(refine wlS ?_)|(refine wlG ?_)|(refine wlB ?_)|(refine wlE ?_)|(refine efSvao ?_;intro v oa ho)|(refine efBnn ?_;intro n hn)|(refine wl_skip rfl rfl ?_)|((with_reducible refine wc_seq ?_);intro K hK)|(refine auC ?_)|(refine wc_cond rfl (fun hc=>?_) (fun hc=>?_))|(refine wc_draw (by kernel_rfl) (by kernel_rfl) (by decide +kernel) ?_;intro w0 hw0 hm0;(try simp only [List.append_eq,List.cons_append,List.nil_append]))|(refine auP ?_)|((refine auR ?_);clear hK K)|(refine auR ?_)|((with_reducible refine hK _ _ ?_);clear hK K)|fail)
 first|refine end_ret (ResP.tmp rfl (ResP.tmp rfl ResP.nil)) ?_|refine end_normal (ResP.tmp rfl (ResP.tmp rfl ResP.nil)) ?_
 first|rfl|(show _=_;rfl)|(simp only [tupV, *];done)
set_option maxHeartbeats 4000000 in
theorem new_hi (w:World){kind:Int}(hk:8<kind){v:Value}{iv:List Nat}(hi:B16 iv) :
  Calls Tryz.prog 9 [.int .i64 kind,v,.agg (bys iv)].toArray w (Ret (.tuple #[.pointer none,.int .i64 1]) w):=by
 haveI:NBy iv 16:=⟨hi.len⟩
 have t1:decide (kind<1)=false:=decide_eq_false (by omega)
 have t2:decide (kind>8)=true:=decide_eq_true hk
 refine fn_ret (N:=_) Tryz.func9 rfl Tryz.ntmps9 Tryz.results9 (by simp) ?_
 simp only [initS,Nat.reduceAdd,Nat.zero_add]
 repeat' (first|(refine wlS ?_)|(refine wlG ?_)|(refine wlB ?_)|(refine wlE ?_)|(refine efSvao ?_;intro v oa ho)|(refine efBnn ?_;intro n hn)|(refine wl_skip rfl rfl ?_)|((with_reducible refine wc_seq ?_);intro K hK)|(refine auC ?_)|(refine wc_cond rfl (fun hc=>?_) (fun hc=>?_))|(refine wc_draw (by kernel_rfl) (by kernel_rfl) (by decide +kernel) ?_;intro w0 hw0 hm0;(try simp only [List.append_eq,List.cons_append,List.nil_append]))|(refine auP ?_)|((refine auR ?_);clear hK K)|(refine auR ?_)|((with_reducible refine hK _ _ ?_);clear hK K)|fail)
 first|refine end_ret (ResP.tmp rfl (ResP.tmp rfl ResP.nil)) ?_|refine end_normal (ResP.tmp rfl (ResP.tmp rfl ResP.nil)) ?_
 first|rfl|(show _=_;rfl)|(simp only [tupV, *];done)
theorem new_ok {w:World}{t T:TypeId}{D:Array Value}{St:Type}{Ok:Nat→Nat→St→Blks→Prop}{s0:St}{f:Nat}{vs:Array Value}(hok:∀ g,Ok g 0 s0 [(g,(D,T))])
  (hc:Calls Tryz.prog f vs w (RetO (fun b:Nat=>.tuple #[ptr b,.int .i64 0]) (fun b oa=>∃ g,oa=[(b,(#[.iface t (ptr g),.int .i64 0,.bool false],57)),(g,(D,T))]) w)) :
  Calls Tryz.prog f vs w (RetO (fun b:Nat=>.tuple #[ptr b,.int .i64 0]) (fun b oa=>∃ g oW,oa=opB b t g 0 false::oW∧Ok g 0 s0 oW) w):=
 hc.mono fun e w2 ⟨b,oa,h1,⟨g,h2⟩,h3⟩=>⟨b,oa,h1,⟨g,_,h2,hok g⟩,h3⟩
theorem exp_any {kz:Value}{m:Nat}{p:List Nat}{w:World}(h0:Cb w kz m p):∃ W R e,AKey W∧R≤14∧(e=0∨e=1)∧∀ w',Cb w' kz m p→Calls Tryz.prog 25 [kz].toArray w' (Ret (.tuple #[kv W R,.int .i64 e]) w'):=by
 by_cases hm:m=16∨m=24∨m=32
 ·obtain ⟨n,rfl,hn⟩:=key_len hm
  exact ⟨expW n p,n+6,0,expW_ok h0.ok.len h0.ok.by' (by omega) (by omega),by omega,.inl rfl,fun w' h=>exp_c w' hn h⟩
 ·exact ⟨_,0,1,key_zero,by decide,.inr rfl,fun w' h=>exp_no w' hm h⟩
set_option maxHeartbeats 4000000 in
theorem new_wB (w:World){kind:Int}(hk:1≤kind∧kind≤8){v:Value}{n:Nat}{p:List Nat}(hp:Cb w v n p){iv:List Nat}(hi:B16 iv){t T:TypeId}{C:Array Value}
  (WY:∀ w',Below w.heap.size w w'→Cb w' v n p→Calls Tryz.prog 18 [.int .i64 kind,v,.agg (bys iv)].toArray w' (RetO (fun g:Nat=>.iface t (ptr g)) (fun g oa=>oa=[(g,(C,T))]) w')) :
  Calls Tryz.prog 9 [.int .i64 kind,v,.agg (bys iv)].toArray w (RetO (fun b:Nat=>.tuple #[ptr b,.int .i64 0]) (fun b oa=>∃ g,oa=[(b,(#[.iface t (ptr g),.int .i64 0,.bool false],57)),(g,(C,T))]) w):=by
 have i1:=hp.old
 haveI:NBy iv 16:=⟨hi.len⟩
 have t1:decide (kind<1)=false:=decide_eq_false (by omega)
 have t2:decide (kind>8)=false:=decide_eq_false (by omega)
 clear hp
 refine fn_own (N:=_) Tryz.func9 rfl Tryz.ntmps9 Tryz.results9 (by simp) ?_
 simp only [initS,Nat.reduceAdd,Nat.zero_add]
 repeat' (first|(refine wlS ?_)|(refine wlG ?_)|(refine wlB ?_)|(refine wlE ?_)|(refine efSvao ?_;intro v oa ho)|((with_reducible refine sel_call ?_);first|(refine wl_newO rfl rfl rfl rfl rfl (fun w hm=>by with_reducible exact WY w (hm.below rfl) (VwB.out w hm)) ?_;intro x oa hx))|(refine efBnn ?_;intro n hn)|(refine wl_skip rfl rfl ?_)|((with_reducible refine wc_seq ?_);intro K hK)|(refine auC ?_)|(refine wc_cond rfl (fun hc=>?_) (fun hc=>?_))|(refine wc_draw (by kernel_rfl) (by kernel_rfl) (by decide +kernel) ?_;intro w0 hw0 hm0;(try simp only [List.append_eq,List.cons_append,List.nil_append]))|(refine auP ?_)|((refine auR ?_);clear hK K)|(refine auR ?_)|((with_reducible refine hK _ _ ?_);clear hK K)|fail)
 subst hx
 repeat' (first|(refine wlS ?_)|(refine wlG ?_)|(refine wlB ?_)|((with_reducible refine sel_b_eql ?_);refine wv rfl rfl (rd_eqlI rfl rfl rfl) ?_)|(refine wlE ?_)|(refine efSvao ?_;intro v oa ho)|(refine efBnn ?_;intro n hn)|(refine wl_skip rfl rfl ?_)|((with_reducible refine wc_seq ?_);intro K hK)|(refine auC ?_)|(refine wc_cond rfl (fun hc=>?_) (fun hc=>?_))|(refine wc_draw (by kernel_rfl) (by kernel_rfl) (by decide +kernel) ?_;intro w0 hw0 hm0;(try simp only [List.append_eq,List.cons_append,List.nil_append]))|(refine auP ?_)|((refine auR ?_);clear hK K)|(refine auR ?_)|((with_reducible refine hK _ _ ?_);clear hK K)|fail)
 first|refine end_ret (ResP.tmp rfl (ResP.tmp rfl ResP.nil)) ?_|refine end_normal (ResP.tmp rfl (ResP.tmp rfl ResP.nil)) ?_
 (try dsimp only [tupV])
 exact ⟨_,_,rfl,⟨x,rfl⟩,.keep (.skip (.keep .nil))⟩
abbrev NewOk (w:World)(kind:Int)(kz:Value)(m:Nat)(p iv:List Nat)(t:TypeId){St:Type}(Ok:Nat→Nat→St→Blks→Prop)(s0:St):Prop:=
 ∀ w',Below w.heap.size w w'→Cb w' kz m p→Calls Tryz.prog 9 [.int .i64 kind,kz,.agg (bys iv)].toArray w' (RetO (fun b:Nat=>.tuple #[ptr b,.int .i64 0]) (fun b oa=>∃ g oW,oa=opB b t g 0 false::oW∧Ok g 0 s0 oW) w')
abbrev NewNo (kind:Int)(kz:Value)(m:Nat)(p iv:List Nat)(e:Int):Prop:=∀ w',Cb w' kz m p→Calls Tryz.prog 9 [.int .i64 kind,kz,.agg (bys iv)].toArray w' (Ret (.tuple #[.pointer none,.int .i64 e]) w')
theorem kinds {B:Prop}(w:World)(hT:Tab w){kind:Int}{kz:Value}{m:Nat}{p iv q:List Nat}(h0:Cb w kz m p)(hi:B16 iv)[ByL q](BAD:∀ e:Int,e=1∨e=4→NewNo kind kz m p iv e→B)
  (GE:∀ {t:TypeId} {St:Type} {one:Option St} {Ok:Nat→Nat→St→Blks→Prop} {up:St→List Nat→St} {out:St→List Nat→List Nat} {fin:St→List Nat×Int} {chk:St→List Nat→Int} {s0:St},
   WayC w t false St one Ok up out fin chk→(∀ (s:St) x,one=some x→s=x)→(((fin (up s0 q)).2 != 0)=true∨((fin (up s0 q)).2=0∧(fin (up s0 q)).1.length≤64))→HomC s0 up out→NewOk w kind kz m p iv t Ok s0→B)
  (GJ:∀ {t:TypeId} {St:Type} {one:Option St} {Ok:Nat→Nat→St→Blks→Prop} {up:St→List Nat→St} {out:St→List Nat→List Nat} {fin:St→List Nat×Int} {chk:St→List Nat→Int} {s0:St},
   WayC w t true St one Ok up out fin chk→(∀ (s:St) x,one=some x→s=x)→HomC s0 up out→NewOk w kind kz m p iv t Ok s0→B):B:=by
 obtain ⟨W,R,e,hkk,hR,he,EX⟩:=exp_any h0
 haveI:=hkk
 by_cases hlo:kind<1
 ·exact BAD 1 (.inl rfl) fun w' _=>new_lo w' hlo hi
 by_cases hhi:8<kind
 ·exact BAD 1 (.inl rfl) fun w' _=>new_hi w' hhi hi
 have hk:1≤kind∧kind≤8:=⟨by omega,by omega⟩
 have BAD:(∀ w',Cb w' kz m p→Calls Tryz.prog 18 [.int .i64 kind,kz,.agg (bys iv)].toArray w' (Ret .nilIface w'))→B:=
  fun WB=>BAD 4 (.inr rfl) fun w' h=>new_badG w' hk h hi WB
 have GE:∀ {t T:TypeId} {D:Array Value} {St:Type} {one:Option St} {Ok:Nat→Nat→St→Blks→Prop} {up:St→List Nat→St} {out:St→List Nat→List Nat} {fin:St→List Nat×Int} {chk:St→List Nat→Int} {s0:St},
   WayC w t false St one Ok up out fin chk→(∀ (s:St) x,one=some x→s=x)→(((fin (up s0 q)).2 != 0)=true∨((fin (up s0 q)).2=0∧(fin (up s0 q)).1.length≤64))→HomC s0 up out→(∀ g,Ok g 0 s0 [(g,(D,T))])→
   (∀ w',Tab w'→Cb w' kz m p→Calls Tryz.prog 18 [.int .i64 kind,kz,.agg (bys iv)].toArray w' (RetO (fun g:Nat=>.iface t (ptr g)) (fun g oa=>oa=[(g,(D,T))]) w'))→B:=by
  intro t T D St one Ok up out fin chk s0 WC ho hf hH hok WY
  exact GE WC ho hf hH fun w' hb h=>new_ok hok (new_wB w' hk h hi fun w2 hb2 h2=>WY w2 ((hT.below hb).below hb2) h2)
 have GJ:∀ {t T:TypeId} {D:Array Value} {St:Type} {one:Option St} {Ok:Nat→Nat→St→Blks→Prop} {up:St→List Nat→St} {out:St→List Nat→List Nat} {fin:St→List Nat×Int} {chk:St→List Nat→Int} {s0:St},
   WayC w t true St one Ok up out fin chk→(∀ (s:St) x,one=some x→s=x)→HomC s0 up out→(∀ g,Ok g 0 s0 [(g,(D,T))])→
   (∀ w',Tab w'→Cb w' kz m p→Calls Tryz.prog 18 [.int .i64 kind,kz,.agg (bys iv)].toArray w' (RetO (fun g:Nat=>.iface t (ptr g)) (fun g oa=>oa=[(g,(D,T))]) w'))→B:=by
  intro t T D St one Ok up out fin chk s0 WC ho hH hok WY
  exact GJ WC ho hH fun w' hb h=>new_ok hok (new_wB w' hk h hi fun w2 hb2 h2=>WY w2 ((hT.below hb).below hb2) h2)
 have hby:ByL p:=⟨h0.ok.by'⟩
 have no:∀ {α:Type} (s:α) x,(none:Option α)=some x→s=x:=fun s x h=>by cases h
 have hk8:kind=1∨kind=2∨kind=3∨kind=4∨kind=5∨kind=6∨kind=7∨kind=8:=by omega
 rcases hk8 with rfl|rfl|rfl|rfl|rfl|rfl|rfl|rfl
 ·by_cases hm:m=0
  ·subst hm
   exact GE (wc_1 w hT) no (.inr ⟨rfl,by dsimp only;rw [sum_len (inferInstance:HSo (newH.write q)).out];decide⟩) hom_1 (fun g=>⟨inferInstance,rfl⟩) fun w' t h=>way_1 w' h hi EX
  ·exact BAD fun w' h=>way_no1 w' h hm hi EX
 ·rcases he with rfl|rfl
  ·exact GE (wc_2 w hT) no (.inr ⟨rfl,by dsimp only;haveI:MSo (newM p):=inferInstance;rw [msum_len (s:=(newM p).write q)];decide⟩) (hom_2 _) (fun g=>⟨inferInstance,rfl⟩) fun w' t h=>way_2 w' t h hi EX
  ·exact BAD fun w' h=>way_no2 w' h hi EX
 ·rcases he with rfl|rfl
  ·exact GJ (wc_3 w hT) no (hom_2 _) (fun g=>⟨inferInstance,rfl⟩) fun w' t h=>way_3 w' t h hi EX
  ·exact BAD fun w' h=>way_no3 w' h hi EX
 ·by_cases hm:m=32
  ·subst hm
   obtain ⟨sd,hs,rfl⟩:=lb_of (d:=p) h0.ok
   exact GE (wc_4 w hT hs) no (.inr ⟨rfl,by dsimp only;rw [(NBy.out:(sigL sd ([]++q)).length=64)];decide⟩) hom_4 (fun g=>⟨by decide,_,[],rfl,inferInstance⟩) fun w' t h=>way_4 w' hs h hi EX
  ·exact BAD fun w' h=>way_no4 w' h hm hi EX
 ·by_cases hm:m=32∧upOk' p
  ·obtain ⟨rfl,kk,hkk2,rfl,hu⟩:=hm
   exact GJ (wc_5 w hT hkk2) no hom_4 (fun g=>⟨by decide,_,[],rfl,inferInstance⟩) fun w' t h=>way_5 w' hkk2 hu h hi EX
  ·exact BAD fun w' h=>way_no5 w' h (fun h32 hu=>hm ⟨h32,hu⟩) hi EX
 ·rcases he with rfl|rfl
  ·exact GE (wc_6 w hR hi) no (.inr ⟨rfl,by decide⟩) hom_6 (fun g=>⟨rfl,rfl⟩) fun w' t h=>way_st w' h hi EX
  ·exact BAD fun w' h=>way_bad w' (by decide) h hi EX
 ·rcases he with rfl|rfl
  ·refine GE (s0:=(iv,[])) (wc_7 w hR) no (.inr ⟨rfl,?_⟩) (hom_7 (edok hkk.ok R) hi) (fun g=>⟨hi,by show (0:Nat)<16;decide,_,[],rfl,inferInstance⟩) fun w' t h=>way_se w' h hi EX
   have hl:(padP (q.drop (16 * (q.length / 16)))).length=16:=by rw [padP_len,List.length_drop];omega
   have ed:=edok hkk.ok R
   dsimp only
   rw [List.nil_append,(cflat_ok ed (cblk_ok ed hi (ByL.out:∀ x∈q,x<256) _ (by omega)) (padP_byl' (ByL.out:∀ x∈q,x<256) _) 1 (by omega)).1]
   decide
  ·exact BAD fun w' h=>way_bad w' (by decide) h hi EX
 ·rcases he with rfl|rfl
  ·exact GE (s0:=(iv,[])) (wc_8 w hR) no (opnF_ok _ _ _) (hom_8 (edok hkk.ok R) hi) (fun g=>⟨hi,by show (0:Nat)≤16;decide,_,[],rfl,SufB.of inferInstance⟩) fun w' t h=>way_op w' h hi EX
  ·exact BAD fun w' h=>way_bad w' (by decide) h hi EX
end Go.Proofs.YtkendlnjaopbeaaGreatDoor
namespace Go.Proofs.YtkendlnjaopbeaaGreatDoor
open Go.RowKit
theorem zero16:bys (List.replicate 16 0)=#[.int .u8 0,.int .u8 0,.int .u8 0,.int .u8 0,.int .u8 0,.int .u8 0,.int .u8 0,.int .u8 0,.int .u8 0,.int .u8 0,.int .u8 0,.int .u8 0,.int .u8 0,.int .u8 0,.int .u8 0,.int .u8 0]:=by simp [bys,bl]
attribute [local irreducible] rwA bys
set_option linter.unusedVariables false
set_option linter.unusedSimpArgs false
set_option maxRecDepth 100000
theorem zero16_ok:B16 (List.replicate 16 0):=B16.of rfl (by intro x hx;rw [(List.mem_replicate.1 hx).2];decide)
set_option maxHeartbeats 4000000 in
theorem ops_c (w:World)(hT:Tab w):Calls Tryz.prog 8 [].toArray w (Ret (.bool true) w):=by
 have hz:∀ w,Cb w (.slice none 0 0) 0 []:=cb_nil
 obtain ⟨W,R,e,hkk,hR,he,EX⟩:=exp_any (hz w)
 haveI:=hkk
 have NW:∀ w',Below w.heap.size w w'→Calls Tryz.prog 9 [.int .i64 1,.slice none 0 0,.agg (bys (List.replicate 16 0))].toArray w' (RetO (fun b:Nat=>.tuple #[ptr b,.int .i64 0]) (fun b oa=>∃ g oW,oa=opB b 80 g 0 false::oW∧(fun (many:Nat) (g:Nat) (s:HS) (ob:Blks)=>HSo s∧ob=[(g,(rwA (sgH s),82))]) 0 g newH oW) w'):=
  fun w' hb=>new_ok (Ok:=fun g many s ob=>HSo s∧ob=[(g,(rwA (sgH s),82))]) (s0:=newH) (fun g=>⟨inferInstance,rfl⟩) (new_wB w' (by decide) (hz w') zero16_ok fun w2 hb2 h2=>way_1 w2 h2 zero16_ok EX)
 rw [zero16] at NW
 clear hT EX
 refine fn_ret (N:=_) Tryz.func8 rfl Tryz.ntmps8 Tryz.results8 (by simp) ?_
 simp only [initS,Nat.reduceAdd,Nat.zero_add]
 repeat' (first|(refine wlS ?_)|(refine wlG ?_)|(refine wlBZ ?_)|(refine wlB ?_)|(refine wlPN ?_)|(refine wlE ?_)|(refine efSvao ?_;intro v oa ho)|((with_reducible refine sel_call ?_);first|(refine wl_newO rfl rfl rfl rfl rfl (fun w hm=>by with_reducible exact NW w (hm.below rfl)) ?_;intro x oa hx))|(refine wl_skip rfl rfl ?_)|((with_reducible refine wc_seq ?_);intro K hK)|(refine auC ?_)|(refine wc_cond rfl (fun hc=>?_) (fun hc=>?_))|(refine wc_draw (by kernel_rfl) (by kernel_rfl) (by decide +kernel) ?_;intro w0 hw0 hm0;(try simp only [List.append_eq,List.cons_append,List.nil_append]))|(refine auP ?_)|((refine auR ?_);clear hK K)|(refine auR ?_)|((with_reducible refine hK _ _ ?_);clear hK K)|fail)
 obtain ⟨g,oW,rfl,hok⟩:=hx
 repeat' (first|(refine wlS ?_)|(refine wlG ?_)|(refine wlB ?_)|(refine wlPN ?_)|(refine wlE ?_)|(refine efSvao ?_;intro v oa ho)|(refine wl_skip rfl rfl ?_)|((with_reducible refine wc_seq ?_);intro K hK)|(refine auC ?_)|(refine wc_cond rfl (fun hc=>?_) (fun hc=>?_))|(refine wc_draw (by kernel_rfl) (by kernel_rfl) (by decide +kernel) ?_;intro w0 hw0 hm0;(try simp only [List.append_eq,List.cons_append,List.nil_append]))|(refine auP ?_)|((refine auR ?_);clear hK K)|(refine auR ?_)|((with_reducible refine hK _ _ ?_);clear hK K)|fail)
 first|refine end_ret (ResP.tmp rfl ResP.nil) ?_|refine end_normal (ResP.tmp rfl ResP.nil) ?_
 first|rfl|(show _=_;rfl)|(simp only [tupV, *];done)
end Go.Proofs.YtkendlnjaopbeaaGreatDoor
