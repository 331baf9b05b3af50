/- OpParts: the walk. What a []int is that came in. -/
import Derived.Test.YtkendlnjaopbeaaGreatDoorOpPartsG
import Derived.Test.YtkendlnjaopbeaaGreatDoorJnAD
namespace Go.Proofs.YtkendlnjaopbeaaGreatDoor.OpPartsWalk
open Go.RowKit
attribute [local irreducible] rwA bys
set_option linter.unusedVariables false
set_option linter.unusedSimpArgs false
set_option maxRecDepth 100000
theorem walk (w:World)(hT:Tab w){kind:Int}{kz uiv v2 u:Value}{m n:Nat}{p iv q:List Nat}{zs:List Int}(h0:Cb w kz m p)(h1:ArB 16 uiv iv)(h2:Cb w v2 n q)(h3:Cs w u zs.length (zs.map (Value.int .i64))∧∀ z∈zs,-9223372036854775808≤z∧z<9223372036854775808)(hk:zs.length≤1048576) :
  Calls Tryz.prog 4 [.int .i64 kind,kz,uiv,v2,u].toArray w (Ret (.bool true) w):=by
 obtain ⟨rfl,hil,hib⟩:=h1
 have hi:=B16.of hil hib
 haveI:ByL q:=⟨h2.ok.by'⟩
 have hql:=h2.ok.len
 refine kinds (q:=q) w hT h0 hi (fun e he NW=>parts_bad w hT (by rcases he with rfl|rfl <;> rfl) h0 hi NW) (fun {t St one Ok up out fin chk s0} WC ho hf H NW=>?_) (fun {t St one Ok up out fin chk s0} WC ho H NW=>?_)
 ·by_cases hn:n≤2048
  ·rcases hf with hf | ⟨hf,hl⟩
   ·exact parts_go hT WC H ho h0 hi h2 h3.1.old rfl hk (fun w' hb h=>(runG_err WC w' hb h hi h2 hn (ho _) hf NW) |> Ret.toO) NW (.inr (.inr (.inl ⟨hn,rfl,hf,rfl⟩)))
   ·exact parts_go hT WC H ho h0 hi h2 h3.1.old rfl hk (fun w' hb h=>runG_ok WC w' hb h hi h2 hn (ho _) hf hl (by have:=H.len q h2.ok.by';omega) NW) NW (.inr (.inr (.inr ⟨hn,rfl,hf,hl,rfl,rfl⟩)))
  ·exact parts_go hT WC H ho h0 hi h2 h3.1.old rfl hk (fun w' hb h=>(runG_large (jd:=false) w' hb h hi h2 (by omega) NW) |> Ret.toO) NW (.inl ⟨by omega,rfl⟩)
 ·by_cases hn:n≤2048
  ·exact parts_go hT WC H ho h0 hi h2 h3.1.old rfl hk (fun w' hb h=>(runG_judge WC w' hb h hi h2 hn (ho _) NW) |> Ret.toO) NW (.inr (.inl ⟨hn,rfl,rfl⟩))
  ·exact parts_go hT WC H ho h0 hi h2 h3.1.old rfl hk (fun w' hb h=>(runG_large (jd:=true) w' hb h hi h2 (by omega) NW) |> Ret.toO) NW (.inl ⟨by omega,rfl⟩)
end Go.Proofs.YtkendlnjaopbeaaGreatDoor.OpPartsWalk
namespace Go.Proofs.YtkendlnjaopbeaaGreatDoor
open Go.RowKit Go.ChangeShapes Go.WideShapes
set_option linter.unusedVariables false
set_option maxRecDepth 100000 in
theorem open_ints {H:Type}{enc:TypeId×Value→H}{W:World}{r:Reach}{b0:Nat}{v:Value}{d:DataW H}{q:List MemPlace}(hv:Value.okWide Tryz.prog W r b0 35 v)(h:DataW.Trod enc Tryz.prog W 0 (fun _=>true) true 35 v d q) :
  ∃ zs:List Int,(Cs W v zs.length (zs.map (Value.int .i64))∧∀ z∈zs,-9223372036854775808≤z∧z<9223372036854775808)∧zs.length+1≤Rows.uptoBulk d:=open_ints' (t:=35) (e:=3) (by kernel_rfl) (by kernel_rfl) (by kernel_rfl) hv h
end Go.Proofs.YtkendlnjaopbeaaGreatDoor
