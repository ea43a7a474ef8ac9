/- joined, no condition of its own. -/
import Derived.Test.YtmdnepkekekncaaGreatJfJ1
import Derived.Lib.SmallJoins
set_option linter.unusedVariables false
set_option linter.unusedSimpArgs false
set_option maxRecDepth 100000
set_option maxHeartbeats 12000000
namespace Go.Proofs.YtmdnepkekekncaaGreat
open Go.Joins Go.ChangeShapes Go.WideShapes Go.RowKit Go.Deep
theorem Aq{H:Type}{enc:TypeId×Value->H}{w:World}{base:Nat}{spare:Nat->Bool}{held:Bool}{n:Nat}{t:TypeId}{v:Value}{y:DataW H×List MemPlace}(ht:t=3)(h:DataW.trod enc Tryz.prog w base spare held n t [v]=some y):∃a:Int,v=.int .i64 a/\qg a:=by
 subst ht;obtain⟨i,hi,-,hw⟩:=DataW.trod_int Tryz.underlying3 h;simp at hi;exact⟨i,hi,qg.EJ hw⟩
section
variable {H:Type} {enc:TypeId×Value->H} {P:Program} {w:World} {base:Nat} {spare:Nat->Bool} {held:Bool}
theorem TA{r:Reach}{b0:Nat}{t:TypeId}{f0 f1 f2 f3 f4:Field}{v:Value}{d:DataW H}{p:List MemPlace}(hs:P.underlying t=some (.struct #[f0,f1,f2,f3,f4]))(hone:oneCellFields P #[f0,f1,f2,f3,f4]=true)(hC:P.cellsOf t=5)
  (hv:Value.okWide P w r b0 t v) (h:DataW.Trod enc P w base spare held t v d p):
  ∃(v0 v1 v2 v3 v4:Value) (y0 y1 y2 y3 y4:DataW H×List MemPlace) (n:Nat),v=.agg #[v0,v1,v2,v3,v4]/\d=.agg [y0.1,y1.1,y2.1,y3.1,y4.1]/\p=y0.2++(y1.2++(y2.2++(y3.2++y4.2)))/\
   DataW.trod enc P w base spare held n f0.type [v0]=some y0/\DataW.trod enc P w base spare held n f1.type [v1]=some y1/\DataW.trod enc P w base spare held n f2.type [v2]=some y2/\DataW.trod enc P w base spare held n f3.type [v3]=some y3/\DataW.trod enc P w base spare held n f4.type [v4]=some y4:=by
 obtain⟨cs,rfl,hsz⟩:=okWide_struct hs hv;obtain⟨l⟩:=cs
 match l,hsz.trans hC with
 | [c0,c1,c2,c3,c4],_=>
  obtain⟨fuel,hf⟩:=h;obtain⟨xs,n,_,hx,_,hlen,hg⟩:=DataW.trod_struct hs hf;obtain⟨o0,k0⟩:=hone_of hone 0 f0 rfl;obtain⟨o1,k1⟩:=hone_of hone 1 f1 rfl;obtain⟨o2,k2⟩:=hone_of hone 2 f2 rfl;obtain⟨o3,k3⟩:=hone_of hone 3 f3 rfl;obtain⟨o4,k4⟩:=hone_of hone 4 f4 rfl
  match xs,hlen with
  | [y0,y1,y2,y3,y4],_=>
   simp only[YP]at hx;exact⟨c0,c1,c2,c3,c4,y0,y1,y2,y3,y4,n,rfl,by simpa using hx.1,by simpa using hx.2,by simpa[Value.cells,o0,k0]using hg 0 f0 rfl,by simpa[Value.cells,o1,k1]using hg 1 f1 rfl,by simpa[Value.cells,o2,k2]using hg 2 f2 rfl,by simpa[Value.cells,o3,k3]using hg 3 f3 rfl,by simpa[Value.cells,o4,k4]using hg 4 f4 rfl⟩
end
theorem sN{H:Type}{enc:TypeId×Value->H}{w:World}{base:Nat}{spare:Nat->Bool}{held:Bool}{r:Reach}{b0:Nat}{t:TypeId}{f0 f1 f2 f3 f4:Field}{v:Value}{d:DataW H}{p:List MemPlace}(hs:Tryz.prog.underlying t=some (.struct #[f0,f1,f2,f3,f4]))(hone:oneCellFields Tryz.prog #[f0,f1,f2,f3,f4]=true)(hC:Tryz.prog.cellsOf t=5)
  (h0:f0.type=3) (h1:f1.type=3) (h2:f2.type=3) (h3:f3.type=3) (h4:f4.type=3)
  (hv:Value.okWide Tryz.prog w r b0 t v) (h:DataW.Trod enc Tryz.prog w base spare held t v d p):
  ∃a0 a1 a2 a3 a4:Int,v=.agg #[.int .i64 a0,.int .i64 a1,.int .i64 a2,.int .i64 a3,.int .i64 a4]/\qg a0/\qg a1/\qg a2/\qg a3/\qg a4:=by
 obtain⟨v0,v1,v2,v3,v4,y0,y1,y2,y3,y4,n,rfl,-,-,g0,g1,g2,g3,g4⟩:=TA hs hone hC hv h;obtain⟨a0,rfl,r0⟩:=Aq h0 g0;obtain⟨a1,rfl,r1⟩:=Aq h1 g1;obtain⟨a2,rfl,r2⟩:=Aq h2 g2;obtain⟨a3,rfl,r3⟩:=Aq h3 g3;obtain⟨a4,rfl,r4⟩:=Aq h4 g4;exact⟨a0,a1,a2,a3,a4,rfl,r0,r1,r2,r3,r4⟩
end Go.Proofs.YtmdnepkekekncaaGreat
