/- Jf: part 55 of joined texts. No condition of its own. -/
import Derived.Test.YtmdnepkekekncaaGreatJfJ50
import Derived.Test.YtmdnepkekekncaaGreatJfJ52
import Derived.JoinedCond
import Derived.WalkKit
import Derived.ProofKit
import Derived.OpenShut
import Derived.ShutString
import Derived.ChangeOld
import Derived.Below
import Derived.SizedLaws
set_option linter.unusedVariables false
set_option linter.unusedSimpArgs false
set_option maxRecDepth 100000
set_option maxHeartbeats 12000000
namespace Go.Proofs.YtmdnepkekekncaaGreat.topUndoLift
open Go.ChangeShapes Go.WideShapes Go.ChangeAt Go.RowKit
open Go.ChangeMaps (open_string shut_string)
theorem own:ownKnob Tryz.prog.godebug=none:=QX
theorem laidOut:laidOutB Tryz.prog=true:=QX
theorem lifted(os:Os)(started:os.Started)(H:Type)(enc:TypeId×Value->H)(F:Stop.Interp):
  ReturnsInHanded {} Tryz.checked os 4 .any ((Rows.OpenSpec.upto Rows.topUndoSpec).pre6 enc Tryz.prog Tryz.f4 Rows.topUndoUptoRow.domain false) (((Rows.OpenSpec.upto Rows.topUndoSpec).at F).post enc Tryz.prog Tryz.f4 false true false false):=by
 refine returnsInHanded_of_cond (C:=Tryz.checked) (s:=Rows.OpenSpec.upto Rows.topUndoSpec) (k:=Rows.uptoSmall) rfl own started QX Tryz.func4
  (OpenSpec.witness (enc:=enc) (C:=Tryz.checked) (s:=Rows.OpenSpec.upto Rows.topUndoSpec) (k:=Rows.uptoSmall) rfl false ⟨#[],#[.int .i64 0,.string ⟨#[]⟩,.agg #[.int .i64 0,.int .i64 0,.int .i64 0,.int .i64 0,.int .i64 0],.slice none 0 0],[]⟩ 8 QX QX QX
   (x:=([.lit (.int .i64 0),.lit (.string []),.agg [.lit (.int .i64 0),.lit (.int .i64 0),.lit (.int .i64 0),.lit (.int .i64 0),.lit (.int .i64 0)],.nil],[],[])) QX rfl QX) ?_
 intro W base args ds gs before hval0 hW hcnd hk _;have hval:∀(j:Nat) t v,Tryz.f4.params[j]? =some t->args[j]? =some v->Value.okWide Tryz.prog W .any base t v:=hval0;have hW':=hW;obtain⟨p,q,oL,hV,rfl,hfz,hnd⟩:=hW;have hA:DataW.TrodAll enc Tryz.prog W 0 (fun _=>true) true Tryz.f4.params.toList args.toList ds p:=oL;rw[Tryz.params4]at hA hval;obtain⟨v0,vs0,d0,ds0,p0,q0,hargs,rfl,rfl,h0,r0⟩:=trodAll_cons hA;obtain⟨v1,vs1,d1,ds1,p1,q1,rfl,rfl,rfl,h1,r1⟩:=trodAll_cons r0;obtain⟨v2,vs2,d2,ds2,p2,q2,rfl,rfl,rfl,h2,r2⟩:=trodAll_cons r1;obtain⟨v3,vs3,d3,ds3,p3,q3,rfl,rfl,rfl,h3,r3⟩:=trodAll_cons r2;obtain⟨rfl,rfl,rfl⟩:=trodAll_nil r3;obtain rfl:args=#[v0,v1,v2,v3]:=by cases args;simp_all
 obtain⟨rfl,rfl⟩:=trodVars_none hV;simp only[List.append_nil]at hk;have bk0:Rows.uptoBulk d0<=1048576:=KZ hk QJ;have bk1:Rows.uptoBulk d1<=1048576:=KZ hk QJ;have bk2:Rows.uptoBulk d2<=1048576:=KZ hk QJ;have bk3:Rows.uptoBulk d3<=1048576:=KZ hk QJ;have k0:=h0;have lt0:∀x∈p0,x.block<W.heap.size:=QDn;have k1:=h1;have lt1:∀x∈p1,x.block<W.heap.size:=QDm;have k2:=h2;have lt2:∀x∈p2,x.block<W.heap.size:=QDl;have k3:=h3;have lt3:∀x∈p3,x.block<W.heap.size:=by obtain⟨m,hm⟩:=k3;exact DataW.trod_lt m _ _ _ hm
 obtain⟨a0,rfl,rfl,rfl,w0⟩:=open_int Tryz.underlying3 (hval 0 3 v0 rfl rfl) h0;have b0:=qg.EJ w0;obtain⟨a1,rfl,rfl,rfl,w1⟩:=open_string Tryz.underlying9 (hval 1 9 v1 rfl rfl) h1;obtain⟨a2,b2,c2,d2,e2,rfl,-⟩:=sN Tryz.underlying39 QX QX rfl rfl rfl rfl rfl (hval 2 39 v2 rfl rfl) h2;obtain⟨a3,QYG,QJb,rfl⟩:=okWide_slice Tryz.underlying22 (hval 3 22 v3 rfl rfl);obtain⟨x3,i3,l3,q3',u3,z3,t3,m3⟩:=Ww h3;clear oL hval0;have hs1:a1.size<=1048576:=by
  rw[uy]at bk1;simp at bk1;omega
 refine(Es a3 QYG QJb x3 a0 a1 a2 b2 c2 d2 e2 W i3 l3 (Zf m3 QQ) hs1).mono fun e W' ⟨he,Xw⟩=>?_
 exact QG0
theorem CJ{a b:Bool}(h:a=true)(g:b=true):(a&&b)=true:=by rw[h,g];rfl
theorem closed:joinedFacts Tryz.pinned.checked.prog 4 Tryz.f4 (Rows.OpenSpec.upto Rows.topUndoSpec).bare Rows.topUndoUptoRow=true:=by
 unfold joinedFacts
 repeat' with_reducible refine CJ ?_ ?_
 all_goals as_aux_lemma=>kernel_rfl
theorem proved:Rows.TopUndoUptoSaid:=
 OpenClaim.holds_of_cond 4 Tryz.f4 rfl rfl rfl rfl rfl rfl rfl ⟨rfl,rfl,rfl,rfl,rfl⟩ rfl rfl rfl rfl rfl QX Tryz.func4 closed
  (of_decide_eq_true QX) Qh
  (fun os started H enc _ F=>lifted os started H enc F)
#print axioms proved
end Go.Proofs.YtmdnepkekekncaaGreat.topUndoLift
