/- Jf: part 54 of joined texts. No condition of its own. -/
import Derived.Test.YtmdnepkekekncaaGreatJfJ51
import Derived.JoinedCond
import Derived.WalkKit
import Derived.ProofKit
import Derived.OpenShut
import Derived.ShutString
import Derived.ChangeOld
import Derived.Below
import Derived.SizedLaws
set_option linter.unusedVariables false
set_option linter.unusedSimpArgs false
set_option maxRecDepth 100000
set_option maxHeartbeats 12000000
namespace Go.Proofs.YtmdnepkekekncaaGreat.topTypedLift
open Go.ChangeShapes Go.WideShapes Go.ChangeAt Go.RowKit
open Go.ChangeMaps (open_string shut_string)
theorem own:ownKnob Tryz.prog.godebug=none:=QX
theorem laidOut:laidOutB Tryz.prog=true:=QX
theorem lifted(os:Os)(started:os.Started)(H:Type)(enc:TypeId×Value->H)(F:Stop.Interp):
  ReturnsInHanded {} Tryz.checked os 3 .any ((Rows.OpenSpec.upto Rows.topTypedSpec).pre6 enc Tryz.prog Tryz.f3 Rows.topTypedUptoRow.domain false) (((Rows.OpenSpec.upto Rows.topTypedSpec).at F).post enc Tryz.prog Tryz.f3 false true false false):=by
 refine returnsInHanded_of_cond (C:=Tryz.checked) (s:=Rows.OpenSpec.upto Rows.topTypedSpec) (k:=Rows.uptoSmall) rfl own started QX Tryz.func3
  (OpenSpec.witness (enc:=enc) (C:=Tryz.checked) (s:=Rows.OpenSpec.upto Rows.topTypedSpec) (k:=Rows.uptoSmall) rfl false ⟨#[],#[.int .i64 0,.int .i64 0,.slice none 0 0],[]⟩ 8 QX QX QX
   (x:=([.lit (.int .i64 0),.lit (.int .i64 0),.nil],[],[])) QX rfl QX) ?_
 intro W base args ds gs before hval0 hW hcnd hk _;have hval:∀(j:Nat) t v,Tryz.f3.params[j]? =some t->args[j]? =some v->Value.okWide Tryz.prog W .any base t v:=hval0;have hW':=hW;obtain⟨p,q,oL,hV,rfl,hfz,hnd⟩:=hW;have hA:DataW.TrodAll enc Tryz.prog W 0 (fun _=>true) true Tryz.f3.params.toList args.toList ds p:=oL;rw[Tryz.params3]at hA hval;obtain⟨v0,vs0,d0,ds0,p0,q0,hargs,rfl,rfl,h0,r0⟩:=trodAll_cons hA;obtain⟨v1,vs1,d1,ds1,p1,q1,rfl,rfl,rfl,h1,r1⟩:=trodAll_cons r0;obtain⟨v2,vs2,d2,ds2,p2,q2,rfl,rfl,rfl,h2,r2⟩:=trodAll_cons r1;obtain⟨rfl,rfl,rfl⟩:=trodAll_nil r2;obtain rfl:args=#[v0,v1,v2]:=by cases args;simp_all
 obtain⟨rfl,rfl⟩:=trodVars_none hV;simp only[List.append_nil]at hk;have bk0:Rows.uptoBulk d0<=1048576:=KZ hk QJ;have bk1:Rows.uptoBulk d1<=1048576:=KZ hk QJ;have bk2:Rows.uptoBulk d2<=1048576:=KZ hk QJ;have k0:=h0;have lt0:∀x∈p0,x.block<W.heap.size:=QDn;have k1:=h1;have lt1:∀x∈p1,x.block<W.heap.size:=QDm;have k2:=h2;have lt2:∀x∈p2,x.block<W.heap.size:=QDl;obtain⟨a0,rfl,rfl,rfl,w0⟩:=open_int Tryz.underlying3 (hval 0 3 v0 rfl rfl) h0;have b0:=qg.EJ w0;obtain⟨a1,rfl,rfl,rfl,w1⟩:=open_int Tryz.underlying3 (hval 1 3 v1 rfl rfl) h1;have b1:=qg.EJ w1;obtain⟨a2,QYH,cap2,rfl⟩:=okWide_slice Tryz.underlying22 (hval 2 22 v2 rfl rfl);obtain⟨x2,i2,l2,q2',u2,z2,t2,m2⟩:=Ww h2;clear oL hval0;refine(Ca a2 QYH cap2 x2 a0 a1 W i2 l2 (Zf m2 QQ) q2' u2 z2).mono fun e W' ⟨he,Xw⟩=>?_
 subst he;exact⟨_,rfl,_,_,_,[],_,[],hW',trodAll_mk1 (shut_bool Tryz.underlying4 _),(trodAll_cons_mk (Below.trod laidOut QX (of_decide_eq_true QX) k0 Xw lt0) (trodAll_cons_mk (Below.trod laidOut QX (of_decide_eq_true QX) k1 Xw lt1) (trodAll_cons_mk (Below.trod laidOut QX (of_decide_eq_true QX) k2 Xw lt2) trodAll_mk0))),rfl,Xw.frame _,fun h=>QEj⟩
theorem proved:Rows.TopTypedUptoSaid:=
 OpenClaim.holds_of_cond 3 Tryz.f3 rfl rfl rfl rfl rfl rfl rfl ⟨rfl,rfl,rfl,rfl,rfl⟩ rfl rfl rfl rfl rfl QX Tryz.func3 QX
  (of_decide_eq_true QX) Qh
  (fun os started H enc _ F=>lifted os started H enc F)
#print axioms proved
end Go.Proofs.YtmdnepkekekncaaGreat.topTypedLift
