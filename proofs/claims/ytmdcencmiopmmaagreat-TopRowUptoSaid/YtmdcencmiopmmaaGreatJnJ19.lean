/- joined, no condition of its own. -/
import Derived.Test.YtmdcencmiopmmaaGreatJnT
import Derived.Test.YtmdcencmiopmmaaGreatJnJ1
import Derived.Test.YtmdcencmiopmmaaGreatJnJ2
import Derived.Test.YtmdcencmiopmmaaGreatJnJ3
import Derived.Test.YtmdcencmiopmmaaGreatJnJ10
import Derived.Test.YtmdcencmiopmmaaGreatJnJ18
set_option linter.unusedVariables false
set_option linter.unusedSimpArgs false
set_option maxRecDepth 100000
set_option maxHeartbeats 12000000
namespace Go.Proofs.YtmdcencmiopmmaaGreat
open Go.RowKit
def YJ:List Value:=[.slice none 0 0,.int .i64 0]++Xu++[.int .i64 0,.int .i64 0,.int .i64 0,.slice none 0 0]
theorem Jk:YJ.length=33:=rfl
theorem Dz(w:World):(Instr.alloc 277 true (.tuple #[])).run Tryz.prog w=.ok (.pointer (some ⟨w.heap.size,0,none⟩)) (w.alloc (.cells (XP YJ) 277)):=QX
theorem R7(w:World):(Instr.build 277 #[]).run Tryz.prog w=.ok (.agg (XP YJ)) w:=QX
theorem qE:(Tryz.prog.info? 277).map (·.size)=some 33:=QX
theorem Lp:(Tryz.prog.underlying 277).map TypeDesc.isRow=some true:=QX
theorem Cv:∃d,Tryz.prog.underlying 277=some d/\d.isRow=true:=by
 have h:=Lp;cases hu:Tryz.prog.underlying 277 with
 | none=>rw[hu]at h;cases h
 | some d=>rw[hu]at h;exact⟨d,rfl,QAF⟩
theorem VN{w:World}{B:Nat}{vs:List Value}{e:TypeId}(h:Xj w B vs e):w.rangeAt B 0 vs:=by
 intro j v hv;rw[XN,h.cell (List.getElem?_eq_some_iff.1 hv).1,vx,Zf,hv];rfl
theorem az{ops:Array Oper}{rest:List Oper}{op:Oper}{a:Act}{w:World}{Q:Exit->Act->World->Prop}(hgd:op.guard=none)(x:Operand)(ho:op.op=.load 277 x)
  (B o:Nat) (hx:a.eval x=.pointer (some ⟨B,o,none⟩)) (vs:List Value) (hB:w.rangeAt B o vs) (hl:vs.length=33)
  (h:wpList Tryz.prog ops Q rest (a.put op.dst (.agg (XP vs))) w):wpList Tryz.prog ops Q (op::rest) a w:=by
 obtain⟨d,hu,hd⟩:=Cv;exact wpList_load_mid hgd 277 x ho B o hx vs d hB hu hd (by rw[hl];exact qE) h
theorem zW{ops:Array Oper}{rest:List Oper}{op:Oper}{a:Act}{w:World}{Q:Exit->Act->World->Prop}(hgd:op.guard=none)(x y:Operand)(ho:op.op=.store 277 x y)
  (B o:Nat) (hx:a.eval x=.pointer (some ⟨B,o,none⟩)) (us:List Value) (hy:a.eval y=.agg (XP us)) (vs:List Value) (e:TypeId) (hB:Xj w B vs e) (hl:o+33<=vs.length) (hl2:us.length=33) (h1:∀v∈us,v.oneCell'=true)
  (h:wpList Tryz.prog ops Q rest (a.put op.dst undef) (w.setCells B o us)):wpList Tryz.prog ops Q (op::rest) a w:=by
 refine wpList_store_mid hgd 277 x y ho B o (XP us) hx hy ?_ (by rw[Yl,hl2];exact qE) (Y3 h1) h;intro j hj;rw[Yl]at hj;exact⟨by rw[hB.cell QQ];rfl,hB.free _⟩
theorem VM{w:World}{B:Nat}{vs:List Value}{e:TypeId}(hB:Xj w B vs e)(hl:vs.length=33):(loadVar 277 ⟨B,0,none⟩).run Tryz.prog w=.ok (.agg (XP vs)) w:=by
 obtain⟨d,hu,hd⟩:=Cv;exact run_loadVar_mid w B 0 277 vs d (VN hB) hu hd (by rw[hl];exact qE)
theorem zi:∀v∈YJ,v.oneCell'=true:=QZ
def Vu(a:Option Addr)(n c:Nat)(k:Int)(vs:List Value)(cm:C5):List Value:=[.slice a n c,.int .i64 k]++vs++cm.cells++YJ
theorem bH{vs:List Value}(h:vs.length=27):∃v0 v1 v2 v3 v4 v5 v6 v7 v8 v9 v10 v11 v12 v13 v14 v15 v16 v17 v18 v19 v20 v21 v22 v23 v24 v25 v26,vs=[v0,v1,v2,v3,v4,v5,v6,v7,v8,v9,v10,v11,v12,v13,v14,v15,v16,v17,v18,v19,v20,v21,v22,v23,v24,v25,v26]:=by
 rcases vs with _|⟨v0,_|⟨v1,_|⟨v2,_|⟨v3,_|⟨v4,_|⟨v5,_|⟨v6,_|⟨v7,_|⟨v8,_|⟨v9,_|⟨v10,_|⟨v11,_|⟨v12,_|⟨v13,_|⟨v14,_|⟨v15,_|⟨v16,_|⟨v17,_|⟨v18,_|⟨v19,_|⟨v20,_|⟨v21,_|⟨v22,_|⟨v23,_|⟨v24,_|⟨v25,_|⟨v26,_|⟨v27,r⟩⟩⟩⟩⟩⟩⟩⟩⟩⟩⟩⟩⟩⟩⟩⟩⟩⟩⟩⟩⟩⟩⟩⟩⟩⟩⟩⟩
 case cons.cons.cons.cons.cons.cons.cons.cons.cons.cons.cons.cons.cons.cons.cons.cons.cons.cons.cons.cons.cons.cons.cons.cons.cons.cons.cons.nil=>exact⟨_,_,_,_,_,_,_,_,_,_,_,_,_,_,_,_,_,_,_,_,_,_,_,_,_,_,_,rfl⟩
 all_goals(simp at h)
theorem Ie(a:Option Addr)(n c:Nat)(k:Int)(cm:C5)(v0 v1 v2 v3 v4 v5 v6 v7 v8 v9 v10 v11 v12 v13 v14 v15 v16 v17 v18 v19 v20 v21 v22 v23 v24 v25 v26:Value)(w:World):
  (Instr.build 302 #[(0,.agg #[.slice a n c,.int .i64 k]),(1,.agg #[v0,v1,v2,v3,v4,v5,v6,v7,v8,v9,v10,v11,v12,v13,v14,v15,v16,v17,v18,v19,v20,v21,v22,v23,v24,v25,v26]),(2,.agg #[.int .i64 cm.a,.int .i64 cm.b,.int .i64 cm.c,.int .i64 cm.d,.int .i64 cm.e])]).run Tryz.prog w=.ok (.agg (XP (Vu a n c k [v0,v1,v2,v3,v4,v5,v6,v7,v8,v9,v10,v11,v12,v13,v14,v15,v16,v17,v18,v19,v20,v21,v22,v23,v24,v25,v26] cm))) w:=QX
theorem ND(a:Option Addr)(n c:Nat)(k:Int)(cm:C5)(vs:List Value)(h:vs.length=27)(w:World):
  (Instr.build 302 #[(0,.agg #[.slice a n c,.int .i64 k]),(1,.agg (XP vs)),(2,.agg #[.int .i64 cm.a,.int .i64 cm.b,.int .i64 cm.c,.int .i64 cm.d,.int .i64 cm.e])]).run Tryz.prog w=.ok (.agg (XP (Vu a n c k vs cm))) w:=by
 obtain⟨v0,v1,v2,v3,v4,v5,v6,v7,v8,v9,v10,v11,v12,v13,v14,v15,v16,v17,v18,v19,v20,v21,v22,v23,v24,v25,v26,rfl⟩:=bH h;exact Ie a n c k cm _ _ _ _ _ _ _ _ _ _ _ _ _ _ _ _ _ _ _ _ _ _ _ _ _ _ _ w
def EY(t:Value)(k fk fa:Int):List Value:=[t,.int .i64 k]++Xu++[.int .i64 fk,.int .i64 fa,.int .i64 0,.slice none 0 0]
theorem NB(a:Option Addr)(n c:Nat)(k fk fa:Int)(w:World):
  (Instr.build 277 #[(0,.agg #[.slice a n c,.int .i64 k]),(2,.agg #[.int .i64 fk,.int .i64 fa]),(3,.int .i64 0)]).run Tryz.prog w=.ok (.agg (XP (EY (.slice a n c) k fk fa))) w:=QX
structure Ir (base:Nat) (w:World) (rs:List Value) (s:St):Prop where
 lr:rs.length=33
 o:Own 3 base w (vx rs 0) s.O
 p:vx rs 1=.int .i64 s.p
 ly:s.Y.length=27
 y:∀i,i<27->Own 3 base w (vx rs (2+i)) (rx s.Y i)
 f1:vx rs 29=.int .i64 s.fk
 f2:vx rs 30=.int .i64 s.fa
 m:vx rs 31=.int .i64 s.md
 e:∃ws,Uo base w (vx rs 32) ws s.es
def TV(cm:C5):St:=⟨cm,[],0,Vn,0,0,0,[]⟩
theorem O7{i:Nat}(h:i<27):vx YJ (2+i)=.slice none 0 0:=by
 unfold YJ vx;rw[Zf,List.append_assoc,XY QJ,show 2+i-[Value.slice none 0 0,Value.int IntKind.i64 0].length=i from QJ,XR (by rw[YS];exact h),Xu,List.getElem?_replicate,if_pos h];rfl
theorem vW(base:Nat)(w:World)(cm:C5):Ir base w YJ (TV cm):=
 ⟨rfl,Own.nil _ _ _,rfl,rfl,fun i hi=>by rw[O7 hi,show rx (TV cm).Y i=[]from qd 27 _ _ hi];exact Own.nil _ _ _,rfl,rfl,rfl,[],Uo.nil _ _⟩
theorem iq{t:Value}{k fk fa:Int}{i:Nat}(h:i<27):vx (EY t k fk fa) (2+i)=.slice none 0 0:=by
 unfold EY vx;rw[Zf,List.append_assoc,XY QJ,show 2+i-[t,Value.int IntKind.i64 k].length=i from QJ,XR (by rw[YS];exact h),Xu,List.getElem?_replicate,if_pos h];rfl
theorem aK{base:Nat}{w:World}{v:Value}{t:List Int}(h:Own 3 base w v t)(cm:C5)(k fk fa:Int):Ir base w (EY v k fk fa) ⟨cm,t,k,Vn,fk,fa,0,[]⟩:=
 ⟨rfl,h,rfl,rfl,fun i hi=>by rw[iq hi,show rx Vn i=[]from qd 27 _ _ hi];exact Own.nil _ _ _,rfl,rfl,rfl,[],Uo.nil _ _⟩
theorem bq{v:Value}(hv:v.oneCell'=true)(k fk fa:Int):∀u∈EY v k fk fa,u.oneCell'=true:=by
 intro u hu;unfold EY Xu at hu;simp only[XL,Zb,ZN,or_false,List.mem_replicate]at hu;rcases hu with((rfl|rfl)|⟨_,rfl⟩)|rfl|rfl|rfl|rfl
 ·exact hv
 all_goals rfl
theorem Ir.one{base:Nat}{w:World}{rs:List Value}{s:St}(h:Ir base w rs s):∀v∈rs,v.oneCell'=true:=by
 intro v hv;obtain⟨i,hi,rfl⟩:=Dv hv;rw[h.lr]at hi;by_cases h0:i=0
 ·subst h0;obtain⟨a,n,c,e⟩:=h.o.form;rw[e];rfl
 by_cases h1:i=1
 ·subst h1;rw[h.p];rfl
 by_cases h2:i<29
 ·obtain⟨a,n,c,e⟩:=(h.y (i-2) QQ).form
  rw[show 2+(i-2)=i from QQ]at e;rw[e];rfl
 by_cases h3:i=29
 ·subst h3;rw[h.f1];rfl
 by_cases h4:i=30
 ·subst h4;rw[h.f2];rfl
 by_cases h5:i=31
 ·subst h5;rw[h.m];rfl
 obtain rfl:i=32:=QQ;obtain⟨ws,hw⟩:=h.e;obtain⟨a,c,e,-,-,-⟩:=hw.form;rw[e];rfl
theorem Ir.mono{base base':Nat}{w:World}{rs:List Value}{s:St}(h:Ir base w rs s)(hb:base'<=base):Ir base' w rs s:=
 ⟨h.lr,h.o.mono hb,h.p,h.ly,fun i hi=>(h.y i hi).mono hb,h.f1,h.f2,h.m,by obtain⟨ws,hw⟩:=h.e;exact⟨ws,hw.mono hb⟩⟩
theorem Ir.left{base B:Nat}{w w':World}{rs:List Value}{s:St}(h:Ir base w rs s)(hL:Left B w w')(hb:B<base):Ir base w' rs s:=
 ⟨h.lr,h.o.left hL hb,h.p,h.ly,fun i hi=>(h.y i hi).left hL hb,h.f1,h.f2,h.m,by obtain⟨ws,hw⟩:=h.e;exact⟨ws,hw.left hL hb⟩⟩
def gq(er:Int)(s:St)(w:World)(e:Ending)(w':World):Prop:=∃rs,e=.returned (.tuple #[.agg (XP rs),.int .i64 er])/\Ir w.heap.size w' rs s/\Below w.heap.size w w'
theorem ou{I:In}(hI:Je I)(cm:C5){w:World}(hb:Below I.w0.heap.size I.w0 w):DI w.heap.size (w.alloc (.cells (XP (Vu I.a I.n I.c I.k I.vs cm)) 302)) (Vu I.a I.n I.c I.k I.vs cm) I (TV cm):=by
 have hl:=hI.MB.lv;have hB:=Xj.new w (Vu I.a I.n I.c I.k I.vs cm) 302;have hbel:=hb.alloc hb.size (.cells (XP (Vu I.a I.n I.c I.k I.vs cm)) 302);have hge:=hb.size;generalize(w.alloc (.cells (XP (Vu I.a I.n I.c I.k I.vs cm)) 302))=w1 at *;clear hI;obtain⟨w0,a,n,c,t,k,vs,X⟩:=I;dsimp only at *;obtain⟨v0,v1,v2,v3,v4,v5,v6,v7,v8,v9,v10,v11,v12,v13,v14,v15,v16,v17,v18,v19,v20,v21,v22,v23,v24,v25,v26,rfl⟩:=bH hl;refine {lu:=rfl,b:=hB,YX:=hbel,ge:=hge,u0:=rfl,u1:=rfl,ur:=?_,k0:=rfl,k1:=rfl,k2:=rfl,k3:=rfl,k4:=rfl,o:=Own.nil _ _ _,p:=rfl,ly:=rfl,y:=?_,f1:=rfl,f2:=rfl,m:=rfl,e:=⟨[],Uo.nil _ _⟩}
 ·intro i hi
  have:∀i,i<27->i=0\/i=1\/i=2\/i=3\/i=4\/i=5\/i=6\/i=7\/i=8\/i=9\/i=10\/i=11\/i=12\/i=13\/i=14\/i=15\/i=16\/i=17\/i=18\/i=19\/i=20\/i=21\/i=22\/i=23\/i=24\/i=25\/i=26:=QQ;rcases this i hi with rfl|rfl|rfl|rfl|rfl|rfl|rfl|rfl|rfl|rfl|rfl|rfl|rfl|rfl|rfl|rfl|rfl|rfl|rfl|rfl|rfl|rfl|rfl|rfl|rfl|rfl|rfl<;>rfl
 ·intro i hi
  rw[show rx (TV cm).Y i=[]from qd 27 _ _ hi];have:∀i,i<27->i=0\/i=1\/i=2\/i=3\/i=4\/i=5\/i=6\/i=7\/i=8\/i=9\/i=10\/i=11\/i=12\/i=13\/i=14\/i=15\/i=16\/i=17\/i=18\/i=19\/i=20\/i=21\/i=22\/i=23\/i=24\/i=25\/i=26:=QQ;rcases this i hi with rfl|rfl|rfl|rfl|rfl|rfl|rfl|rfl|rfl|rfl|rfl|rfl|rfl|rfl|rfl|rfl|rfl|rfl|rfl|rfl|rfl|rfl|rfl|rfl|rfl|rfl|rfl<;>exact Own.nil _ _ _
theorem DI.QQe{P:Nat}{w:World}{us:List Value}{I:In}{s s':St}(h:DI P w us I s)(rs:List Value)(hr:Ir (P+1) w rs s'):DI P (w.setCells P 34 rs) (Ha us 34 rs) I {s' with cm:=s.cm}:=by
 have hL:=Y6 w P 34 rs;have lu:=h.lu;have lr:=hr.lr;have ne:∀{i:Nat},i<67->i<34->vx (Ha us 34 rs) i=vx us i:=fun {i} h1 h2=>yO QQ QQ
 have hin:∀{j:Nat},j<33->vx (Ha us 34 rs) (34+j)=vx rs j:=fun {j} hj=>zY QQ QQ
 exact {lu:=by rw[uU,lu],b:=h.b.setCells 34 rs,YX:=hL.YX h.ge h.YX,ge:=h.ge,u0:=by rw[ne QQ QQ];exact h.u0,u1:=by rw[ne QQ QQ];exact h.u1,ur:=fun i hi=>by rw[ne QQ QQ];exact h.ur i hi,k0:=by rw[ne QQ QQ];exact h.k0,k1:=by rw[ne QQ QQ];exact h.k1,k2:=by rw[ne QQ QQ];exact h.k2,k3:=by rw[ne QQ QQ];exact h.k3,k4:=by rw[ne QQ QQ];exact h.k4,o:=by rw[show(34:Nat)=34+0 from rfl,hin QQ];exact hr.o.left hL (ZF P),p:=by rw[show(35:Nat)=34+1 from rfl,hin QQ];exact hr.p,ly:=hr.ly,y:=fun i hi=>by rw[show 36+i=34+(2+i)from QQ,hin QQ];exact(hr.y i hi).left hL (ZF P),f1:=by rw[show(63:Nat)=34+29 from rfl,hin QQ];exact hr.f1,f2:=by rw[show(64:Nat)=34+30 from rfl,hin QQ];exact hr.f2,m:=by rw[show(65:Nat)=34+31 from rfl,hin QQ];exact hr.m,e:=by rw[show(66:Nat)=34+32 from rfl,hin QQ];obtain⟨ws,hw⟩:=hr.e;exact⟨ws,hw.left hL (ZF P)⟩}
theorem DI.QQf{P:Nat}{w:World}{us:List Value}{I:In}{s:St}(h:DI P w us I s)(i:Nat)(hi:i<27)(v:Value)(y:List Int)(hv:Own 3 (P+1) w v y):DI P (w.setCell ⟨P,36+i,none⟩ v) (us.set (36+i) v) I {s with Y:=s.Y.set i y}:=
 {lu:=by simpa using h.lu,b:=h.b.set (36+i) _,YX:=h.YX.setCell (p:=⟨P,36+i,none⟩) h.ge _,ge:=h.ge,u0:=by rw[ZR QQ];exact h.u0,u1:=by rw[ZR QQ];exact h.u1,ur:=fun j hj=>by rw[ZR QQ];exact h.ur j hj,k0:=by rw[ZR QQ];exact h.k0,k1:=by rw[ZR QQ];exact h.k1,k2:=by rw[ZR QQ];exact h.k2,k3:=by rw[ZR QQ];exact h.k3,k4:=by rw[ZR QQ];exact h.k4,o:=by rw[ZR QQ];exact h.o.setCell (a:=⟨P,36+i,none⟩) (ZF P) _,p:=by rw[ZR QQ];exact h.p,ly:=by rw[X4];exact h.ly,y:=fun j hj=>by
   by_cases hij:i=j
   ·subst hij
    rw[Yk (by rw[h.lu];omega),yw (by rw[h.ly];omega)];exact hv.setCell (a:=⟨P,36+i,none⟩) (ZF P) _
   ·rw[ZR QQ,yo hij]
    exact(h.y j hj).setCell (a:=⟨P,36+i,none⟩) (ZF P) _,f1:=by rw[ZR QQ];exact h.f1,f2:=by rw[ZR QQ];exact h.f2,m:=by rw[ZR QQ];exact h.m,e:=by rw[ZR QQ];obtain⟨ws,hw⟩:=h.e;exact⟨ws,hw.setCell (a:=⟨P,36+i,none⟩) (ZF P) _⟩}
def Gr(us:List Value):List Value:=(us.drop 34).take 33
theorem vB{us:List Value}(h:us.length=67):(Gr us).length=33:=by simp[Gr,h]
theorem VG{us:List Value}{j:Nat}(h:j<33):vx (Gr us) j=vx us (34+j):=by
 unfold Gr vx;rw[Zf,Zf,List.getElem?_take,if_pos h,List.getElem?_drop]
theorem DI.res{P:Nat}{w:World}{us:List Value}{I:In}{s:St}(h:DI P w us I s):Ir (P+1) w (Gr us) s:=
 ⟨vB h.lu,by rw[VG QQ];exact h.o,by rw[VG QQ];exact h.p,h.ly,fun i hi=>by rw[VG QQ,show 34+(2+i)=36+i from QQ];exact h.y i hi,by rw[VG QQ];exact h.f1,by rw[VG QQ];exact h.f2,by rw[VG QQ];exact h.m,by rw[VG QQ];exact h.e⟩
theorem DI.QQi{P:Nat}{w:World}{us:List Value}{I:In}{s:St}(h:DI P w us I s):w.rangeAt P 34 (Gr us):=by
 intro j v hv;have hj:j<33:=by rw[<-vB h.lu];exact(List.getElem?_eq_some_iff.1 hv).1
 rw[h.cell QQ,<-VG hj,vx,Zf,hv];rfl
def bU(c:Int):Bool:=decide (c=0\/c=100\/c=99\/c=121)
noncomputable def Lj(I:In)(cm:C5)(fk fa:Int):Int×St:=
 if cm.a<0\/999<cm.a then(1,TV cm)
 else if¬(fk=0\/zP fk=true)then(1,TV cm)
 else if bU cm.c=false then(9,TV cm)
 else if(Lx I ⟨BJ cm,I.t,I.k,I.X,fk,fa,0,[]⟩).1≠0 then((Lx I ⟨BJ cm,I.t,I.k,I.X,fk,fa,0,[]⟩).1,TV cm)
 else(0,(Lx I ⟨BJ cm,I.t,I.k,I.X,fk,fa,0,[]⟩).2)
theorem QXv(w:World)(l f c:Array Value)(vs zs:List Value)(tl tr tf tc tz:TypeId):
  let W:=((((w.alloc (.cells l tl)).alloc (.cells (XP vs) tr)).alloc (.cells f tf)).alloc (.cells c tc)).alloc (.cells (XP zs) tz)
  Za W w.heap.size l tl/\Xj W (w.heap.size+1) vs tr/\Za W (w.heap.size+2) f tf/\Za W (w.heap.size+3) c tc/\Xj W (w.heap.size+4) zs tz/\Below w.heap.size w W/\W.heap.size=w.heap.size+5:=by
 have h1:=Za.new w l tl;have h2:=Za.new (w.alloc (.cells l tl)) (XP vs) tr;have h3:=Za.new ((w.alloc (.cells l tl)).alloc (.cells (XP vs) tr)) f tf;have h4:=Za.new (((w.alloc (.cells l tl)).alloc (.cells (XP vs) tr)).alloc (.cells f tf)) c tc;have h5:=Za.new ((((w.alloc (.cells l tl)).alloc (.cells (XP vs) tr)).alloc (.cells f tf)).alloc (.cells c tc)) (XP zs) tz;simp only[Zv]at h2 h3 h4 h5;exact⟨(((h1.alloc _).alloc _).alloc _).alloc _,((h2.alloc _).alloc _).alloc _,(h3.alloc _).alloc _,h4.alloc _,h5,((((ZT w _).alloc QBK _).alloc QBK _).alloc QBK _).alloc QBK _,by simp only[Zv]⟩
theorem WC{w wx:World}{B:Nat}{vs:List Value}(hB:Xj wx B vs 277)(hl:vs.length=33)(hb:Below w.heap.size w wx)(hw:w.heap.size<=B)(rs:List Value)(hr:rs.length=33):
  Xj (wx.setCells B 0 rs) B rs 277/\Below w.heap.size w (wx.setCells B 0 rs):=by
 have h:=hB.setCells 0 rs;rw[UH (by rw[hl,hr])]at h;exact⟨h,(Y6 wx B 0 rs).YX hw hb⟩
theorem Nj{ops:Array Oper}{rest:List Oper}{o:Oper}{a:Act}{w:World}{Q:Exit->Act->World->Prop}(hg:o.guard=none)(x y z:Operand)(ho:o.op=.build 302 #[(0,x),(1,y),(2,z)])
  (ad:Option Addr) (n c:Nat) (k:Int) (vs:List Value) (cm:C5) (hx:a.eval x=.agg #[.slice ad n c,.int .i64 k]) (hy:a.eval y=.agg (XP vs)) (hz:a.eval z=.agg #[.int .i64 cm.a,.int .i64 cm.b,.int .i64 cm.c,.int .i64 cm.d,.int .i64 cm.e]) (hl:vs.length=27)
  (h:wpList Tryz.prog ops Q rest (a.put o.dst (.agg (XP (Vu ad n c k vs cm)))) w):wpList Tryz.prog ops Q (o::rest) a w:=by
 refine wpList_plain hg fun _ hK=>?_
 have hm:(#[(0,x),(1,y),(2,z)]:Array (Nat×Operand)).map (fun(i,x)=>(i,a.eval x))=#[(0,.agg #[.slice ad n c,.int .i64 k]),(1,.agg (XP vs)),(2,.agg #[.int .i64 cm.a,.int .i64 cm.b,.int .i64 cm.c,.int .i64 cm.d,.int .i64 cm.e])]:=by
  simp[hx,hy,hz]
 unfold Oper.wp execOp;simp only[ho,hm,Sem.run_bind,ND ad n c k cm vs hl w,Yr];exact hK _ _ h
theorem BV{o:Oper}{a:Act}{w:World}{K:Act->World->Prop}{Q:Exit->Act->World->Prop}(x y:Operand)(ho:o.op=.build 277 #[(0,x),(2,y),(3,.const (.int .i64 0))])
  (ad:Option Addr) (n c:Nat) (k fk fa:Int) (hx:a.eval x=.agg #[.slice ad n c,.int .i64 k]) (hy:a.eval y=.agg #[.int .i64 fk,.int .i64 fa])
  (h:K (a.put o.dst (.agg (XP (EY (.slice ad n c) k fk fa)))) w):o.wp Tryz.prog a w K Q:=by
 have hm:(#[(0,x),(2,y),(3,.const (.int .i64 0))]:Array (Nat×Operand)).map (fun(i,x)=>(i,a.eval x))=#[(0,.agg #[.slice ad n c,.int .i64 k]),(2,.agg #[.int .i64 fk,.int .i64 fa]),(3,.int .i64 0)]:=by
  simp[hx,hy,show a.eval (Operand.const (Value.int .i64 0))=Value.int .i64 0 from rfl]
 unfold Oper.wp execOp;simp only[ho,hm,Sem.run_bind,NB ad n c k fk fa w,Yr];exact h
theorem Dk{o:Oper}{a:Act}{w:World}{K:Act->World->Prop}{Q:Exit->Act->World->Prop}(x y:Operand)(ho:o.op=.store 277 x y)
  (B f:Nat) (hx:a.eval x=.pointer (some ⟨B,f,none⟩)) (us:List Value) (hy:a.eval y=.agg (XP us)) (ht:w.there B f 33) (hl2:us.length=33) (h1:∀v∈us,v.oneCell'=true)
  (h:K (a.put o.dst undef) (w.setCells B f us)):o.wp Tryz.prog a w K Q:=
 wp_store_mid 277 x y ho B f (XP us) hx hy (by rw[Yl,hl2];exact ht) (by rw[Yl,hl2];exact qE) (Y3 h1) h
theorem L8{X:List (List Int)}(hX:X.length=27){i:Nat}(hi:i<27):(X.take i++Vn.drop i).set i (rx X i)=X.take (i+1)++Vn.drop (i+1):=by
 have hn:Vn.length=27:=rfl;rw[List.set_append,if_neg (by rw[Zp];omega),Zp,Yb QQ,Nat.sub_self,XX QQ,List.append_assoc];congr 1
 rw[List.drop_eq_getElem_cons QQ,Zk];simp[rx,Zf,XJ (show i<X.length from QQ)]
theorem L9{X:List (List Int)}(hX:X.length=27):X.take 27++Vn.drop 27=X:=by
 rw[XV QQ,show Vn.drop 27=[]from rfl,List.append_nil]
def Jy(xs:List Int)(p:Int)(mode key b:Int):List Int×Int×Int:=
 if 200<xs.length then([],0,2)
 else if p<0\/(xs.length:Int)<p\/(mode≠1/\mode≠2)then([],0,1)
 else if 32<=key/\key≠127 then
  if mode=2/\p<xs.length then(xs.take p.toNat++[key]++xs.drop (p.toNat+1),p+1,0)
  else if xs.length=200 then([],0,8)else(xs.take p.toNat++[key]++xs.drop p.toNat,p+1,0)
 else if key≠8/\key≠127/\key≠21/\key≠23 then([],0,9)
 else if p=0 then([],0,5)
 else if key=21 then(xs.drop p.toNat,0,0)
 else if key=23 then(xs.take b.toNat++xs.drop p.toNat,b,0)
 else if mode=2 then(xs,p-1,0)
 else(xs.take (p.toNat-1)++xs.drop p.toNat,p-1,0)
def U1(xs:List Int)(p mode key:Int):Prop:=xs.length<=200/\0<p/\p<=(xs.length:Int)/\(mode=1\/mode=2)/\key=23
theorem MR{xs:List Int}{p mode key:Int}(h:¬U1 xs p mode key)(b b':Int):Jy xs p mode key b=Jy xs p mode key b':=by
 unfold Jy;by_cases h1:200<xs.length
 ·rw[if_pos h1,if_pos h1]
 ·rw[if_neg h1,if_neg h1]
  by_cases h2:p<0\/(xs.length:Int)<p\/(mode≠1/\mode≠2)
  ·rw[if_pos h2,if_pos h2]
  ·rw[if_neg h2,if_neg h2]
   by_cases h3:32<=key/\key≠127
   ·rw[if_pos h3,if_pos h3]
   ·rw[if_neg h3,if_neg h3]
    by_cases h4:key≠8/\key≠127/\key≠21/\key≠23
    ·rw[if_pos h4,if_pos h4]
    ·rw[if_neg h4,if_neg h4]
     by_cases h5:p=0
     ·rw[if_pos h5,if_pos h5]
     ·rw[if_neg h5,if_neg h5]
      by_cases h6:key=21
      ·rw[if_pos h6,if_pos h6]
      ·rw[if_neg h6,if_neg h6]
       by_cases h7:key=23
       ·exact absurd ⟨QQ,QQ,QQ,QQ,h7⟩ h
       ·rw[if_neg h7,if_neg h7]
theorem Own.cap{e:TypeId}{base:Nat}{w:World}{a:Option Addr}{n c:Nat}{xs:List Int}(h:Own e base w (.slice a n c) xs):n<=c/\c<=9223372036854775807/\(a=none->n=0)/\∀ad,a=some ad->base<=ad.block:=by
 refine⟨h.get.2.2,?_⟩;rcases h.2 with⟨hv,_⟩|⟨g,cap,cur,hv,hb,hg,hn,hm,hs,ht⟩
 ·simp only[Xx]at hv
  obtain⟨rfl,rfl,rfl⟩:=hv;exact⟨QZ,fun _=>rfl,fun ad e=>QAU⟩
 ·simp only[Xx]at hv
  obtain⟨rfl,_,rfl⟩:=hv;exact⟨QAE,fun e=>QAU,fun ad e=>(by cases e;exact hb)⟩
theorem Own.QXV{e:TypeId}{base b:Nat}{w:World}{a:Option Addr}{n c:Nat}{xs:List Int}{fr:Prop}(h:Own e base w (.slice a n c) xs)(hb:b<=base):n<=c/\c<=9223372036854775807/\(a=none->n=0)/\(fr->∀ad,a=some ad->b<=ad.block):=
 ⟨h.cap.1,h.cap.2.1,h.cap.2.2.1,fun _ ad e=>Zh hb (h.cap.2.2.2 ad e)⟩
def Yp(fr:Prop)(back:Int->Prop)(xs:List Int)(p mode key:Int)(w:World)(e:Ending)(w':World):Prop:=
 ∃a n c b,e=.returned (.tuple #[.agg #[.slice a n c,.int .i64 (Jy xs p mode key b).2.1],.int .i64 (Jy xs p mode key b).2.2])/\(U1 xs p mode key->back b)/\Ints w' a (Jy xs p mode key b).1/\(Jy xs p mode key b).1.length=n/\(n<=1000/\n<=c/\c<=9223372036854775807/\(a=none->n=0)/\(fr->∀ad,a=some ad->w.heap.size<=ad.block))/\Below w.heap.size w w'
theorem Yp.of{fr:Prop}{back:Int->Prop}{xs ys:List Int}{p mode key b r er:Int}{w w':World}{a:Option Addr}{n c:Nat}(hk:Jy xs p mode key b=(ys,r,er))(hb:U1 xs p mode key->back b)(hI:Ints w' a ys)(hl:ys.length=n)(hn:n<=1000)(hbel:Below w.heap.size w w')(hcap:n<=c/\c<=9223372036854775807/\(a=none->n=0)/\(fr->∀ad,a=some ad->w.heap.size<=ad.block):=by exact⟨ZB _,QZ,fun _=>rfl,fun _ ad e=>QAU⟩):
  Yp fr back xs p mode key w (.returned (.tuple #[.agg #[.slice a n c,.int .i64 r],.int .i64 er])) w':=
 ⟨a,n,c,b,by rw[hk],hb,by rw[hk];exact hI,by rw[hk];exact hl,⟨hn,hcap⟩,hbel⟩
structure Ready (w w2 wx:World) (back:Int->Prop) (a:Option Addr) (n c:Nat) (xs:List Int) (q:Nat) (mode key:Int) (f t:Nat) (a3:Option Addr) (n3 c3:Nat):Prop where
 f1:f<=n
 t1:t<=n
 pieces:∃ys b,Ints wx a3 ys/\ys.length=n3/\Jy xs q mode key b=(xs.take f++ys++xs.drop t,(f:Int)+(n3:Int),0)/\(U1 xs q mode key->back b)
 top:n3<=1
 nil:a3=none->n3=0
 box:Za wx w.heap.size #[.slice a n c,.int .i64 (q:Int)] 30
 res:Za wx (w.heap.size+1) #[.slice none 0 0,.int .i64 0] 30
 YX:Below w2.heap.size w2 wx
def J7(w:World)(a:Option Addr)(vs:List Value):Prop:=
 vs=[]\/∃b o,a=some ⟨b,o,none⟩/\∀i,i<vs.length->w.cell? ⟨b,o+i,none⟩=some (vx vs i)
theorem VY{vs:List Value}{i:Nat}(h:i<vs.length):vx vs i=vs[i]:=by simp[vx,h]
theorem iW{vs:List Value}{k i:Nat}(h:i<k):vx (vs.take k) i=vx vs i:=by
 unfold vx;simp[List.getElem?_take,h]
theorem DD{vs:List Value}{k i:Nat}:vx (vs.drop k) i=vx vs (k+i):=by unfold vx;simp
theorem DC{vs us:List Value}{i:Nat}(h:i<vs.length):vx (vs++us) i=vx vs i:=by unfold vx;simp[XR h]
theorem uM{vs us:List Value}{i:Nat}:vx (vs++us) (vs.length+i)=vx us i:=by unfold vx;simp[XY]
theorem vU{X:List (List Int)}{i:Nat}(h:i<X.length):rx X i=X[i]:=by simp[rx,h]
theorem lU{X:List (List Int)}{k i:Nat}:rx (X.drop k) i=rx X (k+i):=by unfold rx;simp
theorem Dw{X Y:List (List Int)}{i:Nat}(h:i<X.length):rx (X++Y) i=rx X i:=by unfold rx;simp[XR h]
theorem vK{X Y:List (List Int)}{i:Nat}:rx (X++Y) (X.length+i)=rx Y i:=by unfold rx;simp[XY]
theorem WG{X:List (List Int)}{k:Nat}(h:k<X.length):X.take (k+1)=X.take k++[rx X k]:=by
 rw[XX h,vU h]
theorem J7.at{w:World}{a:Option Addr}{vs:List Value}(h:J7 w a vs){k:Nat}(hk:k<vs.length):
  ∃b o,a=some ⟨b,o,none⟩/\∀i,i<vs.length->w.cell? ⟨b,o+i,none⟩=some (vx vs i):=by
 exact QFg
theorem J7.keep{w w':World}{a:Option Addr}{vs:List Value}(h:J7 w a vs)(hc:∀p v,w.cell? p=some v->w'.cell? p=some v):J7 w' a vs:=by
 exact QFM
theorem J7.below{w w':World}{a:Option Addr}{vs:List Value}(h:J7 w a vs)(hb:Below w.heap.size w w'):J7 w' a vs:=h.keep (ZL hb)
theorem J7.drew{w:World}{a:Option Addr}{vs:List Value}(h:J7 w a vs):J7 w.drew a vs:=h.keep (fun _ _ h=>h)
theorem J7.nil(w:World)(a:Option Addr):J7 w a []:=.inl rfl
def Vs(w:World)(v:Value)(vs:List Value):Prop:=∃a n c,v=.slice a n c/\vs.length=n/\n<=c/\c<=9223372036854775807/\J7 w a vs/\(a=none->n=0)
theorem Vs.keep{w w':World}{v:Value}{vs:List Value}(h:Vs w v vs)(hc:∀p v,w.cell? p=some v->w'.cell? p=some v):Vs w' v vs:=by
 exact QF6
theorem Vs.get{w:World}{a:Option Addr}{n c:Nat}{vs:List Value}(h:Vs w (.slice a n c) vs):vs.length=n/\n<=c/\c<=9223372036854775807/\J7 w a vs/\(a=none->n=0):=by
 exact QFb
theorem Vs.nil(w:World):Vs w (.slice none 0 0) []:=⟨none,0,0,rfl,rfl,ZB _,QQ,J7.nil _ _,fun _=>rfl⟩
structure Lists (w:World) (vs:List Value) (X:List (List Int)):Prop where
 len:vs.length=X.length
 sl:∀i,i<X.length->Sl w (vx vs i) (rx X i)
theorem Lists.keep{w w':World}{vs:List Value}{X:List (List Int)}(h:Lists w vs X)(hc:∀p v,w.cell? p=some v->w'.cell? p=some v):Lists w' vs X:=⟨h.len,fun i hi=>(h.sl i hi).keep hc⟩
theorem Lists.below{w w':World}{vs:List Value}{X:List (List Int)}(h:Lists w vs X)(hb:Below w.heap.size w w'):Lists w' vs X:=h.keep (ZL hb)
theorem Lists.append{w:World}{vs us:List Value}{X Y:List (List Int)}(h:Lists w vs X)(g:Lists w us Y):Lists w (vs++us) (X++Y):=by
 refine⟨by simp[h.len,g.len],fun i hi=>?_⟩;by_cases hl:i<X.length
 ·rw[DC (by rw[h.len];exact hl),Dw hl];exact h.sl i hl
 ·obtain⟨j,rfl⟩:∃j,i=X.length+j:=⟨i-X.length,QQ⟩
  rw[vK,<-h.len,uM];exact g.sl j Qa
theorem Lists.one{w:World}{v:Value}{xs:List Int}(h:Sl w v xs):Lists w [v] [xs]:=⟨rfl,fun i hi=>by
 obtain rfl:i=0:=Qa;exact h⟩
def XT(e:TypeId)(base:Nat)(w:World)(v:Value)(vs:List Value):Prop:=w.ownsRow base e 1 v vs.length vs
theorem XT.nil(e:TypeId)(base:Nat)(w:World):XT e base w (.slice none 0 0) []:=YR _ _ _ _
theorem XT.alloc{e:TypeId}{base:Nat}{w:World}{v:Value}{vs:List Value}(h:XT e base w v vs)(o:Obj):XT e base (w.alloc o) v vs:=World.ownsRow.alloc h o
theorem XT.setCell{e:TypeId}{base:Nat}{w:World}{v:Value}{vs:List Value}(h:XT e base w v vs){a:Addr}(ha:a.block<base)(u:Value):XT e base (w.setCell a u) v vs:=ownsRow_setCell_below h ha u
theorem XT.drewN{e:TypeId}{base:Nat}{w:World}{v:Value}{vs:List Value}(h:XT e base w v vs)(n:Nat):XT e base (w.drewN n) v vs:=h
theorem XT.drew{e:TypeId}{base:Nat}{w:World}{v:Value}{vs:List Value}(h:XT e base w v vs):XT e base w.drew v vs:=h
theorem XT.mono{e:TypeId}{base base':Nat}{w:World}{v:Value}{vs:List Value}(h:XT e base w v vs)(hb:base'<=base):XT e base' w v vs:=by
 exact QEW
theorem XT.kept{e:TypeId}{base:Nat}{w w':World}{v:Value}{vs:List Value}(h:XT e base w v vs)(hb:Below w.heap.size w w'):XT e base w' v vs:=by
 exact QFX
theorem XT.other{e:TypeId}{base:Nat}{w:World}{v:Value}{vs:List Value}(h:XT e base w v vs){a:Addr}(ha:some a.block≠v.ownBlock)(u:Value):XT e base (w.setCell a u) v vs:=by
 exact QFZ
theorem XT.Xa{e e':TypeId}{base:Nat}{w:World}{v:Value}{vs:List Value}{B:Nat}{cs:Array Value}(h:XT e base w v vs)(hB:Za w B cs e')(he:e≠e'):some B≠v.ownBlock:=by
 exact QDS
theorem XT.row{e:TypeId}{base:Nat}{w:World}{v:Value}{vs:List Value}(h:XT e base w v vs):∀k,v.ownBlock=some k->base<=k:=fun k hk=>(XH h k hk).1
theorem XT.ne{e:TypeId}{base:Nat}{w:World}{v:Value}{vs:List Value}(h:XT e base w v vs){B:Nat}(hB:B<base):some B≠v.ownBlock:=by
 intro he;have:=XH h B he.symm;omega
theorem XT.QQ3{e:TypeId}{base:Nat}{w:World}{v:Value}{vs:List Value}(h:XT e base w v vs){B:Nat}(hB:w.heap.size<=B):some B≠v.ownBlock:=by
 intro he;have:=XH h B he.symm;omega
theorem XT.vs{e:TypeId}{base:Nat}{w:World}{v:Value}{vs:List Value}(h:XT e base w v vs):Vs w v vs:=by
 rcases h.2 with⟨rfl,h0⟩|⟨g,cap,cur,rfl,hb,hg,hn,hm,hs,ht⟩
 ·have:vs=[]:=Ze h0
  subst this;exact Vs.nil w
 ·refine⟨_,_,cap,rfl,rfl,hn,QAE,.inr ⟨g,0,rfl,fun i hi=>?_⟩,QJ⟩
  have:=h.cells (g:=g) rfl i (vx vs i) (by simp[vx,hi]);have hadd:(⟨g,0,none⟩:Addr).add i=⟨g,0+i,none⟩:=QN
  rwa[hadd]at this
theorem XT.form{e:TypeId}{base:Nat}{w:World}{v:Value}{vs:List Value}(h:XT e base w v vs):∃a n c,v=.slice a n c:=by
 obtain⟨a,n,c,h1,_⟩:=h.vs;exact⟨a,n,c,h1⟩
theorem Own.beside{e e':TypeId}{base fK:Nat}{w w':World}{v v2:Value}{xs:List Int}{us:List Value}(h:Own e base w v xs)(h2:XT e' fK w v2 us)(he:e≠e')(hg:w.grownBy w' v2.ownBlock):Own e base w' v xs:=by
 refine⟨h.1,?_⟩;rcases h.2 with hn|⟨g,cap,cur,rfl,hb',hgg,rest⟩
 ·exact .inl hn
 ·refine .inr ⟨g,cap,cur,rfl,hb',?_,rest⟩
  rw[hg.block g (Array.getElem?_eq_some_iff.1 hgg).1 (h2.Xa (cs:=cur) hgg (fun e=>he e.symm))];exact hgg
theorem yJ:(Tryz.prog.info? 26).map (fun i=>(i.zero,i.size,i.bytes))=some (some (.slice none 0 0),1,24):=QX
def Ip(vs:List Value):Prop:=∀i,i<vs.length->∃a n c,vx vs i=.slice a n c
theorem Ip.mem{vs:List Value}(h:Ip vs):∀v∈vs,v.oneCell'=true:=by
 intro v hv;obtain⟨i,hi,rfl⟩:=Dv hv;obtain⟨a,n,c,h⟩:=h i hi;rw[h];rfl
theorem Lists.sls{w:World}{vs:List Value}{X:List (List Int)}(h:Lists w vs X):Ip vs:=by
 intro i hi;obtain⟨a,n,c,h1,_⟩:=h.sl i (by rw[<-h.len];exact hi);exact⟨a,n,c,h1⟩
theorem Nl{o:Oper}{a:Act}{K:Act->World->Prop}{Q:Exit->Act->World->Prop}{w:World}(s x:Operand)
  (ho:o.op=.call {callee:=.builtin .append,args:=#[s,x],argTypes:=#[37,37]})
  (base:Nat) (v:Value) (vs us:List Value) (ad:Addr) (m c:Nat) (hs:a.eval s=v) (hx:a.eval x=.slice (some ad) m c)
  (hown:XT 26 base w v vs) (hy:J7 w (some ad) us) (Sn:Ip us) (hm:us.length=m) (hl:vs.length+m<=4398046511104) (hbase:base<=w.heap.size)
  (h:∀v' w',XT 26 base w' v' (vs++us)->w.grownBy w' v.ownBlock->K (a.put o.dst v') w'):
  o.wp Tryz.prog a w K Q:=by
 obtain⟨i0,hi,hz0,hz1,hz2⟩:=Xf yJ;refine wp_append_own w s x 37 ho base 26 i0 (.slice none 0 0) 1 24 Tryz.underlying37 hi hz0 hz1 hz2 rfl QZ v vs.length _ hs hown ad m c us hx (by simp[hm]) ?_ ?_ ?_ ?_ hbase ?_
 ·intro j u hj
  have hlt:j<us.length:=by
   rcases Z7 j us.length with h|h
   ·exact h
   ·simp[h]at hj
  obtain⟨b,o',ha,hc⟩:=hy.at hlt;simp only[ZM]at ha;subst ha;have hadd:(⟨b,o',none⟩:Addr).add j=⟨b,o'+j,none⟩:=QN;rw[hadd,hc j hlt,VY hlt];rw[XJ hlt]at hj;exact hj
 ·exact Sn.mem
 ·unfold maxLen;omega
 ·omega
 ·intro v' w' h1 h2 h3
  refine h v' w' ?_ h2;unfold XT;simpa[hm]using h1
theorem QYi{ops:Array Oper}{rest:List Oper}{o:Oper}{a:Act}{Q:Exit->Act->World->Prop}{w:World}(hgd:o.guard=none)(s x:Operand)
  (ho:o.op=.call {callee:=.builtin .append,args:=#[s,x],argTypes:=#[37,37]})
  (base:Nat) (v:Value) (vs us:List Value) (ad:Addr) (m c:Nat) (hs:a.eval s=v) (hx:a.eval x=.slice (some ad) m c)
  (hown:XT 26 base w v vs) (hy:J7 w (some ad) us) (Sn:Ip us) (hm:us.length=m) (hl:vs.length+m<=4398046511104) (hbase:base<=w.heap.size)
  (h:∀v' w',XT 26 base w' v' (vs++us)->w.grownBy w' v.ownBlock->wpList Tryz.prog ops Q rest (a.put o.dst v') w'):
  wpList Tryz.prog ops Q (o::rest) a w:=
 wpList_plain hgd fun _ hK=>Nl s x ho base v vs us ad m c hs hx hown hy Sn hm hl hbase fun v' w' h1 h2=>hK _ _ (h v' w' h1 h2)
theorem zK{ops:Array Oper}{o:Oper}{a:Act}{K:Act->World->Prop}{Q:Exit->Act->World->Prop}{w:World}{E:Prop}(hw:Region.wanted o (yielded ops a.tmps)=true)(s x:Operand)
  (ho:o.op=.call {callee:=.builtin .append,args:=#[s,x],argTypes:=#[37,37]})
  (base:Nat) (v:Value) (vs us:List Value) (ad:Addr) (m c:Nat) (hs:a.eval s=v) (hx:a.eval x=.slice (some ad) m c)
  (hown:XT 26 base w v vs) (hy:J7 w (some ad) us) (Sn:Ip us) (hm:us.length=m) (hl:vs.length+m<=4398046511104) (hbase:base<=w.heap.size)
  (h:∀v' w',XT 26 base w' v' (vs++us)->w.grownBy w' v.ownBlock->K (a.put o.dst v') w'):
  if Region.wanted o (yielded ops a.tmps)=true then Oper.wp Tryz.prog o a w K Q else E:=by
 rw[if_pos hw];exact Nl s x ho base v vs us ad m c hs hx hown hy Sn hm hl hbase h
theorem JE(w:World)(us:List Value)(e:TypeId):J7 (w.alloc (.cells us.toArray e)) (some ⟨w.heap.size,0,none⟩) us:=by
 refine .inr ⟨w.heap.size,0,rfl,fun i hi=>?_⟩;rw[Za.cell (Za.new w us.toArray e)];simp[vx,hi]
theorem Ck(w:World)(base:Nat)(hb:base<=w.heap.size):XT 26 base (w.alloc (.cells #[] 26)) (.slice (some ⟨w.heap.size,0,none⟩) 0 0) []:=
 World.ownsRow_made w #[] 0 hb Qo rfl
def NI(vs:List Value)(w:World)(e:Ending)(w':World):Prop:=∃v,e=.returned v/\XT 26 w.heap.size w' v vs/\Below w.heap.size w w'
theorem BC(a:Option Addr)(n c:Nat)(vs:List Value)(w:World)(ha:J7 w a vs)(hs:Ip vs)(hn:vs.length=n)(hl:n<=4398046511104)(h0:a=none->n=0):
  Calls Tryz.prog 160 #[.slice a n c] w (NI vs w):=by
 have he:=fun(w:World) (n' c':Nat)=>Lib.run_eql_slice_nil (P:=Tryz.prog) w 37 26 a n c n' c' Tryz.underlying37
 rcases a with _|ad
 ·obtain rfl:n=0:=h0 rfl
  obtain rfl:vs=[]:=Ze hn;clear hn h0 ha;go_enter Tryz.func160,Tryz.ntmps160
  go_wp2;go_ret;exact⟨_,rfl,XT.nil _ _ _,ZH _ _⟩
 ·have HN:=Zy hn;have HS:=Zy hs;clear hn h0 hs
  go_enter Tryz.func160,Tryz.ntmps160
  go_wp2_with (at_builtin;refine QYi rfl _ _ rfl w.heap.size _ _ vs ad n c rfl rfl (Ck w w.heap.size (ZB _)) (ha.below (ZT _ _)) HS.out HN.out (by simpa using hl) QJ ?_;intro v1 w1 hown1 hgrow1)
  go_ret;exact⟨v1,rfl,by simpa using hown1,(ZT w _).grown hgrow1 QJ (Ck w w.heap.size (ZB _)).row⟩
theorem kz(base:Nat)(a:Option Addr)(n c:Nat)(vs:List Value)(w:World)(ha:J7 w a vs)(hbase:base<=w.heap.size)(hs:Ip vs)(hn:vs.length=n)(hl:n<=4398046511104)(h0:a=none->n=0):
  Calls Tryz.prog 160 #[.slice a n c] w fun e w'=>∃v,e=.returned v/\XT 26 base w' v vs/\Below w.heap.size w w':=
 (BC a n c vs w ha hs hn hl h0).mono fun e w' ⟨v,h1,h2,h3⟩=>⟨v,h1,h2.mono hbase,h3⟩
end Go.Proofs.YtmdcencmiopmmaaGreat
