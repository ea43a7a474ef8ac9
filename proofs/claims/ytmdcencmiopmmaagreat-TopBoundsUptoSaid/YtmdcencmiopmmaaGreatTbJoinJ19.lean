/- LiftTopBounds: joined, no condition of its own. -/
import Derived.Test.YtmdcencmiopmmaaGreatTbJoinT
import Derived.Test.YtmdcencmiopmmaaGreatTbJoinJ1
import Derived.Test.YtmdcencmiopmmaaGreatTbJoinJ3
import Derived.Test.YtmdcencmiopmmaaGreatTbJoinJ10
import Derived.Test.YtmdcencmiopmmaaGreatTbJoinJ18
set_option linter.unusedVariables false
set_option linter.unusedSimpArgs false
set_option maxRecDepth 100000
set_option maxHeartbeats 12000000
namespace Go.Proofs.YtmdcencmiopmmaaGreat
open Go.RowKit
def Zo:List Value:=[.slice none 0 0,.int .i64 0]++Q9++[.int .i64 0,.int .i64 0,.int .i64 0,.slice none 0 0]
theorem X9:Zo.length=33:=rfl
theorem Af(w:World):(Instr.alloc 277 true (.tuple #[])).run Tryz.prog w=.ok (.pointer (some ⟨w.heap.size,0,none⟩)) (w.alloc (.cells (ZT Zo) 277)):=by kernel_rfl
theorem OE(w:World):(Instr.build 277 #[]).run Tryz.prog w=.ok (.agg (ZT Zo)) w:=by kernel_rfl
theorem VM:(Tryz.prog.info? 277).map (·.size)=some 33:=by kernel_rfl
theorem GH:(Tryz.prog.underlying 277).map TypeDesc.isRow=some true:=by kernel_rfl
theorem vT:∃d,Tryz.prog.underlying 277=some d/\d.isRow=true:=by
 have h:=GH;cases hu:Tryz.prog.underlying 277 with
 | none=>rw[hu]at h;cases h
 | some d=>rw[hu]at h;exact⟨d,rfl,by simpa using h⟩
theorem VS{w:World}{B:Nat}{vs:List Value}{e:TypeId}(h:ZY w B vs e):w.rangeAt B 0 vs:=by
 intro j v hv;rw[Zu,h.cell (List.getElem?_eq_some_iff.1 hv).1,vx,QN,hv];rfl
theorem Rj{ops:Array Oper}{rest:List Oper}{op:Oper}{a:Act}{w:World}{Q:Exit->Act->World->Prop}(hgd:op.guard=none)(x:Operand)(ho:op.op=.load 277 x)
  (B o:Nat) (hx:a.eval x=.pointer (some ⟨B,o,none⟩)) (vs:List Value) (hB:w.rangeAt B o vs) (hl:vs.length=33)
  (h:wpList Tryz.prog ops Q rest (a.put op.dst (.agg (ZT vs))) w):wpList Tryz.prog ops Q (op::rest) a w:=by
 obtain⟨d,hu,hd⟩:=vT;exact wpList_load_mid hgd 277 x ho B o hx vs d hB hu hd (by rw[hl];exact VM) h
theorem WK{ops:Array Oper}{rest:List Oper}{op:Oper}{a:Act}{w:World}{Q:Exit->Act->World->Prop}(hgd:op.guard=none)(x y:Operand)(ho:op.op=.store 277 x y)
  (B o:Nat) (hx:a.eval x=.pointer (some ⟨B,o,none⟩)) (us:List Value) (hy:a.eval y=.agg (ZT us)) (vs:List Value) (e:TypeId) (hB:ZY w B vs e) (hl:o+33<=vs.length) (hl2:us.length=33) (h1:∀v∈us,v.oneCell'=true)
  (h:wpList Tryz.prog ops Q rest (a.put op.dst undef) (w.setCells B o us)):wpList Tryz.prog ops Q (op::rest) a w:=by
 refine wpList_store_mid hgd 277 x y ho B o (ZT us) hx hy ?_ (by rw[XM,hl2];exact VM) (Xd h1) h;intro j hj;rw[XM]at hj;exact⟨by rw[hB.cell (by omega)];rfl,hB.free _⟩
theorem UY{w:World}{B:Nat}{vs:List Value}{e:TypeId}(hB:ZY w B vs e)(hl:vs.length=33):(loadVar 277 ⟨B,0,none⟩).run Tryz.prog w=.ok (.agg (ZT vs)) w:=by
 obtain⟨d,hu,hd⟩:=vT;exact run_loadVar_mid w B 0 277 vs d (VS hB) hu hd (by rw[hl];exact VM)
theorem Wd:∀v∈Zo,v.oneCell'=true:=by decide
def Kn(a:Option Addr)(n c:Nat)(k:Int)(vs:List Value)(cm:C5):List Value:=[.slice a n c,.int .i64 k]++vs++cm.cells++Zo
theorem Sk{vs:List Value}(h:vs.length=27):∃v0 v1 v2 v3 v4 v5 v6 v7 v8 v9 v10 v11 v12 v13 v14 v15 v16 v17 v18 v19 v20 v21 v22 v23 v24 v25 v26,vs=[v0,v1,v2,v3,v4,v5,v6,v7,v8,v9,v10,v11,v12,v13,v14,v15,v16,v17,v18,v19,v20,v21,v22,v23,v24,v25,v26]:=by
 rcases vs with _|⟨v0,_|⟨v1,_|⟨v2,_|⟨v3,_|⟨v4,_|⟨v5,_|⟨v6,_|⟨v7,_|⟨v8,_|⟨v9,_|⟨v10,_|⟨v11,_|⟨v12,_|⟨v13,_|⟨v14,_|⟨v15,_|⟨v16,_|⟨v17,_|⟨v18,_|⟨v19,_|⟨v20,_|⟨v21,_|⟨v22,_|⟨v23,_|⟨v24,_|⟨v25,_|⟨v26,_|⟨v27,r⟩⟩⟩⟩⟩⟩⟩⟩⟩⟩⟩⟩⟩⟩⟩⟩⟩⟩⟩⟩⟩⟩⟩⟩⟩⟩⟩⟩
 case cons.cons.cons.cons.cons.cons.cons.cons.cons.cons.cons.cons.cons.cons.cons.cons.cons.cons.cons.cons.cons.cons.cons.cons.cons.cons.cons.nil=>exact⟨_,_,_,_,_,_,_,_,_,_,_,_,_,_,_,_,_,_,_,_,_,_,_,_,_,_,_,rfl⟩
 all_goals(simp at h)
theorem Fz(a:Option Addr)(n c:Nat)(k:Int)(cm:C5)(v0 v1 v2 v3 v4 v5 v6 v7 v8 v9 v10 v11 v12 v13 v14 v15 v16 v17 v18 v19 v20 v21 v22 v23 v24 v25 v26:Value)(w:World):
  (Instr.build 302 #[(0,.agg #[.slice a n c,.int .i64 k]),(1,.agg #[v0,v1,v2,v3,v4,v5,v6,v7,v8,v9,v10,v11,v12,v13,v14,v15,v16,v17,v18,v19,v20,v21,v22,v23,v24,v25,v26]),(2,.agg #[.int .i64 cm.a,.int .i64 cm.b,.int .i64 cm.c,.int .i64 cm.d,.int .i64 cm.e])]).run Tryz.prog w=.ok (.agg (ZT (Kn a n c k [v0,v1,v2,v3,v4,v5,v6,v7,v8,v9,v10,v11,v12,v13,v14,v15,v16,v17,v18,v19,v20,v21,v22,v23,v24,v25,v26] cm))) w:=by kernel_rfl
theorem Ii(a:Option Addr)(n c:Nat)(k:Int)(cm:C5)(vs:List Value)(h:vs.length=27)(w:World):
  (Instr.build 302 #[(0,.agg #[.slice a n c,.int .i64 k]),(1,.agg (ZT vs)),(2,.agg #[.int .i64 cm.a,.int .i64 cm.b,.int .i64 cm.c,.int .i64 cm.d,.int .i64 cm.e])]).run Tryz.prog w=.ok (.agg (ZT (Kn a n c k vs cm))) w:=by
 obtain⟨v0,v1,v2,v3,v4,v5,v6,v7,v8,v9,v10,v11,v12,v13,v14,v15,v16,v17,v18,v19,v20,v21,v22,v23,v24,v25,v26,rfl⟩:=Sk h;exact Fz a n c k cm _ _ _ _ _ _ _ _ _ _ _ _ _ _ _ _ _ _ _ _ _ _ _ _ _ _ _ w
def BO(t:Value)(k fk fa:Int):List Value:=[t,.int .i64 k]++Q9++[.int .i64 fk,.int .i64 fa,.int .i64 0,.slice none 0 0]
theorem Ig(a:Option Addr)(n c:Nat)(k fk fa:Int)(w:World):
  (Instr.build 277 #[(0,.agg #[.slice a n c,.int .i64 k]),(2,.agg #[.int .i64 fk,.int .i64 fa]),(3,.int .i64 0)]).run Tryz.prog w=.ok (.agg (ZT (BO (.slice a n c) k fk fa))) w:=by kernel_rfl
structure FE (base:Nat) (w:World) (rs:List Value) (s:St):Prop where
 lr:rs.length=33
 o:Own 3 base w (vx rs 0) s.O
 p:vx rs 1=.int .i64 s.p
 ly:s.Y.length=27
 y:∀i,i<27->Own 3 base w (vx rs (2+i)) (rx s.Y i)
 f1:vx rs 29=.int .i64 s.fk
 f2:vx rs 30=.int .i64 s.fa
 m:vx rs 31=.int .i64 s.md
 e:∃ws,Kz base w (vx rs 32) ws s.es
def PV(cm:C5):St:=⟨cm,[],0,UB,0,0,0,[]⟩
theorem MP{i:Nat}(h:i<27):vx Zo (2+i)=.slice none 0 0:=by
 unfold Zo vx;rw[QN,List.append_assoc,Q6 (by simp),show 2+i-[Value.slice none 0 0,Value.int IntKind.i64 0].length=i from by simp,ZP (by rw[XA];exact h),Q9,List.getElem?_replicate,if_pos h];rfl
theorem jM(base:Nat)(w:World)(cm:C5):FE base w Zo (PV cm):=
 ⟨rfl,Own.nil _ _ _,rfl,rfl,fun i hi=>by rw[MP hi,show rx (PV cm).Y i=[]from Vi 27 _ _ hi];exact Own.nil _ _ _,rfl,rfl,rfl,[],Kz.nil _ _⟩
theorem bG{t:Value}{k fk fa:Int}{i:Nat}(h:i<27):vx (BO t k fk fa) (2+i)=.slice none 0 0:=by
 unfold BO vx;rw[QN,List.append_assoc,Q6 (by simp),show 2+i-[t,Value.int IntKind.i64 k].length=i from by simp,ZP (by rw[XA];exact h),Q9,List.getElem?_replicate,if_pos h];rfl
theorem Rq{base:Nat}{w:World}{v:Value}{t:List Int}(h:Own 3 base w v t)(cm:C5)(k fk fa:Int):FE base w (BO v k fk fa) ⟨cm,t,k,UB,fk,fa,0,[]⟩:=
 ⟨rfl,h,rfl,rfl,fun i hi=>by rw[bG hi,show rx UB i=[]from Vi 27 _ _ hi];exact Own.nil _ _ _,rfl,rfl,rfl,[],Kz.nil _ _⟩
theorem R7{v:Value}(hv:v.oneCell'=true)(k fk fa:Int):∀u∈BO v k fk fa,u.oneCell'=true:=by
 intro u hu;unfold BO Q9 at hu;simp only[Zz,QB,Qj,or_false,List.mem_replicate]at hu;rcases hu with((rfl|rfl)|⟨_,rfl⟩)|rfl|rfl|rfl|rfl
 ·exact hv
 all_goals rfl
theorem FE.one{base:Nat}{w:World}{rs:List Value}{s:St}(h:FE base w rs s):∀v∈rs,v.oneCell'=true:=by
 intro v hv;obtain⟨i,hi,rfl⟩:=Ap hv;rw[h.lr]at hi;by_cases h0:i=0
 ·subst h0;obtain⟨a,n,c,e⟩:=h.o.form;rw[e];rfl
 by_cases h1:i=1
 ·subst h1;rw[h.p];rfl
 by_cases h2:i<29
 ·obtain⟨a,n,c,e⟩:=(h.y (i-2) (by omega)).form
  rw[show 2+(i-2)=i from by omega]at e;rw[e];rfl
 by_cases h3:i=29
 ·subst h3;rw[h.f1];rfl
 by_cases h4:i=30
 ·subst h4;rw[h.f2];rfl
 by_cases h5:i=31
 ·subst h5;rw[h.m];rfl
 obtain rfl:i=32:=by omega
 obtain⟨ws,hw⟩:=h.e;obtain⟨a,c,e,-,-,-⟩:=hw.form;rw[e];rfl
theorem FE.mono{base base':Nat}{w:World}{rs:List Value}{s:St}(h:FE base w rs s)(hb:base'<=base):FE base' w rs s:=
 ⟨h.lr,h.o.mono hb,h.p,h.ly,fun i hi=>(h.y i hi).mono hb,h.f1,h.f2,h.m,by obtain⟨ws,hw⟩:=h.e;exact⟨ws,hw.mono hb⟩⟩
theorem FE.left{base B:Nat}{w w':World}{rs:List Value}{s:St}(h:FE base w rs s)(hL:Left B w w')(hb:B<base):FE base w' rs s:=
 ⟨h.lr,h.o.left hL hb,h.p,h.ly,fun i hi=>(h.y i hi).left hL hb,h.f1,h.f2,h.m,by obtain⟨ws,hw⟩:=h.e;exact⟨ws,hw.left hL hb⟩⟩
def aR(er:Int)(s:St)(w:World)(e:Ending)(w':World):Prop:=∃rs,e=.returned (.tuple #[.agg (ZT rs),.int .i64 er])/\FE w.heap.size w' rs s/\Below w.heap.size w w'
theorem gq{I:In}(hI:YC I)(cm:C5){w:World}(hb:Below I.w0.heap.size I.w0 w):DI w.heap.size (w.alloc (.cells (ZT (Kn I.a I.n I.c I.k I.vs cm)) 302)) (Kn I.a I.n I.c I.k I.vs cm) I (PV cm):=by
 have hl:=hI.O4.lv;have hB:=ZY.new w (Kn I.a I.n I.c I.k I.vs cm) 302;have hbel:=hb.alloc hb.size (.cells (ZT (Kn I.a I.n I.c I.k I.vs cm)) 302);have hge:=hb.size;generalize(w.alloc (.cells (ZT (Kn I.a I.n I.c I.k I.vs cm)) 302))=w1 at *;clear hI;obtain⟨w0,a,n,c,t,k,vs,X⟩:=I;dsimp only at *;obtain⟨v0,v1,v2,v3,v4,v5,v6,v7,v8,v9,v10,v11,v12,v13,v14,v15,v16,v17,v18,v19,v20,v21,v22,v23,v24,v25,v26,rfl⟩:=Sk hl;refine {lu:=rfl,b:=hB,XW:=hbel,ge:=hge,u0:=rfl,u1:=rfl,ur:=?_,k0:=rfl,k1:=rfl,k2:=rfl,k3:=rfl,k4:=rfl,o:=Own.nil _ _ _,p:=rfl,ly:=rfl,y:=?_,f1:=rfl,f2:=rfl,m:=rfl,e:=⟨[],Kz.nil _ _⟩}
 ·intro i hi
  have:∀i,i<27->i=0\/i=1\/i=2\/i=3\/i=4\/i=5\/i=6\/i=7\/i=8\/i=9\/i=10\/i=11\/i=12\/i=13\/i=14\/i=15\/i=16\/i=17\/i=18\/i=19\/i=20\/i=21\/i=22\/i=23\/i=24\/i=25\/i=26:=by omega
  rcases this i hi with rfl|rfl|rfl|rfl|rfl|rfl|rfl|rfl|rfl|rfl|rfl|rfl|rfl|rfl|rfl|rfl|rfl|rfl|rfl|rfl|rfl|rfl|rfl|rfl|rfl|rfl|rfl<;>rfl
 ·intro i hi
  rw[show rx (PV cm).Y i=[]from Vi 27 _ _ hi];have:∀i,i<27->i=0\/i=1\/i=2\/i=3\/i=4\/i=5\/i=6\/i=7\/i=8\/i=9\/i=10\/i=11\/i=12\/i=13\/i=14\/i=15\/i=16\/i=17\/i=18\/i=19\/i=20\/i=21\/i=22\/i=23\/i=24\/i=25\/i=26:=by omega
  rcases this i hi with rfl|rfl|rfl|rfl|rfl|rfl|rfl|rfl|rfl|rfl|rfl|rfl|rfl|rfl|rfl|rfl|rfl|rfl|rfl|rfl|rfl|rfl|rfl|rfl|rfl|rfl|rfl<;>exact Own.nil _ _ _
theorem DI.oQ{P:Nat}{w:World}{us:List Value}{I:In}{s s':St}(h:DI P w us I s)(rs:List Value)(hr:FE (P+1) w rs s'):DI P (w.setCells P 34 rs) (EP us 34 rs) I {s' with cm:=s.cm}:=by
 have hL:=Xg w P 34 rs;have lu:=h.lu;have lr:=hr.lr;have ne:∀{i:Nat},i<67->i<34->vx (EP us 34 rs) i=vx us i:=fun {i} h1 h2=>zW (by omega) (by omega)
 have hin:∀{j:Nat},j<33->vx (EP us 34 rs) (34+j)=vx rs j:=fun {j} hj=>V9 (by omega) (by omega)
 exact {lu:=by rw[yD,lu],b:=h.b.setCells 34 rs,XW:=hL.XW h.ge h.XW,ge:=h.ge,u0:=by rw[ne (by omega) (by omega)];exact h.u0,u1:=by rw[ne (by omega) (by omega)];exact h.u1,ur:=fun i hi=>by rw[ne (by omega) (by omega)];exact h.ur i hi,k0:=by rw[ne (by omega) (by omega)];exact h.k0,k1:=by rw[ne (by omega) (by omega)];exact h.k1,k2:=by rw[ne (by omega) (by omega)];exact h.k2,k3:=by rw[ne (by omega) (by omega)];exact h.k3,k4:=by rw[ne (by omega) (by omega)];exact h.k4,o:=by rw[show(34:Nat)=34+0 from rfl,hin (by omega)];exact hr.o.left hL (Qq P),p:=by rw[show(35:Nat)=34+1 from rfl,hin (by omega)];exact hr.p,ly:=hr.ly,y:=fun i hi=>by rw[show 36+i=34+(2+i)from by omega,hin (by omega)];exact(hr.y i hi).left hL (Qq P),f1:=by rw[show(63:Nat)=34+29 from rfl,hin (by omega)];exact hr.f1,f2:=by rw[show(64:Nat)=34+30 from rfl,hin (by omega)];exact hr.f2,m:=by rw[show(65:Nat)=34+31 from rfl,hin (by omega)];exact hr.m,e:=by rw[show(66:Nat)=34+32 from rfl,hin (by omega)];obtain⟨ws,hw⟩:=hr.e;exact⟨ws,hw.left hL (Qq P)⟩}
theorem DI.oZ{P:Nat}{w:World}{us:List Value}{I:In}{s:St}(h:DI P w us I s)(i:Nat)(hi:i<27)(v:Value)(y:List Int)(hv:Own 3 (P+1) w v y):DI P (w.setCell ⟨P,36+i,none⟩ v) (us.set (36+i) v) I {s with Y:=s.Y.set i y}:=
 {lu:=by simpa using h.lu,b:=h.b.set (36+i) _,XW:=h.XW.setCell (p:=⟨P,36+i,none⟩) h.ge _,ge:=h.ge,u0:=by rw[Qu (by omega)];exact h.u0,u1:=by rw[Qu (by omega)];exact h.u1,ur:=fun j hj=>by rw[Qu (by omega)];exact h.ur j hj,k0:=by rw[Qu (by omega)];exact h.k0,k1:=by rw[Qu (by omega)];exact h.k1,k2:=by rw[Qu (by omega)];exact h.k2,k3:=by rw[Qu (by omega)];exact h.k3,k4:=by rw[Qu (by omega)];exact h.k4,o:=by rw[Qu (by omega)];exact h.o.setCell (a:=⟨P,36+i,none⟩) (Qq P) _,p:=by rw[Qu (by omega)];exact h.p,ly:=by rw[Zm];exact h.ly,y:=fun j hj=>by
   by_cases hij:i=j
   ·subst hij
    rw[Z9 (by rw[h.lu];omega),zB (by rw[h.ly];omega)];exact hv.setCell (a:=⟨P,36+i,none⟩) (Qq P) _
   ·rw[Qu (by omega),zA hij]
    exact(h.y j hj).setCell (a:=⟨P,36+i,none⟩) (Qq P) _,f1:=by rw[Qu (by omega)];exact h.f1,f2:=by rw[Qu (by omega)];exact h.f2,m:=by rw[Qu (by omega)];exact h.m,e:=by rw[Qu (by omega)];obtain⟨ws,hw⟩:=h.e;exact⟨ws,hw.setCell (a:=⟨P,36+i,none⟩) (Qq P) _⟩}
def EB(us:List Value):List Value:=(us.drop 34).take 33
theorem jO{us:List Value}(h:us.length=67):(EB us).length=33:=by simp[EB,h]
theorem Kw{us:List Value}{j:Nat}(h:j<33):vx (EB us) j=vx us (34+j):=by
 unfold EB vx;rw[QN,QN,List.getElem?_take,if_pos h,List.getElem?_drop]
theorem DI.res{P:Nat}{w:World}{us:List Value}{I:In}{s:St}(h:DI P w us I s):FE (P+1) w (EB us) s:=
 ⟨jO h.lu,by rw[Kw (by omega)];exact h.o,by rw[Kw (by omega)];exact h.p,h.ly,fun i hi=>by rw[Kw (by omega),show 34+(2+i)=36+i from by omega];exact h.y i hi,by rw[Kw (by omega)];exact h.f1,by rw[Kw (by omega)];exact h.f2,by rw[Kw (by omega)];exact h.m,by rw[Kw (by omega)];exact h.e⟩
theorem DI.oJ{P:Nat}{w:World}{us:List Value}{I:In}{s:St}(h:DI P w us I s):w.rangeAt P 34 (EB us):=by
 intro j v hv;have hj:j<33:=by rw[<-jO h.lu];exact(List.getElem?_eq_some_iff.1 hv).1
 rw[h.cell (by omega),<-Kw hj,vx,QN,hv];rfl
def R4(c:Int):Bool:=decide (c=0\/c=100\/c=99\/c=121)
noncomputable def Fh(I:In)(cm:C5)(fk fa:Int):Int×St:=
 if cm.a<0\/999<cm.a then(1,PV cm)
 else if¬(fk=0\/WL fk=true)then(1,PV cm)
 else if R4 cm.c=false then(9,PV cm)
 else if(Fg I ⟨uu cm,I.t,I.k,I.X,fk,fa,0,[]⟩).1≠0 then((Fg I ⟨uu cm,I.t,I.k,I.X,fk,fa,0,[]⟩).1,PV cm)
 else(0,(Fg I ⟨uu cm,I.t,I.k,I.X,fk,fa,0,[]⟩).2)
theorem tL(w:World)(l f c:Array Value)(vs zs:List Value)(tl tr tf tc tz:TypeId):
  let W:=((((w.alloc (.cells l tl)).alloc (.cells (ZT vs) tr)).alloc (.cells f tf)).alloc (.cells c tc)).alloc (.cells (ZT zs) tz)
  QD W w.heap.size l tl/\ZY W (w.heap.size+1) vs tr/\QD W (w.heap.size+2) f tf/\QD W (w.heap.size+3) c tc/\ZY W (w.heap.size+4) zs tz/\Below w.heap.size w W/\W.heap.size=w.heap.size+5:=by
 have h1:=QD.new w l tl;have h2:=QD.new (w.alloc (.cells l tl)) (ZT vs) tr;have h3:=QD.new ((w.alloc (.cells l tl)).alloc (.cells (ZT vs) tr)) f tf;have h4:=QD.new (((w.alloc (.cells l tl)).alloc (.cells (ZT vs) tr)).alloc (.cells f tf)) c tc;have h5:=QD.new ((((w.alloc (.cells l tl)).alloc (.cells (ZT vs) tr)).alloc (.cells f tf)).alloc (.cells c tc)) (ZT zs) tz;simp only[QJ]at h2 h3 h4 h5;exact⟨(((h1.alloc _).alloc _).alloc _).alloc _,((h2.alloc _).alloc _).alloc _,(h3.alloc _).alloc _,h4.alloc _,h5,((((QC w _).alloc (by simp only[QJ];omega) _).alloc (by simp only[QJ];omega) _).alloc (by simp only[QJ];omega) _).alloc (by simp only[QJ];omega) _,by simp only[QJ]⟩
theorem Uo{w wx:World}{B:Nat}{vs:List Value}(hB:ZY wx B vs 277)(hl:vs.length=33)(hb:Below w.heap.size w wx)(hw:w.heap.size<=B)(rs:List Value)(hr:rs.length=33):
  ZY (wx.setCells B 0 rs) B rs 277/\Below w.heap.size w (wx.setCells B 0 rs):=by
 have h:=hB.setCells 0 rs;rw[UK (by rw[hl,hr])]at h;exact⟨h,(Xg wx B 0 rs).XW hw hb⟩
theorem IP{ops:Array Oper}{rest:List Oper}{o:Oper}{a:Act}{w:World}{Q:Exit->Act->World->Prop}(hg:o.guard=none)(x y z:Operand)(ho:o.op=.build 302 #[(0,x),(1,y),(2,z)])
  (ad:Option Addr) (n c:Nat) (k:Int) (vs:List Value) (cm:C5) (hx:a.eval x=.agg #[.slice ad n c,.int .i64 k]) (hy:a.eval y=.agg (ZT vs)) (hz:a.eval z=.agg #[.int .i64 cm.a,.int .i64 cm.b,.int .i64 cm.c,.int .i64 cm.d,.int .i64 cm.e]) (hl:vs.length=27)
  (h:wpList Tryz.prog ops Q rest (a.put o.dst (.agg (ZT (Kn ad n c k vs cm)))) w):wpList Tryz.prog ops Q (o::rest) a w:=by
 refine wpList_plain hg fun _ hK=>?_
 have hm:(#[(0,x),(1,y),(2,z)]:Array (Nat×Operand)).map (fun(i,x)=>(i,a.eval x))=#[(0,.agg #[.slice ad n c,.int .i64 k]),(1,.agg (ZT vs)),(2,.agg #[.int .i64 cm.a,.int .i64 cm.b,.int .i64 cm.c,.int .i64 cm.d,.int .i64 cm.e])]:=by
  simp[hx,hy,hz]
 unfold Oper.wp execOp;simp only[ho,hm,Sem.run_bind,Ii ad n c k cm vs hl w,XT];exact hK _ _ h
theorem uA{o:Oper}{a:Act}{w:World}{K:Act->World->Prop}{Q:Exit->Act->World->Prop}(x y:Operand)(ho:o.op=.build 277 #[(0,x),(2,y),(3,.const (.int .i64 0))])
  (ad:Option Addr) (n c:Nat) (k fk fa:Int) (hx:a.eval x=.agg #[.slice ad n c,.int .i64 k]) (hy:a.eval y=.agg #[.int .i64 fk,.int .i64 fa])
  (h:K (a.put o.dst (.agg (ZT (BO (.slice ad n c) k fk fa)))) w):o.wp Tryz.prog a w K Q:=by
 have hm:(#[(0,x),(2,y),(3,.const (.int .i64 0))]:Array (Nat×Operand)).map (fun(i,x)=>(i,a.eval x))=#[(0,.agg #[.slice ad n c,.int .i64 k]),(2,.agg #[.int .i64 fk,.int .i64 fa]),(3,.int .i64 0)]:=by
  simp[hx,hy,show a.eval (Operand.const (Value.int .i64 0))=Value.int .i64 0 from rfl]
 unfold Oper.wp execOp;simp only[ho,hm,Sem.run_bind,Ig ad n c k fk fa w,XT];exact h
theorem Am{o:Oper}{a:Act}{w:World}{K:Act->World->Prop}{Q:Exit->Act->World->Prop}(x y:Operand)(ho:o.op=.store 277 x y)
  (B f:Nat) (hx:a.eval x=.pointer (some ⟨B,f,none⟩)) (us:List Value) (hy:a.eval y=.agg (ZT us)) (ht:w.there B f 33) (hl2:us.length=33) (h1:∀v∈us,v.oneCell'=true)
  (h:K (a.put o.dst undef) (w.setCells B f us)):o.wp Tryz.prog a w K Q:=
 wp_store_mid 277 x y ho B f (ZT us) hx hy (by rw[XM,hl2];exact ht) (by rw[XM,hl2];exact VM) (Xd h1) h
theorem GN{X:List (List Int)}(hX:X.length=27){i:Nat}(hi:i<27):(X.take i++UB.drop i).set i (rx X i)=X.take (i+1)++UB.drop (i+1):=by
 have hn:UB.length=27:=rfl;rw[List.set_append,if_neg (by rw[QT];omega),QT,XC (by omega),Nat.sub_self,Qo (by omega),List.append_assoc];congr 1
 rw[List.drop_eq_getElem_cons (by omega),QX];simp[rx,QN,Qr (show i<X.length by omega)]
theorem GR{X:List (List Int)}(hX:X.length=27):X.take 27++UB.drop 27=X:=by
 rw[Q5 (by omega),show UB.drop 27=[]from rfl,List.append_nil]
def X7(xs:List Int)(p:Int)(mode key b:Int):List Int×Int×Int:=
 if 200<xs.length then([],0,2)
 else if p<0\/(xs.length:Int)<p\/(mode≠1/\mode≠2)then([],0,1)
 else if 32<=key/\key≠127 then
  if mode=2/\p<xs.length then(xs.take p.toNat++[key]++xs.drop (p.toNat+1),p+1,0)
  else if xs.length=200 then([],0,8)else(xs.take p.toNat++[key]++xs.drop p.toNat,p+1,0)
 else if key≠8/\key≠127/\key≠21/\key≠23 then([],0,9)
 else if p=0 then([],0,5)
 else if key=21 then(xs.drop p.toNat,0,0)
 else if key=23 then(xs.take b.toNat++xs.drop p.toNat,b,0)
 else if mode=2 then(xs,p-1,0)
 else(xs.take (p.toNat-1)++xs.drop p.toNat,p-1,0)
def Ku(xs:List Int)(p mode key:Int):Prop:=xs.length<=200/\0<p/\p<=(xs.length:Int)/\(mode=1\/mode=2)/\key=23
theorem Ha{xs:List Int}{p mode key:Int}(h:¬Ku xs p mode key)(b b':Int):X7 xs p mode key b=X7 xs p mode key b':=by
 unfold X7;by_cases h1:200<xs.length
 ·rw[if_pos h1,if_pos h1]
 ·rw[if_neg h1,if_neg h1]
  by_cases h2:p<0\/(xs.length:Int)<p\/(mode≠1/\mode≠2)
  ·rw[if_pos h2,if_pos h2]
  ·rw[if_neg h2,if_neg h2]
   by_cases h3:32<=key/\key≠127
   ·rw[if_pos h3,if_pos h3]
   ·rw[if_neg h3,if_neg h3]
    by_cases h4:key≠8/\key≠127/\key≠21/\key≠23
    ·rw[if_pos h4,if_pos h4]
    ·rw[if_neg h4,if_neg h4]
     by_cases h5:p=0
     ·rw[if_pos h5,if_pos h5]
     ·rw[if_neg h5,if_neg h5]
      by_cases h6:key=21
      ·rw[if_pos h6,if_pos h6]
      ·rw[if_neg h6,if_neg h6]
       by_cases h7:key=23
       ·exact absurd ⟨by omega,by omega,by omega,by omega,h7⟩ h
       ·rw[if_neg h7,if_neg h7]
theorem Own.cap{e:TypeId}{base:Nat}{w:World}{a:Option Addr}{n c:Nat}{xs:List Int}(h:Own e base w (.slice a n c) xs):n<=c/\c<=9223372036854775807/\(a=none->n=0)/\∀ad,a=some ad->base<=ad.block:=by
 refine⟨h.get.2.2,?_⟩;rcases h.2 with⟨hv,_⟩|⟨g,cap,cur,hv,hb,hg,hn,hm,hs,ht⟩
 ·simp only[Qw]at hv
  obtain⟨rfl,rfl,rfl⟩:=hv;exact⟨by decide,fun _=>rfl,fun ad e=>by cases e⟩
 ·simp only[Qw]at hv
  obtain⟨rfl,_,rfl⟩:=hv;exact⟨(by unfold maxLen at hm;omega),fun e=>(by cases e),fun ad e=>(by cases e;exact hb)⟩
theorem Own.tY{e:TypeId}{base b:Nat}{w:World}{a:Option Addr}{n c:Nat}{xs:List Int}{fr:Prop}(h:Own e base w (.slice a n c) xs)(hb:b<=base):n<=c/\c<=9223372036854775807/\(a=none->n=0)/\(fr->∀ad,a=some ad->b<=ad.block):=
 ⟨h.cap.1,h.cap.2.1,h.cap.2.2.1,fun _ ad e=>QL hb (h.cap.2.2.2 ad e)⟩
def XR(fr:Prop)(back:Int->Prop)(xs:List Int)(p mode key:Int)(w:World)(e:Ending)(w':World):Prop:=
 ∃a n c b,e=.returned (.tuple #[.agg #[.slice a n c,.int .i64 (X7 xs p mode key b).2.1],.int .i64 (X7 xs p mode key b).2.2])/\(Ku xs p mode key->back b)/\Ints w' a (X7 xs p mode key b).1/\(X7 xs p mode key b).1.length=n/\(n<=1000/\n<=c/\c<=9223372036854775807/\(a=none->n=0)/\(fr->∀ad,a=some ad->w.heap.size<=ad.block))/\Below w.heap.size w w'
theorem XR.of{fr:Prop}{back:Int->Prop}{xs ys:List Int}{p mode key b r er:Int}{w w':World}{a:Option Addr}{n c:Nat}(hk:X7 xs p mode key b=(ys,r,er))(hb:Ku xs p mode key->back b)(hI:Ints w' a ys)(hl:ys.length=n)(hn:n<=1000)(hbel:Below w.heap.size w w')(hcap:n<=c/\c<=9223372036854775807/\(a=none->n=0)/\(fr->∀ad,a=some ad->w.heap.size<=ad.block):=by exact⟨QU _,by decide,fun _=>rfl,fun _ ad e=>by cases e⟩):
  XR fr back xs p mode key w (.returned (.tuple #[.agg #[.slice a n c,.int .i64 r],.int .i64 er])) w':=
 ⟨a,n,c,b,by rw[hk],hb,by rw[hk];exact hI,by rw[hk];exact hl,⟨hn,hcap⟩,hbel⟩
structure Ready (w w2 wx:World) (back:Int->Prop) (a:Option Addr) (n c:Nat) (xs:List Int) (q:Nat) (mode key:Int) (f t:Nat) (a3:Option Addr) (n3 c3:Nat):Prop where
 f1:f<=n
 t1:t<=n
 pieces:∃ys b,Ints wx a3 ys/\ys.length=n3/\X7 xs q mode key b=(xs.take f++ys++xs.drop t,(f:Int)+(n3:Int),0)/\(Ku xs q mode key->back b)
 top:n3<=1
 nil:a3=none->n3=0
 box:QD wx w.heap.size #[.slice a n c,.int .i64 (q:Int)] 30
 res:QD wx (w.heap.size+1) #[.slice none 0 0,.int .i64 0] 30
 XW:Below w2.heap.size w2 wx
def Y6(w:World)(a:Option Addr)(vs:List Value):Prop:=
 vs=[]\/∃b o,a=some ⟨b,o,none⟩/\∀i,i<vs.length->w.cell? ⟨b,o+i,none⟩=some (vx vs i)
theorem UQ{vs:List Value}{i:Nat}(h:i<vs.length):vx vs i=vs[i]:=by simp[vx,h]
theorem bF{vs:List Value}{k i:Nat}(h:i<k):vx (vs.take k) i=vx vs i:=by
 unfold vx;simp[List.getElem?_take,h]
theorem A7{vs:List Value}{k i:Nat}:vx (vs.drop k) i=vx vs (k+i):=by unfold vx;simp
theorem Ar{vs us:List Value}{i:Nat}(h:i<vs.length):vx (vs++us) i=vx vs i:=by unfold vx;simp[ZP h]
theorem yw{vs us:List Value}{i:Nat}:vx (vs++us) (vs.length+i)=vx us i:=by unfold vx;simp[Q6]
theorem jI{X:List (List Int)}{i:Nat}(h:i<X.length):rx X i=X[i]:=by simp[rx,h]
theorem dK{X:List (List Int)}{k i:Nat}:rx (X.drop k) i=rx X (k+i):=by unfold rx;simp
theorem BL{X Y:List (List Int)}{i:Nat}(h:i<X.length):rx (X++Y) i=rx X i:=by unfold rx;simp[ZP h]
theorem jH{X Y:List (List Int)}{i:Nat}:rx (X++Y) (X.length+i)=rx Y i:=by unfold rx;simp[Q6]
theorem U0{X:List (List Int)}{k:Nat}(h:k<X.length):X.take (k+1)=X.take k++[rx X k]:=by
 rw[Qo h,jI h]
theorem Y6.at{w:World}{a:Option Addr}{vs:List Value}(h:Y6 w a vs){k:Nat}(hk:k<vs.length):
  ∃b o,a=some ⟨b,o,none⟩/\∀i,i<vs.length->w.cell? ⟨b,o+i,none⟩=some (vx vs i):=by
 exact QAG
theorem Y6.keep{w w':World}{a:Option Addr}{vs:List Value}(h:Y6 w a vs)(hc:∀p v,w.cell? p=some v->w'.cell? p=some v):Y6 w' a vs:=by
 exact QAx
theorem Y6.below{w w':World}{a:Option Addr}{vs:List Value}(h:Y6 w a vs)(hb:Below w.heap.size w w'):Y6 w' a vs:=h.keep (Qk hb)
theorem Y6.drew{w:World}{a:Option Addr}{vs:List Value}(h:Y6 w a vs):Y6 w.drew a vs:=h.keep (fun _ _ h=>h)
theorem Y6.nil(w:World)(a:Option Addr):Y6 w a []:=.inl rfl
def Vs(w:World)(v:Value)(vs:List Value):Prop:=∃a n c,v=.slice a n c/\vs.length=n/\n<=c/\c<=9223372036854775807/\Y6 w a vs/\(a=none->n=0)
theorem Vs.keep{w w':World}{v:Value}{vs:List Value}(h:Vs w v vs)(hc:∀p v,w.cell? p=some v->w'.cell? p=some v):Vs w' v vs:=by
 exact QAe
theorem Vs.get{w:World}{a:Option Addr}{n c:Nat}{vs:List Value}(h:Vs w (.slice a n c) vs):vs.length=n/\n<=c/\c<=9223372036854775807/\Y6 w a vs/\(a=none->n=0):=by
 exact QAA
theorem Vs.nil(w:World):Vs w (.slice none 0 0) []:=⟨none,0,0,rfl,rfl,QU _,by omega,Y6.nil _ _,fun _=>rfl⟩
structure Lists (w:World) (vs:List Value) (X:List (List Int)):Prop where
 len:vs.length=X.length
 sl:∀i,i<X.length->Sl w (vx vs i) (rx X i)
theorem Lists.keep{w w':World}{vs:List Value}{X:List (List Int)}(h:Lists w vs X)(hc:∀p v,w.cell? p=some v->w'.cell? p=some v):Lists w' vs X:=⟨h.len,fun i hi=>(h.sl i hi).keep hc⟩
theorem Lists.below{w w':World}{vs:List Value}{X:List (List Int)}(h:Lists w vs X)(hb:Below w.heap.size w w'):Lists w' vs X:=h.keep (Qk hb)
theorem Lists.append{w:World}{vs us:List Value}{X Y:List (List Int)}(h:Lists w vs X)(g:Lists w us Y):Lists w (vs++us) (X++Y):=by
 refine⟨by simp[h.len,g.len],fun i hi=>?_⟩;by_cases hl:i<X.length
 ·rw[Ar (by rw[h.len];exact hl),BL hl];exact h.sl i hl
 ·obtain⟨j,rfl⟩:∃j,i=X.length+j:=⟨i-X.length,by omega⟩
  rw[jH,<-h.len,yw];exact g.sl j (by simp at hi;omega)
theorem Lists.one{w:World}{v:Value}{xs:List Int}(h:Sl w v xs):Lists w [v] [xs]:=⟨rfl,fun i hi=>by
 obtain rfl:i=0:=by simp at hi;omega
 exact h⟩
def Zk(e:TypeId)(base:Nat)(w:World)(v:Value)(vs:List Value):Prop:=w.ownsRow base e 1 v vs.length vs
theorem Zk.nil(e:TypeId)(base:Nat)(w:World):Zk e base w (.slice none 0 0) []:=Xv _ _ _ _
theorem Zk.alloc{e:TypeId}{base:Nat}{w:World}{v:Value}{vs:List Value}(h:Zk e base w v vs)(o:Obj):Zk e base (w.alloc o) v vs:=World.ownsRow.alloc h o
theorem Zk.setCell{e:TypeId}{base:Nat}{w:World}{v:Value}{vs:List Value}(h:Zk e base w v vs){a:Addr}(ha:a.block<base)(u:Value):Zk e base (w.setCell a u) v vs:=ownsRow_setCell_below h ha u
theorem Zk.drewN{e:TypeId}{base:Nat}{w:World}{v:Value}{vs:List Value}(h:Zk e base w v vs)(n:Nat):Zk e base (w.drewN n) v vs:=h
theorem Zk.drew{e:TypeId}{base:Nat}{w:World}{v:Value}{vs:List Value}(h:Zk e base w v vs):Zk e base w.drew v vs:=h
theorem Zk.mono{e:TypeId}{base base':Nat}{w:World}{v:Value}{vs:List Value}(h:Zk e base w v vs)(hb:base'<=base):Zk e base' w v vs:=by
 exact Qu1
theorem Zk.kept{e:TypeId}{base:Nat}{w w':World}{v:Value}{vs:List Value}(h:Zk e base w v vs)(hb:Below w.heap.size w w'):Zk e base w' v vs:=by
 exact Qvx
theorem Zk.other{e:TypeId}{base:Nat}{w:World}{v:Value}{vs:List Value}(h:Zk e base w v vs){a:Addr}(ha:some a.block≠v.ownBlock)(u:Value):Zk e base (w.setCell a u) v vs:=by
 exact QvY
theorem Zk.ZA{e e':TypeId}{base:Nat}{w:World}{v:Value}{vs:List Value}{B:Nat}{cs:Array Value}(h:Zk e base w v vs)(hB:QD w B cs e')(he:e≠e'):some B≠v.ownBlock:=by
 exact QuC
theorem Zk.row{e:TypeId}{base:Nat}{w:World}{v:Value}{vs:List Value}(h:Zk e base w v vs):∀k,v.ownBlock=some k->base<=k:=fun k hk=>(ZW h k hk).1
theorem Zk.ne{e:TypeId}{base:Nat}{w:World}{v:Value}{vs:List Value}(h:Zk e base w v vs){B:Nat}(hB:B<base):some B≠v.ownBlock:=by
 intro he;have:=ZW h B he.symm;omega
theorem Zk.oH{e:TypeId}{base:Nat}{w:World}{v:Value}{vs:List Value}(h:Zk e base w v vs){B:Nat}(hB:w.heap.size<=B):some B≠v.ownBlock:=by
 intro he;have:=ZW h B he.symm;omega
theorem Zk.vs{e:TypeId}{base:Nat}{w:World}{v:Value}{vs:List Value}(h:Zk e base w v vs):Vs w v vs:=by
 rcases h.2 with⟨rfl,h0⟩|⟨g,cap,cur,rfl,hb,hg,hn,hm,hs,ht⟩
 ·have:vs=[]:=QH h0
  subst this;exact Vs.nil w
 ·refine⟨_,_,cap,rfl,rfl,hn,by unfold maxLen at hm;omega,.inr ⟨g,0,rfl,fun i hi=>?_⟩,by simp⟩
  have:=h.cells (g:=g) rfl i (vx vs i) (by simp[vx,hi]);exact QAZ
theorem Zk.form{e:TypeId}{base:Nat}{w:World}{v:Value}{vs:List Value}(h:Zk e base w v vs):∃a n c,v=.slice a n c:=by
 obtain⟨a,n,c,h1,_⟩:=h.vs;exact⟨a,n,c,h1⟩
theorem Own.beside{e e':TypeId}{base T9:Nat}{w w':World}{v v2:Value}{xs:List Int}{us:List Value}(h:Own e base w v xs)(h2:Zk e' T9 w v2 us)(he:e≠e')(hg:w.grownBy w' v2.ownBlock):Own e base w' v xs:=by
 refine⟨h.1,?_⟩;rcases h.2 with hn|⟨g,cap,cur,rfl,hb',hgg,rest⟩
 ·exact .inl hn
 ·refine .inr ⟨g,cap,cur,rfl,hb',?_,rest⟩
  rw[hg.block g (Array.getElem?_eq_some_iff.1 hgg).1 (h2.ZA (cs:=cur) hgg (fun e=>he e.symm))];exact hgg
theorem qb:(Tryz.prog.info? 26).map (fun i=>(i.zero,i.size,i.bytes))=some (some (.slice none 0 0),1,24):=by kernel_rfl
def FD(vs:List Value):Prop:=∀i,i<vs.length->∃a n c,vx vs i=.slice a n c
theorem FD.mem{vs:List Value}(h:FD vs):∀v∈vs,v.oneCell'=true:=by
 intro v hv;obtain⟨i,hi,rfl⟩:=Ap hv;obtain⟨a,n,c,h⟩:=h i hi;rw[h];rfl
theorem Lists.sls{w:World}{vs:List Value}{X:List (List Int)}(h:Lists w vs X):FD vs:=by
 intro i hi;obtain⟨a,n,c,h1,_⟩:=h.sl i (by rw[<-h.len];exact hi);exact⟨a,n,c,h1⟩
theorem LK{o:Oper}{a:Act}{K:Act->World->Prop}{Q:Exit->Act->World->Prop}{w:World}(s x:Operand)
  (ho:o.op=.call {callee:=.builtin .append,args:=#[s,x],argTypes:=#[37,37]})
  (base:Nat) (v:Value) (vs us:List Value) (ad:Addr) (m c:Nat) (hs:a.eval s=v) (hx:a.eval x=.slice (some ad) m c)
  (hown:Zk 26 base w v vs) (hy:Y6 w (some ad) us) (eT:FD us) (hm:us.length=m) (hl:vs.length+m<=4398046511104) (hbase:base<=w.heap.size)
  (h:∀v' w',Zk 26 base w' v' (vs++us)->w.grownBy w' v.ownBlock->K (a.put o.dst v') w'):
  o.wp Tryz.prog a w K Q:=by
 obtain⟨i0,hi,hz0,hz1,hz2⟩:=ZF qb;refine wp_append_own w s x 37 ho base 26 i0 (.slice none 0 0) 1 24 Tryz.underlying37 hi hz0 hz1 hz2 rfl (by decide) v vs.length _ hs hown ad m c us hx (by simp[hm]) ?_ ?_ ?_ ?_ hbase ?_
 ·intro j u hj
  have hlt:j<us.length:=by
   rcases Qi j us.length with h|h
   ·exact h
   ·simp[h]at hj
  obtain⟨b,o',ha,hc⟩:=hy.at hlt;simp only[Qv]at ha;subst ha;have hadd:(⟨b,o',none⟩:Addr).add j=⟨b,o'+j,none⟩:=by unfold Addr.add;split<;>simp_all
  rw[hadd,hc j hlt,UQ hlt];rw[Qr hlt]at hj;exact hj
 ·exact eT.mem
 ·unfold maxLen;omega
 ·omega
 ·intro v' w' h1 h2 h3
  refine h v' w' ?_ h2;unfold Zk;simpa[hm]using h1
theorem QZx{ops:Array Oper}{rest:List Oper}{o:Oper}{a:Act}{Q:Exit->Act->World->Prop}{w:World}(hgd:o.guard=none)(s x:Operand)
  (ho:o.op=.call {callee:=.builtin .append,args:=#[s,x],argTypes:=#[37,37]})
  (base:Nat) (v:Value) (vs us:List Value) (ad:Addr) (m c:Nat) (hs:a.eval s=v) (hx:a.eval x=.slice (some ad) m c)
  (hown:Zk 26 base w v vs) (hy:Y6 w (some ad) us) (eT:FD us) (hm:us.length=m) (hl:vs.length+m<=4398046511104) (hbase:base<=w.heap.size)
  (h:∀v' w',Zk 26 base w' v' (vs++us)->w.grownBy w' v.ownBlock->wpList Tryz.prog ops Q rest (a.put o.dst v') w'):
  wpList Tryz.prog ops Q (o::rest) a w:=
 wpList_plain hgd fun _ hK=>LK s x ho base v vs us ad m c hs hx hown hy eT hm hl hbase fun v' w' h1 h2=>hK _ _ (h v' w' h1 h2)
theorem WQ{ops:Array Oper}{o:Oper}{a:Act}{K:Act->World->Prop}{Q:Exit->Act->World->Prop}{w:World}{E:Prop}(hw:Region.wanted o (yielded ops a.tmps)=true)(s x:Operand)
  (ho:o.op=.call {callee:=.builtin .append,args:=#[s,x],argTypes:=#[37,37]})
  (base:Nat) (v:Value) (vs us:List Value) (ad:Addr) (m c:Nat) (hs:a.eval s=v) (hx:a.eval x=.slice (some ad) m c)
  (hown:Zk 26 base w v vs) (hy:Y6 w (some ad) us) (eT:FD us) (hm:us.length=m) (hl:vs.length+m<=4398046511104) (hbase:base<=w.heap.size)
  (h:∀v' w',Zk 26 base w' v' (vs++us)->w.grownBy w' v.ownBlock->K (a.put o.dst v') w'):
  if Region.wanted o (yielded ops a.tmps)=true then Oper.wp Tryz.prog o a w K Q else E:=by
 rw[if_pos hw];exact LK s x ho base v vs us ad m c hs hx hown hy eT hm hl hbase h
theorem YJ(w:World)(us:List Value)(e:TypeId):Y6 (w.alloc (.cells us.toArray e)) (some ⟨w.heap.size,0,none⟩) us:=by
 refine .inr ⟨w.heap.size,0,rfl,fun i hi=>?_⟩;rw[QD.cell (QD.new w us.toArray e)];simp[vx,hi]
theorem vO(w:World)(base:Nat)(hb:base<=w.heap.size):Zk 26 base (w.alloc (.cells #[] 26)) (.slice (some ⟨w.heap.size,0,none⟩) 0 0) []:=
 World.ownsRow_made w #[] 0 hb (by unfold maxLen;omega) rfl
def Ip(vs:List Value)(w:World)(e:Ending)(w':World):Prop:=∃v,e=.returned v/\Zk 26 w.heap.size w' v vs/\Below w.heap.size w w'
theorem uH(a:Option Addr)(n c:Nat)(vs:List Value)(w:World)(ha:Y6 w a vs)(hs:FD vs)(hn:vs.length=n)(hl:n<=4398046511104)(h0:a=none->n=0):
  Calls Tryz.prog 160 #[.slice a n c] w (Ip vs w):=by
 have he:=fun(w:World) (n' c':Nat)=>Lib.run_eql_slice_nil (P:=Tryz.prog) w 37 26 a n c n' c' Tryz.underlying37
 rcases a with _|ad
 ·obtain rfl:n=0:=h0 rfl
  obtain rfl:vs=[]:=QH hn;clear hn h0 ha;go_enter Tryz.func160,Tryz.ntmps160
  go_wp2;go_ret;exact⟨_,rfl,Zk.nil _ _ _,Qx _ _⟩
 ·have HN:=QQ hn;have HS:=QQ hs;clear hn h0 hs
  go_enter Tryz.func160,Tryz.ntmps160
  go_wp2_with (at_builtin;refine QZx rfl _ _ rfl w.heap.size _ _ vs ad n c rfl rfl (vO w w.heap.size (QU _)) (ha.below (QC _ _)) HS.out HN.out (by simpa using hl) (by simp) ?_;intro v1 w1 hown1 hgrow1)
  go_ret;exact⟨v1,rfl,by simpa using hown1,(QC w _).grown hgrow1 (by simp) (vO w w.heap.size (QU _)).row⟩
theorem xN(base:Nat)(a:Option Addr)(n c:Nat)(vs:List Value)(w:World)(ha:Y6 w a vs)(hbase:base<=w.heap.size)(hs:FD vs)(hn:vs.length=n)(hl:n<=4398046511104)(h0:a=none->n=0):
  Calls Tryz.prog 160 #[.slice a n c] w fun e w'=>∃v,e=.returned v/\Zk 26 base w' v vs/\Below w.heap.size w w':=
 (uH a n c vs w ha hs hn hl h0).mono fun e w' ⟨v,h1,h2,h3⟩=>⟨v,h1,h2.mono hbase,h3⟩
theorem SF{W w1 w2:World}{a0 a1 a2:Addr}{u0 u1 u2:Value}(h:w1.cell? a0=some u0/\w1.cell? a1=some u1/\w1.cell? a2=some u2/\Below W.heap.size W w1)(hb:Below w1.heap.size w1 w2):w2.cell? a0=some u0/\w2.cell? a1=some u1/\w2.cell? a2=some u2/\Below W.heap.size W w2:=by
 obtain⟨h0,h1,h2,hW⟩:=h;exact⟨Qk hb _ _ h0,Qk hb _ _ h1,Qk hb _ _ h2,QW hW hW.size hb⟩
theorem SB{W w1 w2:World}{a0 a1 a2:Addr}{u0 u1 u2:Value}{row:Option Nat}(h:w1.cell? a0=some u0/\w1.cell? a1=some u1/\w1.cell? a2=some u2/\Below W.heap.size W w1)(hg:w1.grownBy w2 row)(hr:∀k,row=some k->W.heap.size<=k)(n0:a0.block<W.heap.size)(n1:a1.block<W.heap.size)(n2:a2.block<W.heap.size):w2.cell? a0=some u0/\w2.cell? a1=some u1/\w2.cell? a2=some u2/\Below W.heap.size W w2:=by
 obtain⟨h0,h1,h2,hW⟩:=h;have hb:Below W.heap.size W w2:=hW.grown hg hW.size hr;exact⟨by rw[hb.cell n0,<-hW.cell n0];exact h0,by rw[hb.cell n1,<-hW.cell n1];exact h1,by rw[hb.cell n2,<-hW.cell n2];exact h2,hb⟩
end Go.Proofs.YtmdcencmiopmmaaGreat
