/- joined, no condition of its own. -/
import Derived.Test.YtmdnepkekekncaaGreatJfJ18
set_option linter.unusedVariables false
set_option linter.unusedSimpArgs false
set_option maxRecDepth 100000
set_option maxHeartbeats 12000000
namespace Go.Proofs.YtmdnepkekekncaaGreat
open Go.RowKit
def YW:List Value:=[.slice none 0 0,.int .i64 0]++XB++[.int .i64 0,.int .i64 0,.int .i64 0,.slice none 0 0]
theorem Jv:YW.length=33:=rfl
theorem EL(w:World):(Instr.alloc 204 true (.tuple #[])).run Tryz.prog w=.ok (.pointer (some ⟨w.heap.size,0,none⟩)) (w.alloc (.cells (Xo YW) 204)):=QX
theorem aL(w:World):(Instr.build 204 #[]).run Tryz.prog w=.ok (.agg (Xo YW)) w:=QX
theorem qo:(Tryz.prog.info? 204).map (·.size)=some 33:=QX
theorem Nq:(Tryz.prog.underlying 204).map TypeDesc.isRow=some true:=QX
theorem Dl:∃d,Tryz.prog.underlying 204=some d/\d.isRow=true:=by
 have h:=Nq;cases hu:Tryz.prog.underlying 204 with
 | none=>rw[hu]at h;cases h
 | some d=>rw[hu]at h;exact⟨d,rfl,QDA⟩
theorem zX{w:World}{B:Nat}{vs:List Value}{e:TypeId}(h:XG w B vs e):w.rangeAt B 0 vs:=by
 intro j v hv;rw[XI,h.cell (List.getElem?_eq_some_iff.1 hv).1,vx,Zg,hv];rfl
theorem fU{ops:Array Oper}{rest:List Oper}{op:Oper}{a:Act}{w:World}{Q:Exit->Act->World->Prop}(hgd:op.guard=none)(x:Operand)(ho:op.op=.load 204 x)
  (B o:Nat) (hx:a.eval x=.pointer (some ⟨B,o,none⟩)) (vs:List Value) (hB:w.rangeAt B o vs) (hl:vs.length=33)
  (h:wpList Tryz.prog ops Q rest (a.put op.dst (.agg (Xo vs))) w):wpList Tryz.prog ops Q (op::rest) a w:=by
 obtain⟨d,hu,hd⟩:=Dl;exact wpList_load_mid hgd 204 x ho B o hx vs d hB hu hd (by rw[hl];exact qo) h
theorem ze{ops:Array Oper}{rest:List Oper}{op:Oper}{a:Act}{w:World}{Q:Exit->Act->World->Prop}(hgd:op.guard=none)(x y:Operand)(ho:op.op=.store 204 x y)
  (B o:Nat) (hx:a.eval x=.pointer (some ⟨B,o,none⟩)) (us:List Value) (hy:a.eval y=.agg (Xo us)) (vs:List Value) (e:TypeId) (hB:XG w B vs e) (hl:o+33<=vs.length) (hl2:us.length=33) (h1:∀v∈us,v.oneCell'=true)
  (h:wpList Tryz.prog ops Q rest (a.put op.dst undef) (w.setCells B o us)):wpList Tryz.prog ops Q (op::rest) a w:=by
 refine wpList_store_mid hgd 204 x y ho B o (Xo us) hx hy ?_ (by rw[Yr,hl2];exact qo) (Y6 h1) h;intro j hj;rw[Yr]at hj;exact⟨by rw[hB.cell QQ];rfl,hB.free _⟩
theorem Vr{w:World}{B:Nat}{vs:List Value}{e:TypeId}(hB:XG w B vs e)(hl:vs.length=33):(loadVar 204 ⟨B,0,none⟩).run Tryz.prog w=.ok (.agg (Xo vs)) w:=by
 obtain⟨d,hu,hd⟩:=Dl;exact run_loadVar_mid w B 0 204 vs d (zX hB) hu hd (by rw[hl];exact qo)
theorem xM:∀v∈YW,v.oneCell'=true:=QZ
def Va(a:Option Addr)(n c:Nat)(k:Int)(vs:List Value)(cm:C5):List Value:=[.slice a n c,.int .i64 k]++vs++cm.cells++YW
theorem iX{vs:List Value}(h:vs.length=27):∃v0 v1 v2 v3 v4 v5 v6 v7 v8 v9 v10 v11 v12 v13 v14 v15 v16 v17 v18 v19 v20 v21 v22 v23 v24 v25 v26,vs=[v0,v1,v2,v3,v4,v5,v6,v7,v8,v9,v10,v11,v12,v13,v14,v15,v16,v17,v18,v19,v20,v21,v22,v23,v24,v25,v26]:=by
 rcases vs with _|⟨v0,_|⟨v1,_|⟨v2,_|⟨v3,_|⟨v4,_|⟨v5,_|⟨v6,_|⟨v7,_|⟨v8,_|⟨v9,_|⟨v10,_|⟨v11,_|⟨v12,_|⟨v13,_|⟨v14,_|⟨v15,_|⟨v16,_|⟨v17,_|⟨v18,_|⟨v19,_|⟨v20,_|⟨v21,_|⟨v22,_|⟨v23,_|⟨v24,_|⟨v25,_|⟨v26,_|⟨v27,r⟩⟩⟩⟩⟩⟩⟩⟩⟩⟩⟩⟩⟩⟩⟩⟩⟩⟩⟩⟩⟩⟩⟩⟩⟩⟩⟩⟩
 case cons.cons.cons.cons.cons.cons.cons.cons.cons.cons.cons.cons.cons.cons.cons.cons.cons.cons.cons.cons.cons.cons.cons.cons.cons.cons.cons.nil=>exact⟨_,_,_,_,_,_,_,_,_,_,_,_,_,_,_,_,_,_,_,_,_,_,_,_,_,_,_,rfl⟩
 all_goals(simp at h)
theorem Mj(a:Option Addr)(n c:Nat)(k:Int)(cm:C5)(v0 v1 v2 v3 v4 v5 v6 v7 v8 v9 v10 v11 v12 v13 v14 v15 v16 v17 v18 v19 v20 v21 v22 v23 v24 v25 v26:Value)(w:World):
  (Instr.build 227 #[(0,.agg #[.slice a n c,.int .i64 k]),(1,.agg #[v0,v1,v2,v3,v4,v5,v6,v7,v8,v9,v10,v11,v12,v13,v14,v15,v16,v17,v18,v19,v20,v21,v22,v23,v24,v25,v26]),(2,.agg #[.int .i64 cm.a,.int .i64 cm.b,.int .i64 cm.c,.int .i64 cm.d,.int .i64 cm.e])]).run Tryz.prog w=.ok (.agg (Xo (Va a n c k [v0,v1,v2,v3,v4,v5,v6,v7,v8,v9,v10,v11,v12,v13,v14,v15,v16,v17,v18,v19,v20,v21,v22,v23,v24,v25,v26] cm))) w:=QX
theorem O8(a:Option Addr)(n c:Nat)(k:Int)(cm:C5)(vs:List Value)(h:vs.length=27)(w:World):
  (Instr.build 227 #[(0,.agg #[.slice a n c,.int .i64 k]),(1,.agg (Xo vs)),(2,.agg #[.int .i64 cm.a,.int .i64 cm.b,.int .i64 cm.c,.int .i64 cm.d,.int .i64 cm.e])]).run Tryz.prog w=.ok (.agg (Xo (Va a n c k vs cm))) w:=by
 obtain⟨v0,v1,v2,v3,v4,v5,v6,v7,v8,v9,v10,v11,v12,v13,v14,v15,v16,v17,v18,v19,v20,v21,v22,v23,v24,v25,v26,rfl⟩:=iX h;exact Mj a n c k cm _ _ _ _ _ _ _ _ _ _ _ _ _ _ _ _ _ _ _ _ _ _ _ _ _ _ _ w
def Fy(t:Value)(k fk fa:Int):List Value:=[t,.int .i64 k]++XB++[.int .i64 fk,.int .i64 fa,.int .i64 0,.slice none 0 0]
theorem O5(a:Option Addr)(n c:Nat)(k fk fa:Int)(w:World):
  (Instr.build 204 #[(0,.agg #[.slice a n c,.int .i64 k]),(2,.agg #[.int .i64 fk,.int .i64 fa]),(3,.int .i64 0)]).run Tryz.prog w=.ok (.agg (Xo (Fy (.slice a n c) k fk fa))) w:=QX
structure MI (base:Nat) (w:World) (rs:List Value) (s:St):Prop where
 lr:rs.length=33
 o:Own 3 base w (vx rs 0) s.O
 p:vx rs 1=.int .i64 s.p
 ly:s.Y.length=27
 y:∀i,i<27->Own 3 base w (vx rs (2+i)) (rx s.Y i)
 f1:vx rs 29=.int .i64 s.fk
 f2:vx rs 30=.int .i64 s.fa
 m:vx rs 31=.int .i64 s.md
 e:∃ws,Us base w (vx rs 32) ws s.es
def cK(cm:C5):St:=⟨cm,[],0,WK,0,0,0,[]⟩
theorem R9{i:Nat}(h:i<27):vx YW (2+i)=.slice none 0 0:=by
 unfold YW vx;rw[Zg,List.append_assoc,XV QJ,show 2+i-[Value.slice none 0 0,Value.int IntKind.i64 0].length=i from QJ,XM (by rw[Yd];exact h),XB,List.getElem?_replicate,if_pos h];rfl
theorem Ae(base:Nat)(w:World)(cm:C5):MI base w YW (cK cm):=
 ⟨rfl,Own.nil _ _ _,rfl,rfl,fun i hi=>by rw[R9 hi,show rx (cK cm).Y i=[]from zu 27 _ _ hi];exact Own.nil _ _ _,rfl,rfl,rfl,[],Us.nil _ _⟩
theorem pz{t:Value}{k fk fa:Int}{i:Nat}(h:i<27):vx (Fy t k fk fa) (2+i)=.slice none 0 0:=by
 unfold Fy vx;rw[Zg,List.append_assoc,XV QJ,show 2+i-[t,Value.int IntKind.i64 k].length=i from QJ,XM (by rw[Yd];exact h),XB,List.getElem?_replicate,if_pos h];rfl
theorem eT{base:Nat}{w:World}{v:Value}{t:List Int}(h:Own 3 base w v t)(cm:C5)(k fk fa:Int):MI base w (Fy v k fk fa) ⟨cm,t,k,WK,fk,fa,0,[]⟩:=
 ⟨rfl,h,rfl,rfl,fun i hi=>by rw[pz hi,show rx WK i=[]from zu 27 _ _ hi];exact Own.nil _ _ _,rfl,rfl,rfl,[],Us.nil _ _⟩
theorem gF{v:Value}(hv:v.oneCell'=true)(k fk fa:Int):∀u∈Fy v k fk fa,u.oneCell'=true:=by
 intro u hu;unfold Fy XB at hu;simp only[XO,Zb,ZO,or_false,List.mem_replicate]at hu;rcases hu with((rfl|rfl)|⟨_,rfl⟩)|rfl|rfl|rfl|rfl
 ·exact hv
 all_goals rfl
theorem MI.one{base:Nat}{w:World}{rs:List Value}{s:St}(h:MI base w rs s):∀v∈rs,v.oneCell'=true:=by
 intro v hv;obtain⟨i,hi,rfl⟩:=ET hv;rw[h.lr]at hi;by_cases h0:i=0
 ·subst h0;obtain⟨a,n,c,e⟩:=h.o.form;rw[e];rfl
 by_cases h1:i=1
 ·subst h1;rw[h.p];rfl
 by_cases h2:i<29
 ·obtain⟨a,n,c,e⟩:=(h.y (i-2) QQ).form
  rw[show 2+(i-2)=i from QQ]at e;rw[e];rfl
 by_cases h3:i=29
 ·subst h3;rw[h.f1];rfl
 by_cases h4:i=30
 ·subst h4;rw[h.f2];rfl
 by_cases h5:i=31
 ·subst h5;rw[h.m];rfl
 obtain rfl:i=32:=QQ;obtain⟨ws,hw⟩:=h.e;obtain⟨a,c,e,-,-,-⟩:=hw.form;rw[e];rfl
theorem MI.mono{base base':Nat}{w:World}{rs:List Value}{s:St}(h:MI base w rs s)(hb:base'<=base):MI base' w rs s:=
 ⟨h.lr,h.o.mono hb,h.p,h.ly,fun i hi=>(h.y i hi).mono hb,h.f1,h.f2,h.m,by obtain⟨ws,hw⟩:=h.e;exact⟨ws,hw.mono hb⟩⟩
theorem MI.left{base B:Nat}{w w':World}{rs:List Value}{s:St}(h:MI base w rs s)(hL:Left B w w')(hb:B<base):MI base w' rs s:=
 ⟨h.lr,h.o.left hL hb,h.p,h.ly,fun i hi=>(h.y i hi).left hL hb,h.f1,h.f2,h.m,by obtain⟨ws,hw⟩:=h.e;exact⟨ws,hw.left hL hb⟩⟩
def oU(er:Int)(s:St)(w:World)(e:Ending)(w':World):Prop:=∃rs,e=.returned (.tuple #[.agg (Xo rs),.int .i64 er])/\MI w.heap.size w' rs s/\Below w.heap.size w w'
theorem QQh{I:In}(hI:Je I)(cm:C5){w:World}(hb:Below I.w0.heap.size I.w0 w):DI w.heap.size (w.alloc (.cells (Xo (Va I.a I.n I.c I.k I.vs cm)) 227)) (Va I.a I.n I.c I.k I.vs cm) I (cK cm):=by
 have hl:=hI.bH.lv;have hB:=XG.new w (Va I.a I.n I.c I.k I.vs cm) 227;have hbel:=hb.alloc hb.size (.cells (Xo (Va I.a I.n I.c I.k I.vs cm)) 227);have hge:=hb.size;generalize(w.alloc (.cells (Xo (Va I.a I.n I.c I.k I.vs cm)) 227))=w1 at *;clear hI;obtain⟨w0,a,n,c,t,k,vs,X⟩:=I;dsimp only at *;obtain⟨v0,v1,v2,v3,v4,v5,v6,v7,v8,v9,v10,v11,v12,v13,v14,v15,v16,v17,v18,v19,v20,v21,v22,v23,v24,v25,v26,rfl⟩:=iX hl;refine {lu:=rfl,b:=hB,Xw:=hbel,ge:=hge,u0:=rfl,u1:=rfl,ur:=?_,k0:=rfl,k1:=rfl,k2:=rfl,k3:=rfl,k4:=rfl,o:=Own.nil _ _ _,p:=rfl,ly:=rfl,y:=?_,f1:=rfl,f2:=rfl,m:=rfl,e:=⟨[],Us.nil _ _⟩}
 ·intro i hi
  have:∀i,i<27->i=0\/i=1\/i=2\/i=3\/i=4\/i=5\/i=6\/i=7\/i=8\/i=9\/i=10\/i=11\/i=12\/i=13\/i=14\/i=15\/i=16\/i=17\/i=18\/i=19\/i=20\/i=21\/i=22\/i=23\/i=24\/i=25\/i=26:=QQ;rcases this i hi with rfl|rfl|rfl|rfl|rfl|rfl|rfl|rfl|rfl|rfl|rfl|rfl|rfl|rfl|rfl|rfl|rfl|rfl|rfl|rfl|rfl|rfl|rfl|rfl|rfl|rfl|rfl<;>rfl
 ·intro i hi
  rw[show rx (cK cm).Y i=[]from zu 27 _ _ hi];have:∀i,i<27->i=0\/i=1\/i=2\/i=3\/i=4\/i=5\/i=6\/i=7\/i=8\/i=9\/i=10\/i=11\/i=12\/i=13\/i=14\/i=15\/i=16\/i=17\/i=18\/i=19\/i=20\/i=21\/i=22\/i=23\/i=24\/i=25\/i=26:=QQ;rcases this i hi with rfl|rfl|rfl|rfl|rfl|rfl|rfl|rfl|rfl|rfl|rfl|rfl|rfl|rfl|rfl|rfl|rfl|rfl|rfl|rfl|rfl|rfl|rfl|rfl|rfl|rfl|rfl<;>exact Own.nil _ _ _
theorem DI.QX6{P:Nat}{w:World}{us:List Value}{I:In}{s s':St}(h:DI P w us I s)(rs:List Value)(hr:MI (P+1) w rs s'):DI P (w.setCells P 34 rs) (Lj us 34 rs) I {s' with cm:=s.cm}:=by
 have hL:=Y9 w P 34 rs;have lu:=h.lu;have lr:=hr.lr;have ne:∀{i:Nat},i<67->i<34->vx (Lj us 34 rs) i=vx us i:=fun {i} h1 h2=>jI QQ QQ
 have hin:∀{j:Nat},j<33->vx (Lj us 34 rs) (34+j)=vx rs j:=fun {j} hj=>zO QQ QQ
 exact {lu:=by rw[vK,lu],b:=h.b.setCells 34 rs,Xw:=hL.Xw h.ge h.Xw,ge:=h.ge,u0:=by rw[ne QQ QQ];exact h.u0,u1:=by rw[ne QQ QQ];exact h.u1,ur:=fun i hi=>by rw[ne QQ QQ];exact h.ur i hi,k0:=by rw[ne QQ QQ];exact h.k0,k1:=by rw[ne QQ QQ];exact h.k1,k2:=by rw[ne QQ QQ];exact h.k2,k3:=by rw[ne QQ QQ];exact h.k3,k4:=by rw[ne QQ QQ];exact h.k4,o:=by rw[show(34:Nat)=34+0 from rfl,hin QQ];exact hr.o.left hL (ZF P),p:=by rw[show(35:Nat)=34+1 from rfl,hin QQ];exact hr.p,ly:=hr.ly,y:=fun i hi=>by rw[show 36+i=34+(2+i)from QQ,hin QQ];exact(hr.y i hi).left hL (ZF P),f1:=by rw[show(63:Nat)=34+29 from rfl,hin QQ];exact hr.f1,f2:=by rw[show(64:Nat)=34+30 from rfl,hin QQ];exact hr.f2,m:=by rw[show(65:Nat)=34+31 from rfl,hin QQ];exact hr.m,e:=by rw[show(66:Nat)=34+32 from rfl,hin QQ];obtain⟨ws,hw⟩:=hr.e;exact⟨ws,hw.left hL (ZF P)⟩}
theorem DI.QX7{P:Nat}{w:World}{us:List Value}{I:In}{s:St}(h:DI P w us I s)(i:Nat)(hi:i<27)(v:Value)(y:List Int)(hv:Own 3 (P+1) w v y):DI P (w.setCell ⟨P,36+i,none⟩ v) (us.set (36+i) v) I {s with Y:=s.Y.set i y}:=
 {lu:=by simpa using h.lu,b:=h.b.set (36+i) _,Xw:=h.Xw.setCell (p:=⟨P,36+i,none⟩) h.ge _,ge:=h.ge,u0:=by rw[ZP QQ];exact h.u0,u1:=by rw[ZP QQ];exact h.u1,ur:=fun j hj=>by rw[ZP QQ];exact h.ur j hj,k0:=by rw[ZP QQ];exact h.k0,k1:=by rw[ZP QQ];exact h.k1,k2:=by rw[ZP QQ];exact h.k2,k3:=by rw[ZP QQ];exact h.k3,k4:=by rw[ZP QQ];exact h.k4,o:=by rw[ZP QQ];exact h.o.setCell (a:=⟨P,36+i,none⟩) (ZF P) _,p:=by rw[ZP QQ];exact h.p,ly:=by rw[YK];exact h.ly,y:=fun j hj=>by
   by_cases hij:i=j
   ·subst hij
    rw[YC (by rw[h.lu];omega),ja (by rw[h.ly];omega)];exact hv.setCell (a:=⟨P,36+i,none⟩) (ZF P) _
   ·rw[ZP QQ,jT hij]
    exact(h.y j hj).setCell (a:=⟨P,36+i,none⟩) (ZF P) _,f1:=by rw[ZP QQ];exact h.f1,f2:=by rw[ZP QQ];exact h.f2,m:=by rw[ZP QQ];exact h.m,e:=by rw[ZP QQ];obtain⟨ws,hw⟩:=h.e;exact⟨ws,hw.setCell (a:=⟨P,36+i,none⟩) (ZF P) _⟩}
def I7(us:List Value):List Value:=(us.drop 34).take 33
theorem Ag{us:List Value}(h:us.length=67):(I7 us).length=33:=by simp[I7,h]
theorem Vm{us:List Value}{j:Nat}(h:j<33):vx (I7 us) j=vx us (34+j):=by
 unfold I7 vx;rw[Zg,Zg,List.getElem?_take,if_pos h,List.getElem?_drop]
theorem DI.res{P:Nat}{w:World}{us:List Value}{I:In}{s:St}(h:DI P w us I s):MI (P+1) w (I7 us) s:=
 ⟨Ag h.lu,by rw[Vm QQ];exact h.o,by rw[Vm QQ];exact h.p,h.ly,fun i hi=>by rw[Vm QQ,show 34+(2+i)=36+i from QQ];exact h.y i hi,by rw[Vm QQ];exact h.f1,by rw[Vm QQ];exact h.f2,by rw[Vm QQ];exact h.m,by rw[Vm QQ];exact h.e⟩
theorem DI.QYZ{P:Nat}{w:World}{us:List Value}{I:In}{s:St}(h:DI P w us I s):w.rangeAt P 34 (I7 us):=by
 intro j v hv;have hj:j<33:=by rw[<-Ag h.lu];exact(List.getElem?_eq_some_iff.1 hv).1
 rw[h.cell QQ,<-Vm hj,vx,Zg,hv];rfl
def gu(c:Int):Bool:=decide (c=0\/c=100\/c=99\/c=121)
noncomputable def Mi(I:In)(cm:C5)(fk fa:Int):Int×St:=
 if cm.a<0\/999<cm.a then(1,cK cm)
 else if¬(fk=0\/zA fk=true)then(1,cK cm)
 else if gu cm.c=false then(9,cK cm)
 else if(Mh I ⟨Ck cm,I.t,I.k,I.X,fk,fa,0,[]⟩).1≠0 then((Mh I ⟨Ck cm,I.t,I.k,I.X,fk,fa,0,[]⟩).1,cK cm)
 else(0,(Mh I ⟨Ck cm,I.t,I.k,I.X,fk,fa,0,[]⟩).2)
theorem QJm(w:World)(l f c:Array Value)(vs zs:List Value)(tl tr tf tc tz:TypeId):
  let W:=((((w.alloc (.cells l tl)).alloc (.cells (Xo vs) tr)).alloc (.cells f tf)).alloc (.cells c tc)).alloc (.cells (Xo zs) tz)
  Za W w.heap.size l tl/\XG W (w.heap.size+1) vs tr/\Za W (w.heap.size+2) f tf/\Za W (w.heap.size+3) c tc/\XG W (w.heap.size+4) zs tz/\Below w.heap.size w W/\W.heap.size=w.heap.size+5:=by
 have h1:=Za.new w l tl;have h2:=Za.new (w.alloc (.cells l tl)) (Xo vs) tr;have h3:=Za.new ((w.alloc (.cells l tl)).alloc (.cells (Xo vs) tr)) f tf;have h4:=Za.new (((w.alloc (.cells l tl)).alloc (.cells (Xo vs) tr)).alloc (.cells f tf)) c tc;have h5:=Za.new ((((w.alloc (.cells l tl)).alloc (.cells (Xo vs) tr)).alloc (.cells f tf)).alloc (.cells c tc)) (Xo zs) tz;simp only[Zu]at h2 h3 h4 h5;exact⟨(((h1.alloc _).alloc _).alloc _).alloc _,((h2.alloc _).alloc _).alloc _,(h3.alloc _).alloc _,h4.alloc _,h5,((((ZR w _).alloc QEC _).alloc QEC _).alloc QEC _).alloc QEC _,by simp only[Zu]⟩
theorem Wl{w wx:World}{B:Nat}{vs:List Value}(hB:XG wx B vs 204)(hl:vs.length=33)(hb:Below w.heap.size w wx)(hw:w.heap.size<=B)(rs:List Value)(hr:rs.length=33):
  XG (wx.setCells B 0 rs) B rs 204/\Below w.heap.size w (wx.setCells B 0 rs):=by
 have h:=hB.setCells 0 rs;rw[V5 (by rw[hl,hr])]at h;exact⟨h,(Y9 wx B 0 rs).Xw hw hb⟩
theorem Ol{ops:Array Oper}{rest:List Oper}{o:Oper}{a:Act}{w:World}{Q:Exit->Act->World->Prop}(hg:o.guard=none)(x y z:Operand)(ho:o.op=.build 227 #[(0,x),(1,y),(2,z)])
  (ad:Option Addr) (n c:Nat) (k:Int) (vs:List Value) (cm:C5) (hx:a.eval x=.agg #[.slice ad n c,.int .i64 k]) (hy:a.eval y=.agg (Xo vs)) (hz:a.eval z=.agg #[.int .i64 cm.a,.int .i64 cm.b,.int .i64 cm.c,.int .i64 cm.d,.int .i64 cm.e]) (hl:vs.length=27)
  (h:wpList Tryz.prog ops Q rest (a.put o.dst (.agg (Xo (Va ad n c k vs cm)))) w):wpList Tryz.prog ops Q (o::rest) a w:=by
 refine wpList_plain hg fun _ hK=>?_
 have hm:(#[(0,x),(1,y),(2,z)]:Array (Nat×Operand)).map (fun(i,x)=>(i,a.eval x))=#[(0,.agg #[.slice ad n c,.int .i64 k]),(1,.agg (Xo vs)),(2,.agg #[.int .i64 cm.a,.int .i64 cm.b,.int .i64 cm.c,.int .i64 cm.d,.int .i64 cm.e])]:=by
  simp[hx,hy,hz]
 unfold Oper.wp execOp;simp only[ho,hm,Sem.run_bind,O8 ad n c k cm vs hl w,Y4];exact hK _ _ h
theorem Cu{o:Oper}{a:Act}{w:World}{K:Act->World->Prop}{Q:Exit->Act->World->Prop}(x y:Operand)(ho:o.op=.build 204 #[(0,x),(2,y),(3,.const (.int .i64 0))])
  (ad:Option Addr) (n c:Nat) (k fk fa:Int) (hx:a.eval x=.agg #[.slice ad n c,.int .i64 k]) (hy:a.eval y=.agg #[.int .i64 fk,.int .i64 fa])
  (h:K (a.put o.dst (.agg (Xo (Fy (.slice ad n c) k fk fa)))) w):o.wp Tryz.prog a w K Q:=by
 have hm:(#[(0,x),(2,y),(3,.const (.int .i64 0))]:Array (Nat×Operand)).map (fun(i,x)=>(i,a.eval x))=#[(0,.agg #[.slice ad n c,.int .i64 k]),(2,.agg #[.int .i64 fk,.int .i64 fa]),(3,.int .i64 0)]:=by
  simp[hx,hy,show a.eval (Operand.const (Value.int .i64 0))=Value.int .i64 0 from rfl]
 unfold Oper.wp execOp;simp only[ho,hm,Sem.run_bind,O5 ad n c k fk fa w,Y4];exact h
theorem ER{o:Oper}{a:Act}{w:World}{K:Act->World->Prop}{Q:Exit->Act->World->Prop}(x y:Operand)(ho:o.op=.store 204 x y)
  (B f:Nat) (hx:a.eval x=.pointer (some ⟨B,f,none⟩)) (us:List Value) (hy:a.eval y=.agg (Xo us)) (ht:w.there B f 33) (hl2:us.length=33) (h1:∀v∈us,v.oneCell'=true)
  (h:K (a.put o.dst undef) (w.setCells B f us)):o.wp Tryz.prog a w K Q:=
 wp_store_mid 204 x y ho B f (Xo us) hx hy (by rw[Yr,hl2];exact ht) (by rw[Yr,hl2];exact qo) (Y6 h1) h
theorem Nv{X:List (List Int)}(hX:X.length=27){i:Nat}(hi:i<27):(X.take i++WK.drop i).set i (rx X i)=X.take (i+1)++WK.drop (i+1):=by
 have hn:WK.length=27:=rfl;rw[List.set_append,if_neg QEz,Zi,YJ QQ,Nat.sub_self,Xx QQ,List.append_assoc];congr 1
 rw[List.drop_eq_getElem_cons QQ,Zk];simp[rx,Zg,Z8 (show i<X.length from QQ)]
theorem NA{X:List (List Int)}(hX:X.length=27):X.take 27++WK.drop 27=X:=by
 rw[Z6 QQ,show WK.drop 27=[]from rfl,List.append_nil]
def JV(xs:List Int)(p:Int)(mode key b:Int):List Int×Int×Int:=
 if 200<xs.length then([],0,2)
 else if p<0\/(xs.length:Int)<p\/(mode≠1/\mode≠2)then([],0,1)
 else if 32<=key/\key≠127 then
  if mode=2/\p<xs.length then(xs.take p.toNat++[key]++xs.drop (p.toNat+1),p+1,0)
  else if xs.length=200 then([],0,8)else(xs.take p.toNat++[key]++xs.drop p.toNat,p+1,0)
 else if key≠8/\key≠127/\key≠21/\key≠23 then([],0,9)
 else if p=0 then([],0,5)
 else if key=21 then(xs.drop p.toNat,0,0)
 else if key=23 then(xs.take b.toNat++xs.drop p.toNat,b,0)
 else if mode=2 then(xs,p-1,0)
 else(xs.take (p.toNat-1)++xs.drop p.toNat,p-1,0)
def U8(xs:List Int)(p mode key:Int):Prop:=xs.length<=200/\0<p/\p<=(xs.length:Int)/\(mode=1\/mode=2)/\key=23
theorem N8{xs:List Int}{p mode key:Int}(h:¬U8 xs p mode key)(b b':Int):JV xs p mode key b=JV xs p mode key b':=by
 unfold JV;by_cases h1:200<xs.length
 ·rw[if_pos h1,if_pos h1]
 ·rw[if_neg h1,if_neg h1]
  by_cases h2:p<0\/(xs.length:Int)<p\/(mode≠1/\mode≠2)
  ·rw[if_pos h2,if_pos h2]
  ·rw[if_neg h2,if_neg h2]
   by_cases h3:32<=key/\key≠127
   ·rw[if_pos h3,if_pos h3]
   ·rw[if_neg h3,if_neg h3]
    by_cases h4:key≠8/\key≠127/\key≠21/\key≠23
    ·rw[if_pos h4,if_pos h4]
    ·rw[if_neg h4,if_neg h4]
     by_cases h5:p=0
     ·rw[if_pos h5,if_pos h5]
     ·rw[if_neg h5,if_neg h5]
      by_cases h6:key=21
      ·rw[if_pos h6,if_pos h6]
      ·rw[if_neg h6,if_neg h6]
       by_cases h7:key=23
       ·exact absurd ⟨QQ,QQ,QQ,QQ,h7⟩ h
       ·rw[if_neg h7,if_neg h7]
theorem Own.cap{e:TypeId}{base:Nat}{w:World}{a:Option Addr}{n c:Nat}{xs:List Int}(h:Own e base w (.slice a n c) xs):n<=c/\c<=9223372036854775807/\(a=none->n=0)/\∀ad,a=some ad->base<=ad.block:=by
 refine⟨h.get.2.2,?_⟩;rcases h.2 with⟨hv,_⟩|⟨g,cap,cur,hv,hb,hg,hn,hm,hs,ht⟩
 ·simp only[Xy]at hv
  obtain⟨rfl,rfl,rfl⟩:=hv;exact⟨QZ,fun _=>rfl,fun ad e=>QDk⟩
 ·simp only[Xy]at hv
  obtain⟨rfl,_,rfl⟩:=hv;exact⟨QC8,fun e=>QDk,fun ad e=>(by cases e;exact hb)⟩
theorem Own.QJa{e:TypeId}{base b:Nat}{w:World}{a:Option Addr}{n c:Nat}{xs:List Int}{fr:Prop}(h:Own e base w (.slice a n c) xs)(hb:b<=base):n<=c/\c<=9223372036854775807/\(a=none->n=0)/\(fr->∀ad,a=some ad->b<=ad.block):=
 ⟨h.cap.1,h.cap.2.1,h.cap.2.2.1,fun _ ad e=>Zf hb (h.cap.2.2.2 ad e)⟩
def Y3(fr:Prop)(back:Int->Prop)(xs:List Int)(p mode key:Int)(w:World)(e:Ending)(w':World):Prop:=
 ∃a n c b,e=.returned (.tuple #[.agg #[.slice a n c,.int .i64 (JV xs p mode key b).2.1],.int .i64 (JV xs p mode key b).2.2])/\(U8 xs p mode key->back b)/\Ints w' a (JV xs p mode key b).1/\(JV xs p mode key b).1.length=n/\(n<=1000/\n<=c/\c<=9223372036854775807/\(a=none->n=0)/\(fr->∀ad,a=some ad->w.heap.size<=ad.block))/\Below w.heap.size w w'
theorem Y3.of{fr:Prop}{back:Int->Prop}{xs ys:List Int}{p mode key b r er:Int}{w w':World}{a:Option Addr}{n c:Nat}(hk:JV xs p mode key b=(ys,r,er))(hb:U8 xs p mode key->back b)(hI:Ints w' a ys)(hl:ys.length=n)(hn:n<=1000)(hbel:Below w.heap.size w w')(hcap:n<=c/\c<=9223372036854775807/\(a=none->n=0)/\(fr->∀ad,a=some ad->w.heap.size<=ad.block):=by exact⟨ZB _,QZ,fun _=>rfl,fun _ ad e=>QDk⟩):
  Y3 fr back xs p mode key w (.returned (.tuple #[.agg #[.slice a n c,.int .i64 r],.int .i64 er])) w':=
 ⟨a,n,c,b,by rw[hk],hb,by rw[hk];exact hI,by rw[hk];exact hl,⟨hn,hcap⟩,hbel⟩
structure Ready (w w2 wx:World) (back:Int->Prop) (a:Option Addr) (n c:Nat) (xs:List Int) (q:Nat) (mode key:Int) (f t:Nat) (a3:Option Addr) (n3 c3:Nat):Prop where
 f1:f<=n
 t1:t<=n
 pieces:∃ys b,Ints wx a3 ys/\ys.length=n3/\JV xs q mode key b=(xs.take f++ys++xs.drop t,(f:Int)+(n3:Int),0)/\(U8 xs q mode key->back b)
 top:n3<=1
 nil:a3=none->n3=0
 box:Za wx w.heap.size #[.slice a n c,.int .i64 (q:Int)] 42
 res:Za wx (w.heap.size+1) #[.slice none 0 0,.int .i64 0] 42
 Xw:Below w2.heap.size w2 wx
def KM(w:World)(a:Option Addr)(vs:List Value):Prop:=
 vs=[]\/∃b o,a=some ⟨b,o,none⟩/\∀i,i<vs.length->w.cell? ⟨b,o+i,none⟩=some (vx vs i)
theorem VB{vs:List Value}{i:Nat}(h:i<vs.length):vx vs i=vs[i]:=by simp[vx,h]
theorem pW{vs:List Value}{k i:Nat}(h:i<k):vx (vs.take k) i=vx vs i:=by
 unfold vx;simp[List.getElem?_take,h]
theorem Eb{vs:List Value}{k i:Nat}:vx (vs.drop k) i=vx vs (k+i):=by unfold vx;simp
theorem Ea{vs us:List Value}{i:Nat}(h:i<vs.length):vx (vs++us) i=vx vs i:=by unfold vx;simp[XM h]
theorem vo{vs us:List Value}{i:Nat}:vx (vs++us) (vs.length+i)=vx us i:=by unfold vx;simp[XV]
theorem Ab{X:List (List Int)}{i:Nat}(h:i<X.length):rx X i=X[i]:=by simp[rx,h]
theorem rE{X:List (List Int)}{k i:Nat}:rx (X.drop k) i=rx X (k+i):=by unfold rx;simp
theorem FW{X Y:List (List Int)}{i:Nat}(h:i<X.length):rx (X++Y) i=rx X i:=by unfold rx;simp[XM h]
theorem Aa{X Y:List (List Int)}{i:Nat}:rx (X++Y) (X.length+i)=rx Y i:=by unfold rx;simp[XV]
theorem Wp{X:List (List Int)}{k:Nat}(h:k<X.length):X.take (k+1)=X.take k++[rx X k]:=by
 rw[Xx h,Ab h]
theorem KM.at{w:World}{a:Option Addr}{vs:List Value}(h:KM w a vs){k:Nat}(hk:k<vs.length):
  ∃b o,a=some ⟨b,o,none⟩/\∀i,i<vs.length->w.cell? ⟨b,o+i,none⟩=some (vx vs i):=by
 exact QLY
theorem KM.keep{w w':World}{a:Option Addr}{vs:List Value}(h:KM w a vs)(hc:∀p v,w.cell? p=some v->w'.cell? p=some v):KM w' a vs:=by
 exact QI0
theorem KM.below{w w':World}{a:Option Addr}{vs:List Value}(h:KM w a vs)(hb:Below w.heap.size w w'):KM w' a vs:=h.keep (Zd hb)
theorem KM.drew{w:World}{a:Option Addr}{vs:List Value}(h:KM w a vs):KM w.drew a vs:=h.keep (fun _ _ h=>h)
theorem KM.nil(w:World)(a:Option Addr):KM w a []:=.inl rfl
def Vs(w:World)(v:Value)(vs:List Value):Prop:=∃a n c,v=.slice a n c/\vs.length=n/\n<=c/\c<=9223372036854775807/\KM w a vs/\(a=none->n=0)
theorem Vs.keep{w w':World}{v:Value}{vs:List Value}(h:Vs w v vs)(hc:∀p v,w.cell? p=some v->w'.cell? p=some v):Vs w' v vs:=by
 exact QLC
theorem Vs.get{w:World}{a:Option Addr}{n c:Nat}{vs:List Value}(h:Vs w (.slice a n c) vs):vs.length=n/\n<=c/\c<=9223372036854775807/\KM w a vs/\(a=none->n=0):=by
 exact QI9
theorem Vs.nil(w:World):Vs w (.slice none 0 0) []:=⟨none,0,0,rfl,rfl,ZB _,QQ,KM.nil _ _,fun _=>rfl⟩
structure Lists (w:World) (vs:List Value) (X:List (List Int)):Prop where
 len:vs.length=X.length
 sl:∀i,i<X.length->Sl w (vx vs i) (rx X i)
theorem Lists.keep{w w':World}{vs:List Value}{X:List (List Int)}(h:Lists w vs X)(hc:∀p v,w.cell? p=some v->w'.cell? p=some v):Lists w' vs X:=⟨h.len,fun i hi=>(h.sl i hi).keep hc⟩
theorem Lists.below{w w':World}{vs:List Value}{X:List (List Int)}(h:Lists w vs X)(hb:Below w.heap.size w w'):Lists w' vs X:=h.keep (Zd hb)
theorem Lists.append{w:World}{vs us:List Value}{X Y:List (List Int)}(h:Lists w vs X)(g:Lists w us Y):Lists w (vs++us) (X++Y):=by
 refine⟨by simp[h.len,g.len],fun i hi=>?_⟩;by_cases hl:i<X.length
 ·rw[Ea (by rw[h.len];exact hl),FW hl];exact h.sl i hl
 ·obtain⟨j,rfl⟩:∃j,i=X.length+j:=⟨i-X.length,QQ⟩
  rw[Aa,<-h.len,vo];exact g.sl j QS
theorem Lists.one{w:World}{v:Value}{xs:List Int}(h:Sl w v xs):Lists w [v] [xs]:=⟨rfl,fun i hi=>by
 obtain rfl:i=0:=QS;exact h⟩
def Xc(e:TypeId)(base:Nat)(w:World)(v:Value)(vs:List Value):Prop:=w.ownsRow base e 1 v vs.length vs
theorem Xc.nil(e:TypeId)(base:Nat)(w:World):Xc e base w (.slice none 0 0) []:=Yu _ _ _ _
theorem Xc.alloc{e:TypeId}{base:Nat}{w:World}{v:Value}{vs:List Value}(h:Xc e base w v vs)(o:Obj):Xc e base (w.alloc o) v vs:=World.ownsRow.alloc h o
theorem Xc.setCell{e:TypeId}{base:Nat}{w:World}{v:Value}{vs:List Value}(h:Xc e base w v vs){a:Addr}(ha:a.block<base)(u:Value):Xc e base (w.setCell a u) v vs:=ownsRow_setCell_below h ha u
theorem Xc.drewN{e:TypeId}{base:Nat}{w:World}{v:Value}{vs:List Value}(h:Xc e base w v vs)(n:Nat):Xc e base (w.drewN n) v vs:=h
theorem Xc.drew{e:TypeId}{base:Nat}{w:World}{v:Value}{vs:List Value}(h:Xc e base w v vs):Xc e base w.drew v vs:=h
theorem Xc.mono{e:TypeId}{base base':Nat}{w:World}{v:Value}{vs:List Value}(h:Xc e base w v vs)(hb:base'<=base):Xc e base' w v vs:=by
 exact QHX
theorem Xc.kept{e:TypeId}{base:Nat}{w w':World}{v:Value}{vs:List Value}(h:Xc e base w v vs)(hb:Below w.heap.size w w'):Xc e base w' v vs:=by
 exact QHI
theorem Xc.other{e:TypeId}{base:Nat}{w:World}{v:Value}{vs:List Value}(h:Xc e base w v vs){a:Addr}(ha:some a.block≠v.ownBlock)(u:Value):Xc e base (w.setCell a u) v vs:=by
 exact QID
theorem Xc.XP{e e':TypeId}{base:Nat}{w:World}{v:Value}{vs:List Value}{B:Nat}{cs:Array Value}(h:Xc e base w v vs)(hB:Za w B cs e')(he:e≠e'):some B≠v.ownBlock:=by
 exact QGd
theorem Xc.row{e:TypeId}{base:Nat}{w:World}{v:Value}{vs:List Value}(h:Xc e base w v vs):∀k,v.ownBlock=some k->base<=k:=fun k hk=>(XC h k hk).1
theorem Xc.ne{e:TypeId}{base:Nat}{w:World}{v:Value}{vs:List Value}(h:Xc e base w v vs){B:Nat}(hB:B<base):some B≠v.ownBlock:=by
 intro he;have:=XC h B he.symm;omega
theorem Xc.QYk{e:TypeId}{base:Nat}{w:World}{v:Value}{vs:List Value}(h:Xc e base w v vs){B:Nat}(hB:w.heap.size<=B):some B≠v.ownBlock:=by
 intro he;have:=XC h B he.symm;omega
theorem Xc.vs{e:TypeId}{base:Nat}{w:World}{v:Value}{vs:List Value}(h:Xc e base w v vs):Vs w v vs:=by
 rcases h.2 with⟨rfl,h0⟩|⟨g,cap,cur,rfl,hb,hg,hn,hm,hs,ht⟩
 ·have:vs=[]:=ZM h0
  subst this;exact Vs.nil w
 ·refine⟨_,_,cap,rfl,rfl,hn,QC8,.inr ⟨g,0,rfl,fun i hi=>?_⟩,QJ⟩
  have:=h.cells (g:=g) rfl i (vx vs i) (by simp[vx,hi]);have hadd:(⟨g,0,none⟩:Addr).add i=⟨g,0+i,none⟩:=QF
  rwa[hadd]at this
theorem Xc.form{e:TypeId}{base:Nat}{w:World}{v:Value}{vs:List Value}(h:Xc e base w v vs):∃a n c,v=.slice a n c:=by
 obtain⟨a,n,c,h1,_⟩:=h.vs;exact⟨a,n,c,h1⟩
theorem Own.beside{e e':TypeId}{base mi:Nat}{w w':World}{v v2:Value}{xs:List Int}{us:List Value}(h:Own e base w v xs)(h2:Xc e' mi w v2 us)(he:e≠e')(hg:w.grownBy w' v2.ownBlock):Own e base w' v xs:=by
 refine⟨h.1,?_⟩;rcases h.2 with hn|⟨g,cap,cur,rfl,hb',hgg,rest⟩
 ·exact .inl hn
 ·refine .inr ⟨g,cap,cur,rfl,hb',?_,rest⟩
  rw[hg.block g (Array.getElem?_eq_some_iff.1 hgg).1 (h2.XP (cs:=cur) hgg (fun e=>he e.symm))];exact hgg
theorem jQ:(Tryz.prog.info? 22).map (fun i=>(i.zero,i.size,i.bytes))=some (some (.slice none 0 0),1,24):=QX
def MH(vs:List Value):Prop:=∀i,i<vs.length->∃a n c,vx vs i=.slice a n c
theorem MH.mem{vs:List Value}(h:MH vs):∀v∈vs,v.oneCell'=true:=by
 intro v hv;obtain⟨i,hi,rfl⟩:=ET hv;obtain⟨a,n,c,h⟩:=h i hi;rw[h];rfl
theorem Lists.sls{w:World}{vs:List Value}{X:List (List Int)}(h:Lists w vs X):MH vs:=by
 intro i hi;obtain⟨a,n,c,h1,_⟩:=h.sl i (by rw[<-h.len];exact hi);exact⟨a,n,c,h1⟩
theorem PH{o:Oper}{a:Act}{K:Act->World->Prop}{Q:Exit->Act->World->Prop}{w:World}(s x:Operand)
  (ho:o.op=.call {callee:=.builtin .append,args:=#[s,x],argTypes:=#[49,49]})
  (base:Nat) (v:Value) (vs us:List Value) (ad:Addr) (m c:Nat) (hs:a.eval s=v) (hx:a.eval x=.slice (some ad) m c)
  (hown:Xc 22 base w v vs) (hy:KM w (some ad) us) (hus:MH us) (hm:us.length=m) (hl:vs.length+m<=4398046511104) (hbase:base<=w.heap.size)
  (h:∀v' w',Xc 22 base w' v' (vs++us)->w.grownBy w' v.ownBlock->K (a.put o.dst v') w'):
  o.wp Tryz.prog a w K Q:=by
 obtain⟨i0,hi,hz0,hz1,hz2⟩:=XR jQ;refine wp_append_own w s x 49 ho base 22 i0 (.slice none 0 0) 1 24 Tryz.underlying49 hi hz0 hz1 hz2 rfl QZ v vs.length _ hs hown ad m c us hx (by simp[hm]) ?_ ?_ ?_ ?_ hbase ?_
 ·intro j u hj
  have hlt:j<us.length:=by
   rcases Z9 j us.length with h|h
   ·exact h
   ·simp[h]at hj
  obtain⟨b,o',ha,hc⟩:=hy.at hlt;simp only[ZL]at ha;subst ha;have hadd:(⟨b,o',none⟩:Addr).add j=⟨b,o'+j,none⟩:=QF;rw[hadd,hc j hlt,VB hlt];rw[Z8 hlt]at hj;exact hj
 ·exact hus.mem
 ·unfold maxLen;omega
 ·omega
 ·intro v' w' h1 h2 h3
  refine h v' w' ?_ h2;unfold Xc;simpa[hm]using h1
theorem QUY{ops:Array Oper}{rest:List Oper}{o:Oper}{a:Act}{Q:Exit->Act->World->Prop}{w:World}(hgd:o.guard=none)(s x:Operand)
  (ho:o.op=.call {callee:=.builtin .append,args:=#[s,x],argTypes:=#[49,49]})
  (base:Nat) (v:Value) (vs us:List Value) (ad:Addr) (m c:Nat) (hs:a.eval s=v) (hx:a.eval x=.slice (some ad) m c)
  (hown:Xc 22 base w v vs) (hy:KM w (some ad) us) (hus:MH us) (hm:us.length=m) (hl:vs.length+m<=4398046511104) (hbase:base<=w.heap.size)
  (h:∀v' w',Xc 22 base w' v' (vs++us)->w.grownBy w' v.ownBlock->wpList Tryz.prog ops Q rest (a.put o.dst v') w'):
  wpList Tryz.prog ops Q (o::rest) a w:=
 wpList_plain hgd fun _ hK=>PH s x ho base v vs us ad m c hs hx hown hy hus hm hl hbase fun v' w' h1 h2=>hK _ _ (h v' w' h1 h2)
theorem zR{ops:Array Oper}{o:Oper}{a:Act}{K:Act->World->Prop}{Q:Exit->Act->World->Prop}{w:World}{E:Prop}(hw:Region.wanted o (yielded ops a.tmps)=true)(s x:Operand)
  (ho:o.op=.call {callee:=.builtin .append,args:=#[s,x],argTypes:=#[49,49]})
  (base:Nat) (v:Value) (vs us:List Value) (ad:Addr) (m c:Nat) (hs:a.eval s=v) (hx:a.eval x=.slice (some ad) m c)
  (hown:Xc 22 base w v vs) (hy:KM w (some ad) us) (hus:MH us) (hm:us.length=m) (hl:vs.length+m<=4398046511104) (hbase:base<=w.heap.size)
  (h:∀v' w',Xc 22 base w' v' (vs++us)->w.grownBy w' v.ownBlock->K (a.put o.dst v') w'):
  if Region.wanted o (yielded ops a.tmps)=true then Oper.wp Tryz.prog o a w K Q else E:=by
 rw[if_pos hw];exact PH s x ho base v vs us ad m c hs hx hown hy hus hm hl hbase h
theorem JD(w:World)(us:List Value)(e:TypeId):KM (w.alloc (.cells us.toArray e)) (some ⟨w.heap.size,0,none⟩) us:=by
 refine .inr ⟨w.heap.size,0,rfl,fun i hi=>?_⟩;rw[Za.cell (Za.new w us.toArray e)];simp[vx,hi]
theorem Dh(w:World)(base:Nat)(hb:base<=w.heap.size):Xc 22 base (w.alloc (.cells #[] 22)) (.slice (some ⟨w.heap.size,0,none⟩) 0 0) []:=
 World.ownsRow_made w #[] 0 hb Qg rfl
def PZ(vs:List Value)(w:World)(e:Ending)(w':World):Prop:=∃v,e=.returned v/\Xc 22 w.heap.size w' v vs/\Below w.heap.size w w'
theorem Cc(a:Option Addr)(n c:Nat)(vs:List Value)(w:World)(ha:KM w a vs)(hs:MH vs)(hn:vs.length=n)(hl:n<=4398046511104)(h0:a=none->n=0):
  Calls Tryz.prog 138 #[.slice a n c] w (PZ vs w):=by
 have he:=fun(w:World) (n' c':Nat)=>Lib.run_eql_slice_nil (P:=Tryz.prog) w 49 22 a n c n' c' Tryz.underlying49
 rcases a with _|ad
 ·obtain rfl:n=0:=h0 rfl
  obtain rfl:vs=[]:=ZM hn;clear hn h0 ha;go_enter Tryz.func138,Tryz.ntmps138
  go_wp2;go_ret;exact⟨_,rfl,Xc.nil _ _ _,ZH _ _⟩
 ·have HN:=Zy hn;have HS:=Zy hs;clear hn h0 hs
  go_enter Tryz.func138,Tryz.ntmps138
  go_wp2_with (at_builtin;refine QUY rfl _ _ rfl w.heap.size _ _ vs ad n c rfl rfl (Dh w w.heap.size (ZB _)) (ha.below (ZR _ _)) HS.out HN.out (by simpa using hl) QJ ?_;intro v1 w1 hown1 hgrow1)
  go_ret;exact⟨v1,rfl,by simpa using hown1,(ZR w _).grown hgrow1 QJ (Dh w w.heap.size (ZB _)).row⟩
theorem uD(base:Nat)(a:Option Addr)(n c:Nat)(vs:List Value)(w:World)(ha:KM w a vs)(hbase:base<=w.heap.size)(hs:MH vs)(hn:vs.length=n)(hl:n<=4398046511104)(h0:a=none->n=0):
  Calls Tryz.prog 138 #[.slice a n c] w fun e w'=>∃v,e=.returned v/\Xc 22 base w' v vs/\Below w.heap.size w w':=
 (Cc a n c vs w ha hs hn hl h0).mono fun e w' ⟨v,h1,h2,h3⟩=>⟨v,h1,h2.mono hbase,h3⟩
theorem iy{W w1 w2:World}{a0 a1 a2:Addr}{u0 u1 u2:Value}(h:w1.cell? a0=some u0/\w1.cell? a1=some u1/\w1.cell? a2=some u2/\Below W.heap.size W w1)(hb:Below w1.heap.size w1 w2):w2.cell? a0=some u0/\w2.cell? a1=some u1/\w2.cell? a2=some u2/\Below W.heap.size W w2:=by
 obtain⟨h0,h1,h2,hW⟩:=h;exact⟨Zd hb _ _ h0,Zd hb _ _ h1,Zd hb _ _ h2,ZE hW hW.size hb⟩
theorem iV{W w1 w2:World}{a0 a1 a2:Addr}{u0 u1 u2:Value}{row:Option Nat}(h:w1.cell? a0=some u0/\w1.cell? a1=some u1/\w1.cell? a2=some u2/\Below W.heap.size W w1)(hg:w1.grownBy w2 row)(hr:∀k,row=some k->W.heap.size<=k)(n0:a0.block<W.heap.size)(n1:a1.block<W.heap.size)(n2:a2.block<W.heap.size):w2.cell? a0=some u0/\w2.cell? a1=some u1/\w2.cell? a2=some u2/\Below W.heap.size W w2:=by
 obtain⟨h0,h1,h2,hW⟩:=h;have hb:Below W.heap.size W w2:=hW.grown hg hW.size hr;exact⟨by rw[hb.cell n0,<-hW.cell n0];exact h0,by rw[hb.cell n1,<-hW.cell n1];exact h1,by rw[hb.cell n2,<-hW.cell n2];exact h2,hb⟩
end Go.Proofs.YtmdnepkekekncaaGreat
