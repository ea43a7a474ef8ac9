/- joined, no condition of its own. -/
import Derived.Test.YtmdnepkekekncaaGreatJfJ44
set_option linter.unusedVariables false
set_option linter.unusedSimpArgs false
set_option maxRecDepth 100000
set_option maxHeartbeats 12000000
namespace Go.Proofs.YtmdnepkekekncaaGreat
open Go.RowKit
theorem PS(W:World)(most width:Int)(ta:Option Addr)(tn tc N:Nat)(T:List ByteArray)(w:World)(hT:Strs w ta T)(hn:T.length=tn)(hN:Uu T<=N)(hNb:N<=1048576)(htn:tn<=1048576):
  Calls Tryz.prog 11 #[.int .i64 most,.int .i64 width,.slice ta tn tc] w (QjK W most width T w):=by
 have HT:=Zy hT;have HN:=Zy hn;have HS:=Zy hN;clear hT hn hN;go_enter Tryz.func11,Tryz.ntmps11
 go_wp2_with fail
 refine(QXo most width w).mono ?_;rintro e w2 ⟨hb2,⟨hbad,rfl⟩|⟨hgood,B,F,rfl,f,hH⟩⟩
 ·have HBAD:=Zy hbad;have HB:=Zy hb2
  clear hbad hb2;go_wp2;refine ZC (v:=.tuple #[.pointer none,.slice none 0 0,.slice none 0 0,.bool false]) QD6 rfl ?_;exact⟨HB.out,.inl ⟨rfl,fun h=>absurd h HBAD.out⟩⟩
 ·have HG:=Zy hgood;have HB:=Zy hb2
  have hR0:uo w w2 B (fun k=>w.heap.size<=k/\k<w2.heap.size) F f (SS.new most width) (.slice none 0 0) (.slice none 0 0) [] []:=
   ⟨hH,⟨[],Xd.nil _ _ _,xC.nil _ _⟩,Yu _ _ _ _,fun k hk=>QEs,fun k hk=>QEs,fun k hk=>hk.1,hb2⟩
  have Jf:=Zy hR0;clear hgood hb2 hR0 hH;go_wp2
  go_loopw [33,12,13] (fun x y1 y2 wr=>∃(j:Nat) (G F:Nat->Prop) (f:Nat->Value) (S:SS) (l:List (Int×List Int)) (m:List Int),x=.int .i64 (j:Int)/\j<=tn/\uo w wr B G F f S y1 y2 l m/\UI N (Uu (T.take j)) most S l m/\Ur W T (SS.new most width) [] []=Ur W (T.drop j) S l m) (fun x _ _ _=>tn-(intOf x).toNat)
  case atStart=>exact⟨0,_,_,_,_,_,_,rfl,Z4 _,Jf.out,UI.new HG.out,rfl⟩
  case round=>
   obtain⟨j,G,F,f,S,l,m,rfl,hj,hR,hI,Li⟩:=hrel;by_cases hlt:j<tn
   ·as_aux_lemma=>
    have hi0:(0:Int)<=(j:Int):=QQ;have hin:(j:Int)<(tn:Int):=QQ;have hjt:j<T.length:=QW;obtain⟨b1,o1,rfl,cv⟩:∃b o,ta=some ⟨b,o,none⟩/\wr.cell? ⟨b,o+j,none⟩=some (.string T[j]):=by
     rcases HT.out with h|⟨b,o,h1,h2⟩
     ·rw[h]at hjt;simp at hjt
     ·exact⟨b,o,h1,Zd hR.Xw _ _ (h2 j hjt)⟩
    have hdr:T.drop j=T[j]::T.drop (j+1):=List.drop_eq_getElem_cons hjt;have htk:=SG hjt;have hle:=ry (T:=T) (j+1);generalize T[j]=tj at *;obtain⟨K,hI1,hI2,Ev,oI⟩:=hI.inv;have hsn:=HS.out;have HFD:=Zy (PN W F G B K S tj wr ⟨f,hR.hf⟩ hI1 hI.pend QQ);obtain⟨us,hu,RI⟩:=hR.ev;obtain⟨ya,yn,yc,rfl⟩:=hu.form;obtain⟨za,zn,zc,rfl⟩:=hR.sg.form;have HR:=Zy hR;have HI:=Zy hI;have PD:=Zy Li;have HDR:=Zy hdr;have HTK:=Zy htk;have hle2:Uu (T.take j)+tj.size<=N:=QQ;have bW:=Zy hle2;clear hR hI Li hdr htk hle hI1 hI2 Ev oI hsn hu RI us hle2;go_wp2_with fail
    refine HFD.out.mono ?_;rintro e w6 ⟨F6,f6,Wy,⟨hz,rfl⟩|⟨hnz,rfl⟩⟩
    ·have OD:=HR.out.feed Wy
     have hI6:=HI.out.step (W:=W) tj bW.out hz;obtain⟨us,hu,RI⟩:=OD.ev;obtain⟨vs,hv,hvl⟩:=Wy.hf.m.told;have jZ:=Wy.hf.m.Yv;obtain⟨pa,pn,pc,h56⟩:=hv.form;obtain⟨sa,sn,sc,h57⟩:=jZ.form;rw[h56]at hv;rw[h57]at jZ;rw[h56,h57];obtain⟨p1,p2,p3,p4,p5⟩:=hv.bM.get;obtain⟨s1,s2,s3,s4,s5⟩:=jZ.sl.get;obtain⟨K6,i1,i2,i3,i4⟩:=hI6.inv;have hK6:K6<=N:=by have:=bW.out;omega
     have hmul:K6*(N+2)<=1048576*1048578:=Nat.mul_le_mul QQ QQ;have hle1:us.length+pn<=4398046511104:=by
      rw[RI.1,<-p1,hvl.1];rw[ZN]at i3;omega
     have hle2:m.length+sn<=17592186044416:=by
      rw[ZN,s1]at i4;omega
     have hb6:=OD.Xw.size;have il:Ur W T (SS.new most width) [] []=Ur W (T.drop (j+1)) (S.feed W tj).1 (l++(S.feed W tj).1.told) (m++(S.feed W tj).1.Yv):=by
      rw[PD.out,HDR.out]
      show(if(S.feed W tj).2=0 then _ else _)=_
      rw[if_pos hz]
     rw[<-HTK.out]at hI6;have HR6:=Zy OD;have HI6:=Zy hI6;have HU:=Zy hu;have IZ:=Zy RI;have bY:=Zy hvl;have og:=Zy p1;have HP4:=Zy p4;have HP5:=Zy p5;have IX:=Zy s1;have HS4:=Zy s4;have Mr:=Zy s5;have HF6:=Zy il;have ui:=Zy hle1;have HL2:=Zy hle2;have HVI:=Zy jZ;clear Wy OD hI6 hu RI hv hvl jZ h56 h57 p1 p2 p3 p4 p5 s1 s2 s3 s4 s5 i1 i2 i3 i4 hK6 hmul hle1 hle2 il hz;go_wp2_with (first|(at_builtin;refine QXV rfl _ _ rfl w.heap.size (.slice ya yn yc) us vs pa pn pc rfl rfl HU.out HP4.out bY.out.ok og.out HP5.out ui.out hb6 ?_;intro v7 w7 o7 hg7 Qxq;have uq:=HR6.out.evs HU.out IZ.out bY.out o7 hg7 Qxq;have HR7:=Zy uq;have WC:=uq.Xw.size;have hints:Ints w7 sa (S.feed W tj).1.Yv:=(by have BD:Own 3 0 w7 (.slice sa sn sc) (S.feed W tj).1.Yv:=HVI.out.moved (fun k hk=>hg7.block k (HVI.out.vz k hk) (fun e=>by obtain⟨cur,hc⟩:=HVI.out.blk hk;exact HU.out.XP hc QZ e));exact BD.get.2.1);have HIN:=Zy hints;clear uq hints;obtain⟨a7,n7,c7,rfl⟩:=o7.form)|(at_builtin;refine nX rfl _ _ rfl w.heap.size (.slice za zn zc) m (S.feed W tj).1.Yv sa sn sc rfl rfl HR7.out.sg HIN.out IX.out Mr.out HL2.out WC ?_;intro v8 w8 o8 oF QQy;have HR8:=Zy (HR7.out.sgs o8 oF QQy);clear oF QQy;obtain⟨a8,n8,c8,rfl⟩:=o8.form))
     exact⟨⟨j+1,_,_,_,_,_,_,Qy,QQ,HR8.out,HI6.out,HF6.out⟩,Qp⟩
    ·have Qvv:((S.feed W tj).2 !=0)=true:=by simpa using hnz
     have OD:=HR.out.feed Wy;have il:Ur W T (SS.new most width) [] []=none:=by
      rw[PD.out,HDR.out]
      show(if(S.feed W tj).2=0 then _ else _)=_
      rw[if_neg hnz]
     have HBB:=Zy OD.Xw;have HF6:=Zy il;clear Wy OD il hnz;generalize(S.feed W tj).2=er at *;go_wp2;refine ZC (v:=.tuple #[.pointer none,.slice none 0 0,.slice none 0 0,.bool false]) QD6 rfl ?_;exact⟨HBB.out,.inl ⟨rfl,fun _=>HF6.out⟩⟩
   ·as_aux_lemma=>
    obtain rfl:j=tn:=QQ;have hdr:T.drop j=[]:=List.drop_eq_nil_of_le (by rw[HN.out];exact ZB _);have HR:=Zy hR;have PD:=Zy (show Ur W T (SS.new most width) [] []=some (S,l,m) by rw[Li,hdr];rfl);clear hR hI Li hdr hlt;obtain⟨us,hu,-⟩:=HR.out.ev;obtain⟨ya,yn,yc,rfl⟩:=hu.form;obtain⟨za,zn,zc,rfl⟩:=HR.out.sg.form;clear hu us;go_wp2;refine ZC (v:=.tuple #[.pointer (some ⟨B,0,none⟩),.slice ya yn yc,.slice za zn zc,.bool true]) QD6 rfl ?_;exact⟨HR.out.Xw,.inr ⟨HG.out,B,G,F,f,S,_,_,l,m,PD.out,rfl,HR.out⟩⟩
def xE:List Value:=[.slice none 0 0,.int .i64 0,.int .i64 0,.int .i64 0,.int .i64 0,.int .i64 0,.int .i64 0,.int .i64 0,.int .i64 0,.int .i64 0]++XB++[.int .i64 0,.slice none 0 0,.int .i64 0,.bool false,.slice none 0 0,.int .i64 0,.int .i64 0]
theorem Wm:xE.length=44:=rfl
abbrev YS:Obj:=.cells (Xo xE) 53
theorem CK(w:World):(Instr.alloc 53 true (.tuple #[])).run Tryz.prog w=.ok (.pointer (some ⟨w.heap.size,0,none⟩)) (w.alloc YS):=QX
theorem zS:(Tryz.prog.info? 53).map (·.size)=some 44:=QX
def zK(v:Value)(S:SS)(n:Nat)(r:Value):List Value:=[v,.int .i64 S.pos,.int .i64 S.mode,.int .i64 S.part.a,.int .i64 S.part.b,.int .i64 S.part.c,.int .i64 S.part.d,.int .i64 S.part.e,.int .i64 S.fk,.int .i64 S.fa]++XB++[.int .i64 (n:Int),.slice none 0 0,.int .i64 0,.bool S.over,r,.int .i64 S.rat,.int .i64 S.off]
theorem TI(v:Value)(S:SS)(n:Nat)(r:Value):(zK v S n r).length=44:=rfl
theorem Mx(a:Option Addr)(n c:Nat)(p md x0 x1 x2 x3 x4 fk fa:Int)(l:Int)(ov:Bool)(ra:Option Addr)(rn rc:Nat)(rat off:Int)(w:World):
  (Instr.build 53 #[(0,.agg #[.slice a n c,.int .i64 p]),(1,.int .i64 md),(2,.agg #[.int .i64 x0,.int .i64 x1,.int .i64 x2,.int .i64 x3,.int .i64 x4]),(3,.agg #[.int .i64 fk,.int .i64 fa]),(5,.int .i64 l),(8,.bool ov),(9,.agg #[.slice ra rn rc,.int .i64 rat]),(10,.int .i64 off)]).run Tryz.prog w
   =.ok (.agg (Xo ([.slice a n c,.int .i64 p,.int .i64 md,.int .i64 x0,.int .i64 x1,.int .i64 x2,.int .i64 x3,.int .i64 x4,.int .i64 fk,.int .i64 fa]++XB++[.int .i64 l,.slice none 0 0,.int .i64 0,.bool ov,.slice ra rn rc,.int .i64 rat,.int .i64 off]))) w:=QX
theorem O7(a:Option Addr)(n c:Nat)(S:SS)(l:Nat)(ra:Option Addr)(rn rc:Nat)(w:World):
  (Instr.build 53 #[(0,.agg #[.slice a n c,.int .i64 S.pos]),(1,.int .i64 S.mode),(2,.agg #[.int .i64 S.part.a,.int .i64 S.part.b,.int .i64 S.part.c,.int .i64 S.part.d,.int .i64 S.part.e]),(3,.agg #[.int .i64 S.fk,.int .i64 S.fa]),(5,.int .i64 (l:Int)),(8,.bool S.over),(9,.agg #[.slice ra rn rc,.int .i64 S.rat]),(10,.int .i64 S.off)]).run Tryz.prog w
   =.ok (.agg (Xo (zK (.slice a n c) S l (.slice ra rn rc)))) w:=Mx ..
theorem Vy{w:World}{R:Nat}(h:w.heap.size=R):XG (w.alloc YS) R xE 53:=by subst h;exact XG.new w xE _
theorem XG.Et{w:World}{B:Nat}(h:XG w B xE 53):w.there B 0 44:=fun j hj=>⟨by rw[XI,h.cell (by rw[Wm];exact hj)];rfl,h.free _⟩
theorem jr(a:Option Addr)(n c:Nat)(S:SS)(l:Nat)(ra:Option Addr)(rn rc:Nat):∀v∈zK (.slice a n c) S l (.slice ra rn rc),v.oneCell'=true:=fun v hv=>by
 simp[zK,XB]at hv;rcases hv with h|h|h|h|h|h|h|h|h|h|h|h|h|h|h|h|h|h<;>first|(rw[h];rfl)|(rw[h.2];rfl)
theorem BU{ops:Array Oper}{rest:List Oper}{op:Oper}{a:Act}{w:World}{Q:Exit->Act->World->Prop}{B:Nat}(hB:XG w B xE 53)(hgd:op.guard=none)(x y:Operand)(ho:op.op=.store 53 x y)
  (hx:a.eval x=.pointer (some ⟨B,0,none⟩)) (us:List Value) (hy:a.eval y=.agg (Xo us)) (hl:us.length=44) (h1:∀v∈us,v.oneCell'=true)
  (h:wpList Tryz.prog ops Q rest (a.put op.dst undef) (w.setCells B 0 us)):wpList Tryz.prog ops Q (op::rest) a w:=by
 refine wpList_store_mid hgd 53 x y ho B 0 (Xo us) hx hy ?_ (by rw[Yr,hl];exact zS) (Y6 h1) h;rw[Yr,hl];exact hB.Et
def LH(S:SS)(v:Value):List Value:=[v,.int .i64 S.pos,.int .i64 S.mode,.int .i64 S.part.a,.int .i64 S.part.b,.int .i64 S.part.c,.int .i64 S.part.d,.int .i64 S.part.e,.int .i64 S.fk,.int .i64 S.fa]
def lkC(S:SS)(r lv:Value)(n:Nat)(wh:Int):List Value:=[.int .i64 (n:Int),lv,.int .i64 wh,.bool S.over,r,.int .i64 S.rat,.int .i64 S.off]
def y8(S:SS)(v r lv:Value)(rr:List Value)(n:Nat)(wh:Int):List Value:=LH S v++rr++lkC S r lv n wh
section
variable {S:SS} {v r lv:Value} {rr:List Value} {n:Nat} {wh:Int}
theorem VY(hr:rr.length=27):(y8 S v r lv rr n wh).length=44:=by simp[y8,LH,lkC,hr]
theorem tJ(hr:rr.length=27){j:Nat}(hj:j<27)(x:Value):(y8 S v r lv rr n wh).set (10+j) x=y8 S v r lv (rr.set j x) n wh:=by
 unfold y8;rw[List.set_append,if_pos (by simp[LH,hr];omega),List.set_append,if_neg (by simp[LH])];simp[LH]
theorem QYE(hr:rr.length=27)(x:Value):(y8 S v r lv rr n wh).set 38 x=y8 S v r x rr n wh:=by
 unfold y8;rw[List.set_append,if_neg (by simp[LH,hr])];simp[LH,lkC,hr]
theorem QYC(hr:rr.length=27)(x:Int):(y8 S v r lv rr n wh).set 39 (.int .i64 x)=y8 S v r lv rr n x:=by
 unfold y8;rw[List.set_append,if_neg (by simp[LH,hr])];simp[LH,lkC,hr]
theorem Fs(hr:rr.length=27):vx (y8 S v r lv rr n wh) 38=lv:=by
 unfold vx y8;rw[Zg,XV (by simp[LH,hr])];simp[LH,lkC,hr]
theorem iQ(hr:rr.length=27){j:Nat}(hj:j<27):vx (y8 S v r lv rr n wh) (10+j)=vx rr j:=by
 unfold vx y8;rw[Zg,XM (by simp[LH,hr];omega),XV (by simp[LH])];simp[LH,Zg]
end
structure IQ (S:SS) (w1 wr:World) (R:Nat) (v r lv:Value) (rr vs:List Value) (j1 j2 n:Nat) (wh:Int):Prop where
 lo:w1.heap.size<=R
 blk:XG wr R (y8 S v r lv rr n wh) 53
 t:Own 3 w1.heap.size wr v S.text
 ro:Own 3 w1.heap.size wr r S.row
 lr:rr.length=27
 rg:∀i,i<j1->Own 3 w1.heap.size wr (vx rr i) (rx S.regs i)
 lv:Xc 22 w1.heap.size wr lv vs
 ll:vs.length=j2
 le:∀i,i<j2->Own 3 w1.heap.size wr (vx vs i) (rx S.XQ.ls i)
 Xw:Below w1.heap.size w1 wr
section
variable {S:SS} {w1 wr w':World} {R:Nat} {v r lv:Value} {rr vs:List Value} {j1 j2 n:Nat} {wh:Int}
theorem IQ.below(h:IQ S w1 wr R v r lv rr vs j1 j2 n wh)(hb:Below wr.heap.size wr w'):IQ S w1 w' R v r lv rr vs j1 j2 n wh:=
 {h with blk:=h.blk.Yc hb,t:=h.t.kept hb,ro:=h.ro.kept hb,rg:=fun i hi=>(h.rg i hi).kept hb,lv:=h.lv.kept hb,le:=fun i hi=>(h.le i hi).kept hb,Xw:=h.Xw.trans (hb.mono h.Xw.size)}
theorem Own.yM{w:World}{base B i:Nat}{u v:Value}{us:List Value}{xs:List Int}(h:Own 3 base w v xs)(hB:XG w B us 53):Own 3 base (w.setCell ⟨B,i,none⟩ u) v xs:=h.other (a:=⟨B,i,none⟩) (h.XP (show Za w B (Xo us) 53 from hB) QZ) u
theorem Xc.yM{w:World}{base B i:Nat}{u v:Value}{us vs:List Value}(h:Xc 22 base w v vs)(hB:XG w B us 53):Xc 22 base (w.setCell ⟨B,i,none⟩ u) v vs:=h.other (a:=⟨B,i,none⟩) (h.XP (show Za w B (Xo us) 53 from hB) QZ) u
theorem IQ.reg(h:IQ S w1 wr R v r lv rr vs j1 j2 n wh)(hj:j1<27){x:Value}(o:Own 3 w1.heap.size wr x (rx S.regs j1)):
  IQ S w1 (wr.setCell ⟨R,10+j1,none⟩ x) R v r lv (rr.set j1 x) vs (j1+1) j2 n wh:=
 {
  lo:=h.lo
  blk:=by rw[<-tJ h.lr hj];exact h.blk.set _ _
  t:=h.t.yM h.blk,ro:=h.ro.yM h.blk,lr:=by rw[YK];exact h.lr
  rg:=fun i hi=>by
   by_cases e:j1=i
   ·subst e;rw[YC (by rw[h.lr];exact hj)];exact o.yM h.blk
   ·rw[ZP e];exact(h.rg i QQ).yM h.blk
  lv:=h.lv.yM h.blk,ll:=h.ll,le:=fun i hi=>(h.le i hi).yM h.blk,Xw:=h.Xw.setCell h.lo _}
theorem Own.ltN{e e':TypeId}{base base':Nat}{w w':World}{v lv:Value}{vs:List Value}{xs:List Int}(h:Own e base w v xs)(hv:Xc e' base' w lv vs)(he:e'≠e)(hg:w.grownBy w' lv.ownBlock):Own e base w' v xs:=by
 refine h.moved fun k hk=>hg.block k (h.vz k hk) fun e2=>?_
 rcases h.2 with⟨h0,_⟩|⟨g,cap,cur,rfl,hb',hgg,rest⟩
 ·rw[h0]at hk;simp[Value.ownBlock]at hk
 ·simp only[Value.ownBlock,ZL]at hk
  subst hk;exact hv.XP (show Za w g cur _ from hgg) he e2
theorem IQ.line(h:IQ S w1 wr R v r lv rr vs j1 j2 n wh){x lv':Value}(o:Own 3 w1.heap.size wr x (rx S.XQ.ls j2))(hv:Xc 22 w1.heap.size w' lv' (vs++[x]))(hg:wr.grownBy w' lv.ownBlock):
  IQ S w1 (w'.setCell ⟨R,38,none⟩ lv') R v r lv' rr (vs++[x]) j1 (j2+1) n wh:=by
 have hB:XG w' R (y8 S v r lv rr n wh) 53:=h.blk.grown hg (h.lv.XP h.blk QZ);have hq:∀{x:Value} {xs:List Int},Own 3 w1.heap.size wr x xs->Own 3 w1.heap.size (w'.setCell ⟨R,38,none⟩ lv') x xs:=fun q=>(q.ltN h.lv QZ hg).yM hB
 exact {
  lo:=h.lo
  blk:=by rw[<-QYE (lv:=lv) h.lr];exact hB.set _ _
  t:=hq h.t,ro:=hq h.ro,lr:=h.lr,rg:=fun i hi=>hq (h.rg i hi)
  lv:=hv.yM hB,ll:=by rw[ZN,h.ll];rfl
  le:=fun i hi=>by
   by_cases e:i=j2
   ·subst e
    have:=h.ll;have e2:vx (vs++[x]) i=x:=by unfold vx;rw[Zg,XV QQ];simp[h.ll]
    rw[e2];exact hq o
   ·have e2:vx (vs++[x]) i=vx vs i:=by unfold vx;rw[Zg,XM (by have:=h.ll;omega),Zg]
    rw[e2];exact hq (h.le i QQ)
  Xw:=(h.Xw.grown hg h.Xw.size fun k hk=>h.lv.row k hk).setCell h.lo _}
theorem IQ.QUK(h:IQ S w1 wr R v r lv rr vs j1 j2 n wh)(x:Int):IQ S w1 (wr.setCell ⟨R,39,none⟩ (.int .i64 x)) R v r lv rr vs j1 j2 n x:=
 {h with blk:=by rw[<-QYC (wh:=wh) h.lr];exact h.blk.set _ _,t:=h.t.yM h.blk,ro:=h.ro.yM h.blk,rg:=fun i hi=>(h.rg i hi).yM h.blk,lv:=h.lv.yM h.blk,le:=fun i hi=>(h.le i hi).yM h.blk,Xw:=h.Xw.setCell h.lo _}
end
structure LkR (P:Nat->Prop) (w:World) (S:SS) (v r lv:Value) (rr:List Value):Prop where
 t:Yn P w v S.text
 ro:Yn P w r S.row
 lr:rr.length=27
 rg:∀i,i<27->Yn P w (vx rr i) (rx S.regs i)
 ls:∃vs,EM P w lv vs/\Yh P w vs S.XQ.ls
theorem LkR.keep{P Q:Nat->Prop}{w w':World}{S:SS}{v r lv:Value}{rr:List Value}(h:LkR P w S v r lv rr)(hc:Xv P w w')(hi:∀k,P k->Q k):LkR Q w' S v r lv rr:=by
 obtain⟨vs,h1,h2⟩:=h.ls;exact⟨(h.t.keep hc).imp hi,(h.ro.keep hc).imp hi,h.lr,fun i hj=>((h.rg i hj).keep hc).imp hi,⟨vs,(h1.keep hc).imp hi,h2.imp fun v xs g=>(g.keep hc).imp hi⟩⟩
theorem IQ.fin{S:SS}{w1 wr:World}{R:Nat}{v r lv:Value}{rr vs:List Value}{n:Nat}{wh:Int}(h:IQ S w1 wr R v r lv rr vs 27 S.XQ.ls.length n wh):LkR (fun k=>w1.heap.size<=k) wr S v r lv rr:=
 ⟨h.t.uX,h.ro.uX,h.lr,fun i hi=>(h.rg i hi).uX,⟨vs,h.lv.vsp,h.ll,fun i hi=>(h.le i hi).uX⟩⟩
def Hu(S:SS)(w:World)(e:Ending)(w':World):Prop:=∃v r lv rr,e=.returned (.agg (Xo (y8 S v r lv rr S.past.length S.XQ.Zm)))/\LkR (fun k=>w.heap.size<=k) w' S v r lv rr/\Below w.heap.size w w'
theorem lkQ{S:SS}{w1 w8:World}{v r:Value}{n R:Nat}(hR:XG w8 R xE 53)(hlo:w1.heap.size<=R)(o5:Own 3 w1.heap.size w8 v S.text)(o8:Own 3 w1.heap.size w8 r S.row)(Uq:Below w1.heap.size w1 w8):
  IQ S w1 (w8.setCells R 0 (zK v S n r)) R v r (.slice none 0 0) XB [] 0 0 n 0:=by
 have h2:=hR.setCells 0 (zK v S n r);rw[V5 (by rw[Wm,TI])]at h2;have hk:∀k,k≠R->(w8.setCells R 0 (zK v S n r)).heap[k]? =w8.heap[k]?:=fun k hk=>(YO _ _ 0).1 k hk
 have hne:∀{x:Value} {xs:List Int},Own 3 w1.heap.size w8 x xs->∀k,x.ownBlock=some k->k≠R:=fun q k e1 e2=>q.XP hR QZ (by rw[e1,e2])
 exact⟨hlo,h2,o5.moved fun k e=>hk k (hne o5 k e),o8.moved fun k e=>hk k (hne o8 k e),rfl,fun i hi=>QQ,Xc.nil _ _ _,rfl,fun i hi=>QQ,below_setCells hlo _ 0 Uq⟩
theorem Wj{o:Oper}{e:Operand->Value}(x0 x1 x2 x3 x5 x8 x9 bD:Operand)(ho:o.op=.build 53 #[(0,x0),(1,x1),(2,x2),(3,x3),(5,x5),(8,x8),(9,x9),(10,bD)])
  (a0:Option Addr) (n c:Nat) (S:SS) (l:Nat) (ra:Option Addr) (rn rc:Nat) (h0:e x0=.agg #[.slice a0 n c,.int .i64 S.pos]) (h1:e x1=.int .i64 S.mode) (h2:e x2=.agg #[.int .i64 S.part.a,.int .i64 S.part.b,.int .i64 S.part.c,.int .i64 S.part.d,.int .i64 S.part.e]) (h3:e x3=.agg #[.int .i64 S.fk,.int .i64 S.fa])
  (h5:e x5=.int .i64 (l:Int)) (h8:e x8=.bool S.over) (h9:e x9=.agg #[.slice ra rn rc,.int .i64 S.rat]) (h10:e bD=.int .i64 S.off) (w:World):(execOp e o).run Tryz.prog w=.ok (.value (.agg (Xo (zK (.slice a0 n c) S l (.slice ra rn rc))))) w:=by
 have hm:(#[(0,x0),(1,x1),(2,x2),(3,x3),(5,x5),(8,x8),(9,x9),(10,bD)]:Array (Nat×Operand)).map (fun(i,x)=>(i,e x))=#[(0,.agg #[.slice a0 n c,.int .i64 S.pos]),(1,.int .i64 S.mode),(2,.agg #[.int .i64 S.part.a,.int .i64 S.part.b,.int .i64 S.part.c,.int .i64 S.part.d,.int .i64 S.part.e]),(3,.agg #[.int .i64 S.fk,.int .i64 S.fa]),(5,.int .i64 (l:Int)),(8,.bool S.over),(9,.agg #[.slice ra rn rc,.int .i64 S.rat]),(10,.int .i64 S.off)]:=by
  simp[h0,h1,h2,h3,h5,h8,h9,h10]
 unfold execOp;simp only[ho,hm,Sem.run_bind,O7 a0 n c S l ra rn rc w,Y4];rfl
theorem V8{o:Oper}{a:Act}{w:World}{K:Act->World->Prop}{Q:Exit->Act->World->Prop}(ho:o.op=.alloc 53)(h:K (a.put o.dst (.pointer (some ⟨w.heap.size,0,none⟩))) (w.alloc YS)):o.wp Tryz.prog a w K Q:=by
 unfold Oper.wp execOp;simp only[ho,Sem.run_bind,CK,Y4];exact h
theorem V7{o:Oper}{a:Act}{w:World}{K:Act->World->Prop}{Q:Exit->Act->World->Prop}(x y:Operand)(ho:o.op=.store 53 x y)
  (B:Nat) (hx:a.eval x=.pointer (some ⟨B,0,none⟩)) (us:List Value) (hy:a.eval y=.agg (Xo us)) (ht:w.there B 0 44) (hl2:us.length=44) (h1:∀v∈us,v.oneCell'=true)
  (h:K (a.put o.dst undef) (w.setCells B 0 us)):o.wp Tryz.prog a w K Q:=
 wp_store_mid 53 x y ho B 0 (Xo us) hx hy (by rw[Yr,hl2];exact ht) (by rw[Yr,hl2];exact zS) (Y6 h1) h
theorem Ad(vs:List Value)(hx:vs.length=27)(k:Nat)(hk:k<27)(w:World):
  (Instr.index 48 (.agg (Xo vs)) (.int .i64 (k:Int))).run Tryz.prog w=.ok (vx vs k) w:=by
 obtain⟨i0,hi0,hz0,hz1,hz2⟩:=XR jQ;have hagg:∀w,(isAgg 22).run Tryz.prog w=.ok false w:=by
  intro w;unfold isAgg;rw[Sem.run_bind,Y1 Tryz.underlying22 w];simp[go_sem]
 have hl:k<vs.length:=QQ;simp[Instr.index,Xo,Y1 J6,asIntOf,sizeOf,typeInfo,hi0,hz1,go_sem,hagg,Z8 hl,VB hl];omega
theorem fJ{ops:Array Oper}{rest:List Oper}{op:Oper}{a:Act}{w:World}{Q:Exit->Act->World->Prop}(hgd:op.guard=none)(x:Operand)(ho:op.op=.load 48 x)
  (B o:Nat) (hx:a.eval x=.pointer (some ⟨B,o,none⟩)) (vs:List Value) (hB:w.rangeAt B o vs) (hl:vs.length=27)
  (h:wpList Tryz.prog ops Q rest (a.put op.dst (.agg (Xo vs))) w):wpList Tryz.prog ops Q (op::rest) a w:=
 wpList_load_mid hgd 48 x ho B o hx vs _ hB J6 rfl (by rw[hl];exact JF) h
theorem II:(Tryz.prog.underlying 53).map TypeDesc.isRow=some true:=QX
theorem AV:∃d,Tryz.prog.underlying 53=some d/\d.isRow=true:=by
 have h:=II;cases hu:Tryz.prog.underlying 53 with
 | none=>rw[hu]at h;cases h
 | some d=>rw[hu]at h;exact⟨d,rfl,QDA⟩
theorem TH{ops:Array Oper}{rest:List Oper}{op:Oper}{a:Act}{w:World}{Q:Exit->Act->World->Prop}(hgd:op.guard=none)(x:Operand)(ho:op.op=.load 53 x)
  (B:Nat) (hx:a.eval x=.pointer (some ⟨B,0,none⟩)) (vs:List Value) (e:TypeId) (hB:XG w B vs e) (hl:vs.length=44)
  (h:wpList Tryz.prog ops Q rest (a.put op.dst (.agg (Xo vs))) w):wpList Tryz.prog ops Q (op::rest) a w:=by
 obtain⟨d,hu,hd⟩:=AV;exact wpList_load_mid hgd 53 x ho B 0 hx vs d (zX hB) hu hd (by rw[hl];exact zS) h
theorem Fp{w:World}{B:Nat}{vs:List Value}{e:TypeId}(hB:XG w B vs e)(hl:vs.length=44):(loadVar 53 ⟨B,0,none⟩).run Tryz.prog w=.ok (.agg (Xo vs)) w:=by
 obtain⟨d,hu,hd⟩:=AV;exact run_loadVar_mid w B 0 53 vs d (zX hB) hu hd (by rw[hl];exact zS)
theorem tK{S:SS}{v r lv:Value}{rr:List Value}{n:Nat}{wh:Int}(h1:v.oneCell'=true)(h2:r.oneCell'=true)(h3:lv.oneCell'=true)(h4:∀x∈rr,x.oneCell'=true):∀x∈y8 S v r lv rr n wh,x.oneCell'=true:=fun x hx=>by
 unfold y8 at hx;simp only[XO]at hx;rcases hx with(hx|hx)|hx
 ·simp only[LH,Zb,ZO,or_false]at hx
  rcases hx with h|h|h|h|h|h|h|h|h|h<;>(rw[h];first|rfl|assumption)
 ·exact h4 x hx
 ·simp only[lkC,Zb,ZO,or_false]at hx
  rcases hx with h|h|h|h|h|h|h<;>(rw[h];first|rfl|assumption)
theorem LkR.one{P:Nat->Prop}{w:World}{S:SS}{v r lv:Value}{rr:List Value}{n:Nat}{wh:Int}(h:LkR P w S v r lv rr):∀x∈y8 S v r lv rr n wh,x.oneCell'=true:=by
 obtain⟨vs,⟨a,k,c,e,-⟩,-⟩:=h.ls;refine tK h.t.one h.ro.one QDz fun x hx=>?_
 obtain⟨i,hi,e⟩:=XN.1 hx;rw[<-e,<-VB hi];exact(h.rg i (by rw[<-h.lr];exact hi)).one
theorem ig{h:Hi}(he:jF h=0):h.ls.length<=50/\∀i,i<h.ls.length->(rx h.ls i).length<=200:=by
 unfold jF at he;by_cases h1:h.most<1\/50<h.most\/h.most<h.ls.length\/h.Zm<0\/(h.ls.length:Int)<h.Zm
 ·rw[if_pos h1]at he;cases he
 ·rw[if_neg h1]at he
  refine⟨QQ,fun i hi=>?_⟩;by_cases h2:(h.ls.any Ke || Ke h.XU || Ke h.pat)=true
  ·rw[if_pos h2]at he;cases he
  ·have h3:¬Ke (rx h.ls i)=true:=fun e=>h2 (by
    have:h.ls.any Ke=true:=List.any_eq_true.2 ⟨_,NP hi,e⟩;rw[this];rfl)
   simpa[Ke]using h3
end Go.Proofs.YtmdnepkekekncaaGreat
