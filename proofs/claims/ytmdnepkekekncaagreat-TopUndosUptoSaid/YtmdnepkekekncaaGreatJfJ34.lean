/- joined, no condition of its own. -/
import Derived.Test.YtmdnepkekekncaaGreatJfJ33
set_option linter.unusedVariables false
set_option linter.unusedSimpArgs false
set_option maxRecDepth 100000
set_option maxHeartbeats 12000000
namespace Go.Proofs.YtmdnepkekekncaaGreat
open Go.RowKit
theorem HF.cell{F G:Nat->Prop}{w:World}{B:Nat}{f:Nat->Value}{S:SS}(h:HF F G w B f S)(i:Nat)(hi:i<58:=by omega):w.cell? ⟨B,i,none⟩=some (f i):=h.m.blk.cell hi
theorem HF.free{F G:Nat->Prop}{w:World}{B:Nat}{f:Nat->Value}{S:SS}(h:HF F G w B f S)(i:Nat):w.frozen? ⟨B,i,none⟩=false:=h.m.blk.free i
theorem HF.vz{F G:Nat->Prop}{w:World}{B:Nat}{f:Nat->Value}{S:SS}(h:HF F G w B f S):B<w.heap.size:=h.lt _ h.m.gB
theorem NY(F G:Nat->Prop)(B:Nat)(S:SS)(a:Option Addr)(m c:Nat)(t:List Int)(p:Int)(w:World)(h:YF F G w B S)(hs:Sl w (.slice a m c) t)(hm:m<=4096):
  Calls Tryz.prog 78 #[.pointer (some ⟨B,0,none⟩),.agg #[.slice a m c,.int .i64 p]] w (VP F G w B (S.set t p) YM):=by
 obtain⟨f,hf⟩:=h;have hR:=Za.new w #[.slice a m c,.int .i64 p] 42;have hb:=ZR w (.cells #[.slice a m c,.int .i64 p] 42);have HT:=Zy (fZ a m c t _ hm (hs.below hb));have hA:=(At.begin hf).below hb;have HA:=Zy hA;have HB:=Zy hb;have hBl:B<w.heap.size:=hf.vz;obtain⟨y0,y1,-,-⟩:=hR.two;have HR:=Zy hR;clear hf hA hR hs hm hb;go_enter Tryz.func78,Tryz.ntmps78
 go_wp2_with fail
 refine HT.out.mono ?_;rintro e w2 ⟨q,rfl,hT,hb2⟩;have hA2:=HA.out.below hb2;obtain⟨y02,y12,-,-⟩:=(HR.out.below hb2 HR.out.lt).two;have c0:=hA2.hf.cell 0;have z0:=hA2.hf.free 0;have c1:=hA2.hf.cell 1;have z1:=hA2.hf.free 1;have HA2:=Zy hA2;have HT2:=Zy hT;clear hA2 hT hb2;go_wp2
 go_end0
 have hA3:=HA2.out.store (S':={S with text:=t}) 0 (.pointer q) {HA2.out.hf.d with text:=HT2.out.lt.keep (Xv.refl _ _) (fun k hk=>Fx.new k hk)};exact⟨rfl,(hA3.store (S':=S.set t p) 1 (.int .i64 p) {hA3.hf.d with pos:=rfl}).done⟩
def QWH(S:SS)(w:World)(e:Ending)(w':World):Prop:=∃v,e=.returned (.agg #[v,.int .i64 S.pos])/\Own 3 w.heap.size w' v S.text/\Below w.heap.size w w'
theorem Wd.list{F:Nat->Prop}{w:World}{p:Option Addr}{l:List Int}(h:Wd F w (.pointer p) l)(hl:l.length<=10000):Calls Tryz.prog 51 #[.agg #[.pointer p]] w (zw l w):=by
 obtain⟨T,h1,rfl⟩:=h;exact TZ p T w h1.tree hl
theorem Ed(F G:Nat->Prop)(B:Nat)(S:SS)(w:World)(h:YF F G w B S)(hl:S.text.length<=10000):
  Calls Tryz.prog 30 #[.pointer (some ⟨B,0,none⟩)] w (QWH S w):=by
 obtain⟨f,hf⟩:=h;have hb:=ZR w (.cells #[.slice none 0 0,.int .i64 0] 42);have hR:=Za.new w #[.slice none 0 0,.int .i64 0] 42;have hz:w.heap.size<(w.alloc (.cells #[.slice none 0 0,.int .i64 0] 42)).heap.size:=QJ;generalize hW:(w.alloc (.cells #[.slice none 0 0,.int .i64 0] 42))=W at hb hR hz;have hA:=(At.begin hf).JA hb;obtain⟨p,hp⟩:=hf.d.text.ptr;have c0:=hA.hf.cell 0;have c1:=hA.hf.cell 1;rw[hp]at c0;rw[hA.hf.d.pos]at c1;have htx:=hA.hf.d.text;rw[hp]at htx;have HT:=Zy (Wd.list (w:=W.drew) (htx.keep (F:=F) (G:=F) (fun _ _ _ h=>h) (fun _ h=>h)) hl);have HB:=Zy hb;have HR:=Zy hR;have HW:=Zy hW;clear hf hA hR hb hp htx hl hW;go_enter Tryz.func30,Tryz.ntmps30
 go_upto_region 1 with fail
 rw[HW.out]
 go_cut [2] (fun r wx=>r=.pointer (some ⟨w.heap.size,0,none⟩)/\∃v,wx.cell? ⟨w.heap.size,0,none⟩=some v/\wx.cell? ⟨w.heap.size,1,none⟩=some (.int .i64 S.pos)/\Own 3 w.heap.size wx v S.text/\Below w.heap.size w wx)
 case first=>
  go_region_law (first|(go_simp;go_at_call 51;refine HT.out.mono ?_;rintro e w2 ⟨v,rfl,o2,hb2⟩;have c12:=Zd (w:=W.drew) hb2 _ _ c1;obtain⟨y0,y1,z0,z1⟩:=(HR.out.below (w:=W.drew) hb2 (HR.out.lt)).two;have yj:=Zy o2;have HB2:=Zy hb2;clear o2 hb2;obtain⟨a2,n2,c2,rfl⟩:=yj.out.form))
  all_goals
  have hB2:=HR.out.below (w:=W.drew) HB2.out HR.out.lt;obtain⟨k0,k1,-,-⟩:=((hB2.set 0 (.slice a2 n2 c2)).set 1 (.int .i64 S.pos)).two;have o2:Own 3 w.heap.size w2 (.slice a2 n2 c2) S.text:=Own.mono yj.out (Xh hz);have o3:=o2.other (a:=⟨w.heap.size,0,none⟩) (fun e=>by have:=yj.out.row _ e.symm;simp at this;omega) (.slice a2 n2 c2);have o4:=o3.other (a:=⟨w.heap.size,1,none⟩) (fun e=>by have:=yj.out.row _ e.symm;simp at this;omega) (.int .i64 S.pos);have hb4:=(((ZE HB.out.drew (Xh hz) HB2.out).setCell (p:=⟨w.heap.size,0,none⟩) (ZB _) (.slice a2 n2 c2)).setCell (p:=⟨w.heap.size,1,none⟩) (ZB _) (.int .i64 S.pos));go_wp2;go_meet;exact⟨rfl,_,k0,k1,o4,hb4⟩
 case rest=>
  obtain⟨rfl,v,k0,k1,o4,hb4⟩:=hcut;obtain⟨a4,n4,c4,rfl⟩:=o4.form;go_wp2;refine ZC (v:=.agg #[.slice a4 n4 c4,.int .i64 S.pos]) (by simp[results,Tryz.results30,go_sem,k0,k1]) rfl ?_;exact⟨_,rfl,o4,hb4⟩
theorem jq{P Q:Prop}(h:P)(k:P->Q):Q:=k h
theorem X0.Yf{w:World}{a:Option Addr}{es:List V2}{o:Obj}(h:X0 w a es):X0 (w.alloc o) a es:=h.keep (Zd (ZR _ _))
theorem X0.J2{w:World}{a:Option Addr}{es:List V2}(h:X0 w a es):X0 w.drew a es:=h.keep (fun _ _ h=>h)
theorem X0.Yc{w w':World}{a:Option Addr}{es:List V2}(hb:Below w.heap.size w w')(h:X0 w a es):X0 w' a es:=h.keep (Zd hb)
theorem Ar{w:World}{B:Nat}{x y:Value}{T:TypeId}(hB:w.heap.size=B):X0 (w.alloc (.cells #[x,y] T)) (some ⟨B,0,none⟩) [⟨x,y⟩]:=by
 subst hB;exact LK (Za.new _ _ _)
theorem Za.Yf{w:World}{B:Nat}{cs:Array Value}{e:TypeId}{o:Obj}(h:Za w B cs e):Za (w.alloc o) B cs e:=h.alloc o
theorem Za.J2{w:World}{B:Nat}{cs:Array Value}{e:TypeId}(h:Za w B cs e):Za w.drew B cs e:=h
theorem Za.Yc{w w':World}{B:Nat}{cs:Array Value}{e:TypeId}(hb:Below w.heap.size w w')(h:Za w B cs e):Za w' B cs e:=h.below hb h.lt
theorem Jy{w:World}{B:Nat}{cs:Array Value}{e:TypeId}(hB:w.heap.size=B):Za (w.alloc (.cells cs e)) B cs e:=by
 subst hB;exact Za.new _ _ _
theorem Xd.Yf{T:TypeId}{base:Nat}{w:World}{v:Value}{es:List V2}{o:Obj}(h:Xd T base w v es):Xd T base (w.alloc o) v es:=h.alloc o
theorem Xd.xm{T:TypeId}{base:Nat}{w w':World}{v:Value}{es:List V2}{B:Nat}{cs:Array Value}{e:TypeId}(h:Xd T base w v es)(hg:w.grownBy w' v.ownBlock)(hne:T≠e)(hB:Za w B cs e):Za w' B cs e:=
 hB.grown hg (h.XP hB hne)
theorem Zp.alloc{a w:World}{o:Obj}(h:Below a.heap.size a w):Below a.heap.size a (w.alloc o):=h.alloc h.size o
theorem Zp.drew{a w:World}(h:Below a.heap.size a w):Below a.heap.size a w.drew:=h.drew
theorem Zp.call{a w w':World}(hb:Below w.heap.size w w')(h:Below a.heap.size a w):Below a.heap.size a w':=ZE h h.size hb
theorem Zp.set{a w:World}{B i:Nat}{u:Value}(hB:a.heap.size<=B)(h:Below a.heap.size a w):Below a.heap.size a (w.setCell ⟨B,i,none⟩ u):=h.setCell hB u
theorem Zp.Qzz{T:TypeId}{a w w':World}{v:Value}{es:List V2}(o:Xd T a.heap.size w v es)(hg:w.grownBy w' v.ownBlock)(h:Below a.heap.size a w):Below a.heap.size a w':=h.grown hg h.size o.row
theorem Zp.own{T:TypeId}{a w w':World}{v:Value}{es:List Int}(o:Own T a.heap.size w v es)(hg:w.grownBy w' v.ownBlock)(h:Below a.heap.size a w):Below a.heap.size a w':=h.grown hg h.size o.row
theorem Xd.AP{T:TypeId}{base:Nat}{w:World}{v:Value}{es:List V2}{B:Nat}{cs:Array Value}{e:TypeId}(h:Xd T base w v es)(hB:Za w B cs e)(hne:T≠e)(i:Nat)(u:Value):Xd T base (w.setCell ⟨B,i,none⟩ u) v es:=
 h.moved fun k hk=>Zl _ _ _ _ fun e=>h.XP hB hne (by have e2:k=B:=e;rw[<-e2];exact hk.symm)
theorem kW:(Tryz.prog.info? 83).map (fun i=>(i.zero,i.size,i.bytes))=some (some (.agg #[.pointer none,.int .i64 0]),2,16):=QX
theorem Dw(w:World)(base:Nat)(T:TypeId)(hb:base<=w.heap.size):Xd T base (w.alloc (.cells #[] T)) (.slice (some ⟨w.heap.size,0,none⟩) 0 0) []:=
 World.ownsRow_made w #[] 0 hb Qg rfl
def ML(es:List V2):Prop:=∀u∈es,V2.ok u
def Qxw(es:List V2)(w:World)(e:Ending)(w':World):Prop:=∃v,e=.returned v/\Xd 83 w.heap.size w' v es/\Below w.heap.size w w'
theorem xH(a:Option Addr)(n c:Nat)(es:List V2)(w:World)(ha:X0 w a es)(hok:ML es)(hn:es.length=n)(hl:n<=1000000)(h0:a=none->n=0):
  Calls Tryz.prog 157 #[.slice a n c] w (Qxw es w):=by
 have he:=fun(w:World) (n' c':Nat)=>Lib.run_eql_slice_nil (P:=Tryz.prog) w 86 83 a n c n' c' Tryz.underlying86
 rcases a with _|ad
 ·obtain rfl:n=0:=h0 rfl
  obtain rfl:es=[]:=ZM hn;clear hn h0 ha hok;go_enter Tryz.func157,Tryz.ntmps157
  go_wp2;go_ret;exact⟨_,rfl,Xd.nil _ _ _,ZH _ _⟩
 ·have HN:=Zy hn;have HA:=Zy ha;have HO:=Zy hok
  clear hn h0 ha hok;go_enter Tryz.func157,Tryz.ntmps157
  go_wp2_with (at_builtin;refine gX (T:=83) (ST:=86) Tryz.underlying86 kW rfl QZ rfl _ _ rfl w.heap.size _ [] es ad n c rfl rfl (Dw w w.heap.size _ (ZB _)) (X0.keep HA.out (Zd (ZR _ _))) HO.out HN.out QY QJ ?_;intro v1 w1 hown1 hgrow1)
  go_ret;exact⟨v1,rfl,by simpa using hown1,(ZR w _).grown hgrow1 QJ (Dw w w.heap.size 83 (ZB _)).row⟩
theorem QX5{W w2:World}{N:Nat}{v:Value}{es:List V2}(hN:W.heap.size<=N)(hH:Za w2 N #[.slice none 0 0,.slice none 0 0] 88)(o:Xd 83 W.heap.size w2 v es)(hB:Below W.heap.size W w2):
  Za ((w2.setCell ⟨N,0,none⟩ v).setCell ⟨N,1,none⟩ (.slice none 0 0)) N #[v,.slice none 0 0] 88/\Xd 83 W.heap.size ((w2.setCell ⟨N,0,none⟩ v).setCell ⟨N,1,none⟩ (.slice none 0 0)) v es/\Below W.heap.size W ((w2.setCell ⟨N,0,none⟩ v).setCell ⟨N,1,none⟩ (.slice none 0 0)):=
 ⟨(hH.set 0 v).set 1 (.slice none 0 0),(o.AP hH QZ _ _).AP (hH.set 0 v) QZ _ _,Zp.set hN (Zp.set hN hB)⟩
def Qx9(es:List V2)(w:World)(e:Ending)(w':World):Prop:=∃v,e=.returned (.agg #[v,.slice none 0 0])/\Xd 83 w.heap.size w' v es/\Below w.heap.size w w'
theorem rC(a:Option Addr)(n c:Nat)(es:List V2)(p:Option Addr)(q:Int)(w:World)(ha:X0 w a es)(hok:ML es)(hn:es.length=n)(hl:n<=30)(h0:a=none->n=0):
  Calls Tryz.prog 146 #[.agg #[.slice a n c,.slice none 0 0],.int .i64 30,.agg #[.pointer p,.int .i64 q]] w (Qx9 ((es++[(⟨.pointer p,.int .i64 q⟩:V2)]).drop (n+1-30)) w):=by
 have hB0:=((Za.new w #[.slice a n c,.slice none 0 0] 88).alloc (.cells #[.pointer p,.int .i64 q] 83)).alloc (.cells #[.slice none 0 0,.slice none 0 0] 88);have hB1:=(Za.new (w.alloc (.cells #[.slice a n c,.slice none 0 0] 88)) #[.pointer p,.int .i64 q] 83).alloc (.cells #[.slice none 0 0,.slice none 0 0] 88);have hB2:=Za.new ((w.alloc (.cells #[.slice a n c,.slice none 0 0] 88)).alloc (.cells #[.pointer p,.int .i64 q] 83)) #[.slice none 0 0,.slice none 0 0] 88;have hb:=yY w (.cells #[.slice a n c,.slice none 0 0] 88) (.cells #[.pointer p,.int .i64 q] 83) (.cells #[.slice none 0 0,.slice none 0 0] 88);rw[Zu]at hB1;rw[Zu,Zu]at hB2;have hz:w.heap.size+3=(((w.alloc (.cells #[.slice a n c,.slice none 0 0] 88)).alloc (.cells #[.pointer p,.int .i64 q] 83)).alloc (.cells #[.slice none 0 0,.slice none 0 0] 88)).heap.size:=by simp only[Zu]
 generalize hW:(((w.alloc (.cells #[.slice a n c,.slice none 0 0] 88)).alloc (.cells #[.pointer p,.int .i64 q] 83)).alloc (.cells #[.slice none 0 0,.slice none 0 0] 88))=W at hB0 hB1 hB2 hb hz;obtain⟨c00,c01,-,-⟩:=hB0.two;obtain⟨c10,c11,-,-⟩:=hB1.two;have HA:=Zy (ha.keep (Zd hb));have HO:=Zy hok;have HN:=Zy hn;have H0:=Zy h0;have HZ:=Zy hz;have HB:=Zy hb;have HB1:=Zy hB1;have HB2:=Zy hB2;have HW:=Zy hW;have hzl:w.heap.size+2<W.heap.size:=QQ;clear ha hok hn h0 hz hb hB0 hB1 hB2 hW;go_enter Tryz.func146,Tryz.ntmps146
 go_upto_region 1 with fail
 rw[HW.out];have oL:X0 W a es:=HA.out;have QvC:w.heap.size+1<W.heap.size:=QQ;have Qj2:w.heap.size<W.heap.size:=QQ;have hX0:Za W (w.heap.size+1) #[.pointer p,.int .i64 q] 83:=HB1.out
 go_cut [7] (fun r wx=>∃N v,r=.pointer (some ⟨N,0,none⟩)/\W.heap.size<=N/\Za wx N #[v,.slice none 0 0] 88/\Xd 83 W.heap.size wx v (es++[(⟨.pointer p,.int .i64 q⟩:V2)])/\Below W.heap.size W wx)
 case first=>
  go_region_law (first|(go_simp;go_at_call 157;refine(xH a n c es _ ?_ HO.out HN.out QQ H0.out).mono ?_;(·repeat' (first|(with_reducible exact oL)|(with_reducible refine X0.J2 ?_)|(with_reducible refine X0.Yf ?_)));rintro e w1 ⟨v1,rfl,o1,hb1⟩;obtain⟨a1,n1,c1,rfl⟩:=o1.form;have hX1:Za w1 (w.heap.size+1) #[.pointer p,.int .i64 q] 83:=(by repeat' (first|(with_reducible exact hX0)|(with_reducible refine Za.Yc hb1 ?_)|(with_reducible refine Za.J2 ?_)|(with_reducible refine Za.Yf ?_)));obtain⟨d10,d11,-,-⟩:=hX1.two;have hs1:W.heap.size<=w1.heap.size:=(by have:=hb1.size;simp at this;omega);have hlt1:w.heap.size+1<w1.heap.size:=QQ;have hBW1:Below W.heap.size W w1:=(by refine Zp.call hb1 ?_;repeat' (first|(with_reducible exact ZH _ _)|(with_reducible refine Zp.alloc ?_)|(with_reducible refine Zp.drew ?_))))|(refine SI (T:=83) (ST:=86) Tryz.underlying86 kW rfl QZ (by simp[Region.wanted]) (.tmp 11) (.tmp 13) rfl W.heap.size _ es [(⟨.pointer p,.int .i64 q⟩:V2)] _ 1 1 rfl rfl ?_ ?_ (fun u hu=>QEG) rfl QB (by first|omega|(simp;omega)) QZ ?_;(·repeat' (first|((with_reducible refine Xd.mono o1 ?_);(simp;try omega);done)|(with_reducible refine Xd.Yf ?_)));(·repeat' (first|((with_reducible refine Ar ?_);(simp;done))|(with_reducible refine X0.Yc hb1 ?_)|(with_reducible refine X0.J2 ?_)|(with_reducible refine X0.Yf ?_)));intro v2 w2 o2 hg2 Qve;obtain⟨a2,n2,c2,rfl⟩:=o2.form;(first|(refine jq (P:=Za w2 (w1.heap.size+1) #[.slice none 0 0,.slice none 0 0] 88) ?_ ?_;(·(refine Xd.xm (T:=83) (base:=0) (es:=es) (v:=.slice a1 n1 c1) ?_ hg2 QZ ?_);(·repeat' (first|((with_reducible refine Xd.mono o1 ?_);(exact Z4 _))|(with_reducible refine Xd.Yf ?_)));(·repeat' (first|((with_reducible refine Jy ?_);(simp;done))|(with_reducible refine Za.Yc hb1 ?_)|(with_reducible refine Za.J2 ?_)|(with_reducible refine Za.Yf ?_))));intro hH;obtain⟨k0,k1,k2,k3⟩:=hH.two)|(refine jq (P:=Za w2 (w1.heap.size) #[.slice none 0 0,.slice none 0 0] 88) ?_ ?_;(·(refine Xd.xm (T:=83) (base:=0) (es:=es) (v:=.slice a1 n1 c1) ?_ hg2 QZ ?_);(·repeat' (first|((with_reducible refine Xd.mono o1 ?_);(exact Z4 _))|(with_reducible refine Xd.Yf ?_)));(·repeat' (first|((with_reducible refine Jy ?_);(simp;done))|(with_reducible refine Za.Yc hb1 ?_)|(with_reducible refine Za.J2 ?_)|(with_reducible refine Za.Yf ?_))));intro hH;obtain⟨k0,k1,k2,k3⟩:=hH.two)|(refine jq (P:=Za w2 (W.heap.size+1) #[.slice none 0 0,.slice none 0 0] 88) ?_ ?_;(·(refine Xd.xm (T:=83) (base:=0) (es:=es) (v:=.slice a1 n1 c1) ?_ hg2 QZ ?_);(·repeat' (first|((with_reducible refine Xd.mono o1 ?_);(exact Z4 _))|(with_reducible refine Xd.Yf ?_)));(·repeat' (first|((with_reducible refine Jy ?_);(simp;done))|(with_reducible refine Za.Yc hb1 ?_)|(with_reducible refine Za.J2 ?_)|(with_reducible refine Za.Yf ?_))));intro hH;obtain⟨k0,k1,k2,k3⟩:=hH.two)|(refine jq (P:=Za w2 (W.heap.size) #[.slice none 0 0,.slice none 0 0] 88) ?_ ?_;(·(refine Xd.xm (T:=83) (base:=0) (es:=es) (v:=.slice a1 n1 c1) ?_ hg2 QZ ?_);(·repeat' (first|((with_reducible refine Xd.mono o1 ?_);(exact Z4 _))|(with_reducible refine Xd.Yf ?_)));(·repeat' (first|((with_reducible refine Jy ?_);(simp;done))|(with_reducible refine Za.Yc hb1 ?_)|(with_reducible refine Za.J2 ?_)|(with_reducible refine Za.Yf ?_))));intro hH;obtain⟨k0,k1,k2,k3⟩:=hH.two)|skip);have QJx:Below W.heap.size W w2:=(by(refine Zp.Qzz (T:=83) (es:=es) (v:=.slice a1 n1 c1) ?_ hg2 ?_);(·repeat' (first|((with_reducible refine Xd.mono o1 ?_);(simp;try omega);done)|(with_reducible refine Xd.Yf ?_)));(·repeat' (first|(with_reducible exact hBW1)|(with_reducible refine Zp.alloc ?_)|(with_reducible refine Zp.drew ?_))))))
  all_goals
   dsimp only[Act.put,Exit.then]
   (repeat go_step)
   go_meet;first|exact⟨_,_,rfl,QJx.size,Za.new _ _ _,o2.Yf,Zp.alloc QJx⟩|exact⟨_,_,rfl,QQ,QX5 QQ hH o2 QJx⟩
 case rest=>
  obtain⟨N,v,rfl,hN,hBN,o2,hb2⟩:=hcut;obtain⟨wz,hWe⟩:∃W5,W5=wc:=⟨_,rfl⟩;subst hWe;have hb3:Below w.heap.size w wz:=ZE HB.out QQ hb2;have hR:=HB2.out.below hb2 HB2.out.lt;obtain⟨a2,n2,c2,rfl⟩:=o2.form;obtain⟨g1,g2,g3,g4,g5⟩:=o2.bM.get;rw[ZN,HN.out]at g1;have g1:n+1=n2:=by simpa using g1
  subst g1;obtain⟨ad,rfl⟩:∃ad,a2=some ad:=by
   rcases a2 with _|ad
   ·exact absurd (g5 rfl) QQ
   ·exact⟨ad,rfl⟩
  clear c00 c01 c10 c11;obtain⟨d0,d1,f0,f1⟩:=hBN.two;obtain⟨r0,r1,q0,q1⟩:=hR.two;have HG4:=Zy g4;have yj:=Zy o2;have HBN:=Zy hBN;have HR:=Zy hR;have HB3:=Zy hb3;have hNz:N<wz.heap.size:=hBN.lt;have hne:N≠w.heap.size+1+1:=QQ;clear g4 g5 o2 hBN hR hb3;by_cases hlt:n+1<=30
  ·have e0:(es++[(⟨.pointer p,.int .i64 q⟩:V2)]).drop (n+1-30)=es++[⟨.pointer p,.int .i64 q⟩]:=by rw[show n+1-30=0 from QQ];rfl
   have HE0:=Zy e0;clear e0;have hk:¬(0:Int)<(n:Int)+1-30:=QQ;go_wp2;have hG:=(HR.out.set 0 (.slice (some ad) (n+1) c2)).set 1 (.slice none 0 0);obtain⟨y0,y1,-,-⟩:=hG.two;refine ZC (v:=.agg #[.slice (some ad) (n+1) c2,.slice none 0 0]) (by simp[results,Tryz.results146,go_sem,y0,y1]) rfl ?_;exact⟨_,rfl,((yj.out.AP HR.out QZ 0 _).AP (HR.out.set 0 (.slice (some ad) (n+1) c2)) QZ 1 _).mono QQ,Zp.set QQ (Zp.set QQ HB3.out)⟩
  ·obtain rfl:n=30:=by omega
   obtain⟨b,o,e,-⟩:=HG4.out.at (k:=0) QJ;simp only[ZL]at e;subst e;have HPD:=Zy (show X0 wz (some ⟨b,o+2,none⟩) ((es++[(⟨.pointer p,.int .i64 q⟩:V2)]).drop 1)from by
    have:=HG4.out.drop 1
    rwa[show o+1*2=o+2 from QQ]at this)
   have HLD:=Zy (show((es++[(⟨.pointer p,.int .i64 q⟩:V2)]).drop 1).length=30 from by have:=HN.out;simp;omega);have HOD:=Zy (show ML ((es++[(⟨.pointer p,.int .i64 q⟩:V2)]).drop 1)from fun u hu=>by
    rcases XO.1 (List.mem_of_mem_drop hu)with h|h
    ·exact HO.out u h
    ·rw[List.mem_singleton]at h;subst h;exact⟨rfl,rfl⟩)
   go_wp2_with fail
   refine(xH (some ⟨b,o+2,none⟩) 30 (c2-1) ((es++[(⟨.pointer p,.int .i64 q⟩:V2)]).drop 1) _ HPD.out HOD.out HLD.out QQ QJ).mono ?_;rintro e w5 ⟨v5,rfl,o5,hb5⟩;obtain⟨a5,n5,c5,rfl⟩:=o5.form;have QJy:=HBN.out.below hb5 hNz;have KQ:=HR.out.below hb5 QQ;have hb6:=ZE HB3.out HB3.out.size hb5;obtain⟨d0',d1',f0',f1'⟩:=QJy.two;obtain⟨r0',r1',q0',q1'⟩:=KQ.two;have Qyw:=Zy QJy;have bK:=Zy KQ;have HB6:=Zy hb6;have bU:=Zy o5;clear QJy KQ hb6 o5 hb5 d0 d1 f0 f1 r0 r1 q0 q1;go_wp2;have uq:=bK.out.other (a:=⟨N,0,none⟩) hne.symm (.slice a5 n5 c5);have hG:=(uq.set 0 (.slice a5 n5 c5)).set 1 (.slice none 0 0);obtain⟨y0,y1,-,-⟩:=hG.two;refine ZC (v:=.agg #[.slice a5 n5 c5,.slice none 0 0]) (by simp[results,Tryz.results146,go_sem,y0,y1]) rfl ?_;exact⟨_,rfl,(((bU.out.AP Qyw.out QZ 0 _).AP uq QZ 0 _).AP (uq.set 0 (.slice a5 n5 c5)) QZ 1 _).mono QQ,Zp.set QQ (Zp.set QQ (Zp.set QQ HB6.out))⟩
theorem Ii(w:World):Calls Tryz.prog 157 #[.slice none 0 0] w fun e w'=>e=.returned (.slice none 0 0)/\w'=w:=by
 have he:=fun(w:World) (n' c':Nat)=>Lib.run_eql_slice_nil (P:=Tryz.prog) w 86 83 none 0 0 n' c' Tryz.underlying86
 go_enter Tryz.func157,Tryz.ntmps157
 exact QH5
def nU(es:List V2)(w:World)(e:Ending)(w':World):Prop:=∃v,e=.returned (.agg #[v,.slice none 0 0])/\Xd 83 w.heap.size w' v es/\Below w.heap.size w w'
theorem uZ(a:Option Addr)(n c:Nat)(es:List V2)(w:World)(ha:X0 w a es)(hok:ML es)(hn:es.length=n)(hl:n<=30)(h0:a=none->n=0):
  Calls Tryz.prog 147 #[.agg #[.slice a n c,.slice none 0 0]] w (nU es w):=by
 have hB0:=(Za.new w #[.slice a n c,.slice none 0 0] 88).alloc (.cells #[.slice none 0 0,.slice none 0 0] 88);have hB1:=Za.new (w.alloc (.cells #[.slice a n c,.slice none 0 0] 88)) #[.slice none 0 0,.slice none 0 0] 88;have hb:=Zo w (.cells #[.slice a n c,.slice none 0 0] 88) (.cells #[.slice none 0 0,.slice none 0 0] 88);rw[Zu]at hB1;have hz:w.heap.size+2=((w.alloc (.cells #[.slice a n c,.slice none 0 0] 88)).alloc (.cells #[.slice none 0 0,.slice none 0 0] 88)).heap.size:=by simp only[Zu]
 generalize hW:((w.alloc (.cells #[.slice a n c,.slice none 0 0] 88)).alloc (.cells #[.slice none 0 0,.slice none 0 0] 88))=W at hB0 hB1 hb hz;obtain⟨c00,c01,-,-⟩:=hB0.two;obtain⟨r0,r1,f0,f1⟩:=hB1.two;have HA:=Zy (ha.keep (Zd hb));have HO:=Zy hok;have HN:=Zy hn;have HB:=Zy hb;have HB0:=Zy hB0;have HB1:=Zy hB1;have H0:=Zy h0;have HW:=Zy hW;have hzl:w.heap.size+1<W.heap.size:=QQ;clear ha hok hn h0 hz hb hB0 hB1 hW;go_enter Tryz.func147,Tryz.ntmps147
 go_upto_region 1 with fail
 rw[HW.out]
 go_cut [2] (fun r wx=>r=.pointer (some ⟨w.heap.size+1,0,none⟩)/\∃v,Za wx (w.heap.size+1) #[v,.slice none 0 0] 88/\Xd 83 w.heap.size wx v es/\Below w.heap.size w wx)
 case first=>
  go_region_law (first|(go_simp;go_at_call 157;(with_reducible show Calls _ _ #[.slice none 0 0] _ _);refine(Ii _).mono ?_;rintro e w3 ⟨rfl,rfl⟩)|(go_simp;go_at_call 157;refine(xH a n c es _ (X0.J2 HA.out) HO.out HN.out QQ H0.out).mono ?_;rintro e w1 ⟨v1,rfl,o1,hb1⟩;obtain⟨a1,n1,c1,rfl⟩:=o1.form;have OE:=HB1.out.below (w:=W.drew) hb1 HB1.out.lt;obtain⟨r0',r1',f0',f1'⟩:=OE.two;obtain⟨QAk,QAj,-,-⟩:=(HB0.out.below (w:=W.drew) hb1 HB0.out.lt).two))
  all_goals
   dsimp only[Act.put,Exit.then]
   (repeat go_step)
   go_meet;exact⟨rfl,_,(OE.set 0 (.slice a1 n1 c1)).set 1 (.slice none 0 0),((o1.mono (show w.heap.size<=W.drew.heap.size from QY)).AP OE QZ _ _).AP (OE.set 0 (.slice a1 n1 c1)) QZ _ _,Zp.set QQ (Zp.set QQ (Zp.call hb1 (Zp.drew HB.out)))⟩
 case rest=>
  obtain⟨rfl,v,hBN,o2,hb2⟩:=hcut;obtain⟨a2,n2,c2,rfl⟩:=o2.form;obtain⟨y0,y1,-,-⟩:=hBN.two;go_wp2;refine ZC (v:=.agg #[.slice a2 n2 c2,.slice none 0 0]) (by simp[results,Tryz.results147,go_sem,y0,y1]) rfl ?_;exact⟨_,rfl,o2,hb2⟩
def OkS(es:List V2):Prop:=∀u∈es,∃p q,u=⟨.pointer p,.int .i64 q⟩
theorem OkS.all{es:List V2}(h:OkS es):ML es:=fun u hu=>by
 obtain⟨p,q,rfl⟩:=h u hu;exact⟨rfl,rfl⟩
theorem Ih(g m c:Nat)(p:Option Addr)(q:Int)(w:World)(hc0:w.cell? ⟨g,m*2,none⟩=some (.pointer p))(hc1:w.cell? ⟨g,m*2+1,none⟩=some (.int .i64 q))(hm:m+1<=c)(hc2:c<=9223372036854775807):
  Calls Tryz.prog 148 #[.slice (some ⟨g,0,none⟩) (m+1) c] w fun e w'=>e=.returned (.tuple #[.agg #[.pointer p,.int .i64 q],.slice (some ⟨g,0,none⟩) m c])/\Below w.heap.size w w':=by
 obtain⟨n,hn1,hn2⟩:∃n:Nat,n<=m+1/\m+1<=n:=⟨m+1,QQ,QQ⟩;rw[show m+1=n from QQ];have i1:((n:Int)-1).toNat=m:=QQ;have i2:IntKind.i64.wrap ((n:Int)-1)=(n:Int)-1:=YX _ QQ;have i3:(0:Int)<=(n:Int)-1:=QQ;have i4:(n:Int)-1<(n:Int):=QQ;have i5:(n:Int)-1<=(c:Int):=QQ;have i6:(1:Int)<=(n:Int):=QQ;have hR:=Za.new w #[.pointer none,.int .i64 0] 83;have hb:=ZR w (.cells #[.pointer none,.int .i64 0] 83);have d0:=Zd hb _ _ hc0;have d1:=Zd hb _ _ hc1;have hg:=Xb hc0;generalize hW:w.alloc (.cells #[.pointer none,.int .i64 0] 83)=W at hR hb d0 d1;obtain⟨r0,r1,f0,f1⟩:=hR.two;have HW:=Zy hW;have HR:=Zy hR;have HB:=Zy hb;clear hc0 hc1 hW hR hb;go_enter Tryz.func148,Tryz.ntmps148
 go_upto_region 1 with fail
 rw[HW.out]
 go_region
 go_wp2;obtain⟨y0,y1,-,-⟩:=((HR.out.set 0 (.pointer p)).set 1 (.int .i64 q)).two;refine ZC (v:=.tuple #[.agg #[.pointer p,.int .i64 q],.slice (some ⟨g,0,none⟩) m c]) (by simp[results,Tryz.results148,go_sem,y0,y1]) rfl ?_;exact⟨rfl,((HB.out.setCell (p:=⟨w.heap.size,0,none⟩) (ZB _) _).setCell (p:=⟨w.heap.size,1,none⟩) (ZB _) _).drew⟩
theorem Xd.Ip{T:TypeId}{base:Nat}{w:World}{v:Value}{es:List V2}{B:Nat}(h:Xd T base w v es)(hB:some B≠v.ownBlock)(i:Nat)(u:Value):Xd T base (w.setCell ⟨B,i,none⟩ u) v es:=
 h.moved fun k hk=>Zl _ _ _ _ fun e=>hB (by have e2:k=B:=e;rw[<-e2];exact hk.symm)
def PY(es:List V2)(p:Option Addr)(q:Int)(w:World)(e:Ending)(w':World):Prop:=
 ∃a1 n1 c1 a2 n2 c2 p' q',e=.returned (.tuple #[.agg #[.slice a1 n1 c1,.slice a2 n2 c2],.agg #[.pointer p',.int .i64 q'],.bool (decide (0<es.length))])/\
  (0<es.length->kP (fun k=>w.heap.size<=k) w' (.slice a1 n1 c1) es.dropLast/\xG es (es.length-1)=⟨.pointer p',.int .i64 q'⟩)/\Below w.heap.size w w'
theorem NH(c:Nat)(a:Option Addr)(p:Option Addr)(q:Int)(w:World):
  Calls Tryz.prog 130 #[.agg #[.slice a 0 c,.slice none 0 0],.agg #[.pointer p,.int .i64 q]] w (PY [] p q w):=by
 have hB0:=(((Za.new w #[.slice a 0 c,.slice none 0 0] 88).alloc (.cells #[.pointer p,.int .i64 q] 83)).alloc (.cells #[.slice none 0 0,.slice none 0 0] 88)).alloc (.cells #[.pointer none,.int .i64 0] 83);have hB1:=((Za.new (w.alloc (.cells #[.slice a 0 c,.slice none 0 0] 88)) #[.pointer p,.int .i64 q] 83).alloc (.cells #[.slice none 0 0,.slice none 0 0] 88)).alloc (.cells #[.pointer none,.int .i64 0] 83);have hB2:=(Za.new ((w.alloc (.cells #[.slice a 0 c,.slice none 0 0] 88)).alloc (.cells #[.pointer p,.int .i64 q] 83)) #[.slice none 0 0,.slice none 0 0] 88).alloc (.cells #[.pointer none,.int .i64 0] 83);have hB3:=Za.new (((w.alloc (.cells #[.slice a 0 c,.slice none 0 0] 88)).alloc (.cells #[.pointer p,.int .i64 q] 83)).alloc (.cells #[.slice none 0 0,.slice none 0 0] 88)) #[.pointer none,.int .i64 0] 83;have hb:=Zp.alloc (o:=.cells #[.pointer none,.int .i64 0] 83) (yY w (.cells #[.slice a 0 c,.slice none 0 0] 88) (.cells #[.pointer p,.int .i64 q] 83) (.cells #[.slice none 0 0,.slice none 0 0] 88));simp only[Zu]at hB1 hB2 hB3;generalize hW:((((w.alloc (.cells #[.slice a 0 c,.slice none 0 0] 88)).alloc (.cells #[.pointer p,.int .i64 q] 83)).alloc (.cells #[.slice none 0 0,.slice none 0 0] 88)).alloc (.cells #[.pointer none,.int .i64 0] 83))=W at hB0 hB1 hB2 hB3 hb;have hzl:=hB3.lt;obtain⟨c00,c01,-,-⟩:=hB0.two;obtain⟨c10,c11,-,-⟩:=hB1.two;obtain⟨c20,c21,f20,f21⟩:=hB2.two;obtain⟨UE,c31,f30,f31⟩:=hB3.two;have HB1:=Zy hB1;have HB2:=Zy hB2;have HB3:=Zy hB3;have HB:=Zy hb;have HW:=Zy hW;have HC:=Zy (uZ a 0 c [] W.drew (X0.nil _ _) (fun u hu=>by cases hu) rfl QQ (fun _=>rfl));clear hB0 hB1 hB2 hB3 hb hW;go_enter Tryz.func130,Tryz.ntmps130
 go_upto_region 1 with fail
 rw[HW.out];go_upto_region 2 with fail
 go_cut [4,6] (fun r s wx=>r=.pointer (some ⟨w.heap.size+1+1,0,none⟩)/\s=.bool false/\∃a1 n1 c1,Za wx (w.heap.size+1+1) #[.slice a1 n1 c1,.slice none 0 0] 88/\Za wx (w.heap.size+1+1+1) #[.pointer p,.int .i64 q] 83/\Below w.heap.size w wx)
 case first=>
  go_region_law (first|(go_simp;go_at_call 147;refine HC.out.mono ?_;rintro e w1 ⟨v1,rfl,o1,hb1⟩;obtain⟨a1,n1,c1,rfl⟩:=o1.form;have hR2:=HB2.out.below (w:=W.drew) hb1 HB2.out.lt;obtain⟨e20,e21,k20,k21⟩:=hR2.two;have Wx:=HB3.out.below (w:=W.drew) hb1 HB3.out.lt;obtain⟨e30,e31,k30,k31⟩:=Wx.two;have OE:=HB1.out.below (w:=W.drew) hb1 HB1.out.lt;obtain⟨e10,e11,-,-⟩:=OE.two))
  all_goals
   go_wp2;go_meet;exact⟨rfl,rfl,a1,n1,c1,(((hR2.set 0 (.slice a1 n1 c1)).set 1 (.slice none 0 0)).other (a:=⟨w.heap.size+1+1+1,0,none⟩) QJ _).other (a:=⟨w.heap.size+1+1+1,1,none⟩) QJ _,((((Wx.other (a:=⟨w.heap.size+1+1,0,none⟩) QJ (.slice a1 n1 c1)).other (a:=⟨w.heap.size+1+1,1,none⟩) QJ (.slice none 0 0)).set 0 (.pointer p)).set 1 (.int .i64 q)),Zp.set QQ (Zp.set QQ (Zp.set QQ (Zp.set QQ (Zp.call hb1 (Zp.drew HB.out)))))⟩
 case rest=>
  obtain⟨rfl,rfl,a1,n1,c1,hR2,Wx,hb2⟩:=hcut;obtain⟨y0,y1,-,-⟩:=hR2.two;obtain⟨z0,z1,-,-⟩:=Wx.two;go_wp2;refine ZC (v:=.tuple #[.agg #[.slice a1 n1 c1,.slice none 0 0],.agg #[.pointer p,.int .i64 q],.bool false]) QEo rfl ?_;exact⟨a1,n1,c1,none,0,0,p,q,rfl,fun h=>absurd h QZ,hb2⟩
theorem NG(m c:Nat)(a:Option Addr)(es:List V2)(p:Option Addr)(q:Int)(w:World)(ha:X0 w a es)(hok:OkS es)(hn:es.length=m+1)(hl:m+1<=30)(h0:a=none->m+1=0):
  Calls Tryz.prog 130 #[.agg #[.slice a (m+1) c,.slice none 0 0],.agg #[.pointer p,.int .i64 q]] w (PY es p q w):=by
 have hB0:=(((Za.new w #[.slice a (m+1) c,.slice none 0 0] 88).alloc (.cells #[.pointer p,.int .i64 q] 83)).alloc (.cells #[.slice none 0 0,.slice none 0 0] 88)).alloc (.cells #[.pointer none,.int .i64 0] 83);have hB1:=((Za.new (w.alloc (.cells #[.slice a (m+1) c,.slice none 0 0] 88)) #[.pointer p,.int .i64 q] 83).alloc (.cells #[.slice none 0 0,.slice none 0 0] 88)).alloc (.cells #[.pointer none,.int .i64 0] 83);have hB2:=(Za.new ((w.alloc (.cells #[.slice a (m+1) c,.slice none 0 0] 88)).alloc (.cells #[.pointer p,.int .i64 q] 83)) #[.slice none 0 0,.slice none 0 0] 88).alloc (.cells #[.pointer none,.int .i64 0] 83);have hB3:=Za.new (((w.alloc (.cells #[.slice a (m+1) c,.slice none 0 0] 88)).alloc (.cells #[.pointer p,.int .i64 q] 83)).alloc (.cells #[.slice none 0 0,.slice none 0 0] 88)) #[.pointer none,.int .i64 0] 83;have hb:=Zp.alloc (o:=.cells #[.pointer none,.int .i64 0] 83) (yY w (.cells #[.slice a (m+1) c,.slice none 0 0] 88) (.cells #[.pointer p,.int .i64 q] 83) (.cells #[.slice none 0 0,.slice none 0 0] 88));simp only[Zu]at hB1 hB2 hB3;generalize hW:((((w.alloc (.cells #[.slice a (m+1) c,.slice none 0 0] 88)).alloc (.cells #[.pointer p,.int .i64 q] 83)).alloc (.cells #[.slice none 0 0,.slice none 0 0] 88)).alloc (.cells #[.pointer none,.int .i64 0] 83))=W at hB0 hB1 hB2 hB3 hb;have hzl:=hB3.lt;obtain⟨c00,c01,-,-⟩:=hB0.two;obtain⟨c10,c11,-,-⟩:=hB1.two;obtain⟨c20,c21,f20,f21⟩:=hB2.two;obtain⟨UE,c31,f30,f31⟩:=hB3.two;have HB1:=Zy hB1;have HB2:=Zy hB2;have HB3:=Zy hB3;have HB:=Zy hb;have HW:=Zy hW;have HC:=Zy (uZ a (m+1) c es W (ha.keep (Zd hb)) hok.all hn hl h0);obtain⟨p',q',hlast⟩:∃p' q',xG es m=⟨.pointer p',.int .i64 q'⟩:=by
  have hm:m<es.length:=QQ;rw[jO hm];exact hok _ (YQ hm)
 have HL:=Zy hlast;have HN:=Zy hn;clear hB0 hB1 hB2 hB3 hb hW h0 ha hok hlast hn;have i0:¬((m:Int)+1=0):=QQ;have i1:((m:Int)+1==0)=false:=QY;go_enter Tryz.func130,Tryz.ntmps130
 go_upto_region 1 with fail
 rw[HW.out];go_wp2_with fail
 refine HC.out.mono ?_;rintro e w1 ⟨v1,rfl,o1,hb1⟩;obtain⟨g,c3,rfl,hg1,hg2⟩:=World.ownsRow.form o1 QD2;have QU8:=o1.bM.get;have HN2:=HN.out;rw[HN2]at o1 QU8 ⊢;clear HN2;obtain⟨-,hmc,hc3,hpr,-⟩:=QU8;have OE:=HB1.out.below hb1 HB1.out.lt;have hR2:=HB2.out.below hb1 HB2.out.lt;have Wx:=HB3.out.below hb1 HB3.out.lt;have hbW:=ZE HB.out HB.out.size hb1;have hs1:=hb1.size;obtain⟨gb,go',hge,hgc⟩:=hpr.at (k:=m) QB;simp only[ZL,YR]at hge;obtain⟨rfl,rfl,-⟩:=hge;obtain⟨hg0,hg1'⟩:=hgc m QB;rw[HL.out,XI]at hg0 hg1';dsimp only at hg0 hg1';have hb2:=Zo w1 (.cells #[.slice (some ⟨g,0,none⟩) (m+1) c3,.slice none 0 0] 88) (.cells #[.pointer none,.int .i64 0] 83);have Bc:=(Za.new w1 #[.slice (some ⟨g,0,none⟩) (m+1) c3,.slice none 0 0] 88).alloc (.cells #[.pointer none,.int .i64 0] 83);have Uq:=Za.new (w1.alloc (.cells #[.slice (some ⟨g,0,none⟩) (m+1) c3,.slice none 0 0] 88)) #[.pointer none,.int .i64 0] 83;rw[Zu]at Uq;have bg:=Zy (Ih g m c3 p' q' _ (Zd hb2 _ _ hg0) (Zd hb2 _ _ hg1') hmc hc3);have bf:=Zy ((hpr.keep (Zd hb2)));have HO:=Zy ((o1.Yf (o:=.cells #[.slice (some ⟨g,0,none⟩) (m+1) c3,.slice none 0 0] 88)).Yf (o:=.cells #[.pointer none,.int .i64 0] 83));have HR1:=Zy (OE.below hb2 OE.lt);have HR2:=Zy (hR2.below hb2 hR2.lt);have HR3:=Zy (Wx.below hb2 Wx.lt);have HB7:=Zy Bc;have Wi:=Zy Uq;have PE:=Zy (ZE hbW hbW.size hb2);clear hgc hg0 hg1' hpr OE hR2 Wx Bc Uq hb2 hbW hb1 c00 c01 c10 c11 c20 c21 f20 f21 UE c31 f30 f31 o1;go_wp2_with fail
 refine bg.out.mono ?_;rintro e w5 ⟨rfl,hb5⟩;have Bc:=HB7.out.below hb5 HB7.out.lt;have Uq:=Wi.out.below hb5 Wi.out.lt;have OE:=HR1.out.below hb5 HR1.out.lt;have hR2:=HR2.out.below hb5 HR2.out.lt;have Wx:=HR3.out.below hb5 HR3.out.lt;have ho:=HO.out.kept hb5;have hbW:=ZE PE.out PE.out.size hb5;have QYn:w1.heap.size≠w1.heap.size+1:=QQ;have hg7:some (w1.heap.size)≠(Value.slice (some ⟨g,0,none⟩) (m+1) c3).ownBlock:=by simp[Value.ownBlock];omega
 have oF:some (w1.heap.size+1)≠(Value.slice (some ⟨g,0,none⟩) (m+1) c3).ownBlock:=by simp[Value.ownBlock];omega
 have QV3:=((Bc.other (a:=⟨w1.heap.size+1,0,none⟩) QYn (.pointer p')).other (a:=⟨w1.heap.size+1,1,none⟩) QYn (.int .i64 q')).set 0 (.slice (some ⟨g,0,none⟩) m c3);have QV2:=((Uq.set 0 (.pointer p')).set 1 (.int .i64 q')).other (a:=⟨w1.heap.size,0,none⟩) QYn.symm (.slice (some ⟨g,0,none⟩) m c3);have QJQ:=((OE.other (a:=⟨w1.heap.size+1,0,none⟩) QY (.pointer p')).other (a:=⟨w1.heap.size+1,1,none⟩) QY (.int .i64 q')).other (a:=⟨w1.heap.size,0,none⟩) QY (.slice (some ⟨g,0,none⟩) m c3);have QVl:=((hR2.other (a:=⟨w1.heap.size+1,0,none⟩) QY (.pointer p')).other (a:=⟨w1.heap.size+1,1,none⟩) QY (.int .i64 q')).other (a:=⟨w1.heap.size,0,none⟩) QY (.slice (some ⟨g,0,none⟩) m c3);have QVi:=((Wx.other (a:=⟨w1.heap.size+1,0,none⟩) QY (.pointer p')).other (a:=⟨w1.heap.size+1,1,none⟩) QY (.int .i64 q')).other (a:=⟨w1.heap.size,0,none⟩) QY (.slice (some ⟨g,0,none⟩) m c3);have ho':=((ho.Ip oF 0 (.pointer p')).Ip oF 1 (.int .i64 q')).Ip hg7 0 (.slice (some ⟨g,0,none⟩) m c3);have QVP:=Zp.set (a:=w) (B:=w1.heap.size) (i:=0) (u:=.slice (some ⟨g,0,none⟩) m c3) QQ (Zp.set (B:=w1.heap.size+1) (i:=1) (u:=.int .i64 q') QQ (Zp.set (B:=w1.heap.size+1) (i:=0) (u:=.pointer p') QQ hbW));obtain⟨y70,y71,k70,k71⟩:=Bc.two;obtain⟨y80,y81,k80,k81⟩:=Uq.two;clear Bc Uq OE hR2 Wx ho hbW;go_upto_region 6 with fail
 generalize hW6:(((w5.setCell ⟨w1.heap.size+1,0,none⟩ (.pointer p')).setCell ⟨w1.heap.size+1,1,none⟩ (.int .i64 q')).setCell ⟨w1.heap.size,0,none⟩ (.slice (some ⟨g,0,none⟩) m c3))=w6 at *;have Bc:Za w6 w1.heap.size #[.slice (some ⟨g,0,none⟩) m c3,.slice none 0 0] 88:=QV3;have Uq:Za w6 (w1.heap.size+1) #[.pointer p',.int .i64 q'] 83:=QV2;obtain⟨x70,x71,-,-⟩:=Bc.two;obtain⟨bD,x11,-,-⟩:=QJQ.two;have H7:=Zy Bc;have H8:=Zy Uq;have H2:=Zy QVl;have H3:=Zy QVi;have HO6:=Zy ho';have HW6:=Zy QVP;have hlt1:=QJQ.lt;have Qz7:=Bc.lt;have OV:=Uq.lt;clear HB1 HB2 HB3 HB HW HC bg bf HO HR1 HR2 HR3 HB7 Wi PE Bc Uq QV3 QV2 QJQ QVl QVi ho' QVP hW6 y70 y71 k70 k71 y80 y81 k80 k81 hb5 hg7 oF i0 i1;go_wp2_with (at_builtin;refine QYJ (T:=83) (ST:=86) Tryz.underlying86 kW rfl QZ rfl _ _ rfl w6.heap.size _ [] [⟨.pointer p,.int .i64 q⟩] ⟨w6.heap.size,0,none⟩ 1 1 rfl rfl (Xd.nil _ _ _) (Ar rfl) (fun u hu=>QEG) rfl QJ QJ QZ ?_;intro v4 w4 o4 hg4 QY3;have hb4:Below w6.heap.size w6 w4:=(ZR w6 _).grown hg4 QJ (Xd.nil 83 w6.heap.size w6).row;obtain⟨a4,n4,c4,rfl⟩:=o4.form;have hC7:=H7.out.below hb4 Qz7;have JJ:=H8.out.below hb4 OV;have hC2:=H2.out.below hb4 QQ;have hC3:=H3.out.below hb4 QQ;obtain⟨QuC,QuA,z70,z71⟩:=hC7.two;obtain⟨x80,x81,-,-⟩:=JJ.two;obtain⟨x20,x21,z20,z21⟩:=hC2.two;obtain⟨x30,x31,z30,z31⟩:=hC3.two;have cZ:=Zy hC2;have HC3:=Zy hC3;have HC7:=Zy hC7;have HO4:=Zy (HO6.out.kept hb4);have xB:=Zy (ZE HW6.out HW6.out.size hb4);clear hC7 JJ hC2 hC3 x70 x71 bD x11 o4 hg4 QY3 hb4)
 go_region
 go_wp2;have e2:=((((cZ.out.other (a:=⟨w1.heap.size,1,none⟩) QY (.slice a4 n4 c4)).set 0 (.slice (some ⟨g,0,none⟩) m c3)).set 1 (.slice a4 n4 c4)).other (a:=⟨w.heap.size+1+1+1,0,none⟩) QJ (.pointer p')).other (a:=⟨w.heap.size+1+1+1,1,none⟩) QJ (.int .i64 q');have e3:=((((HC3.out.other (a:=⟨w1.heap.size,1,none⟩) QY (.slice a4 n4 c4)).other (a:=⟨w.heap.size+1+1,0,none⟩) QJ (.slice (some ⟨g,0,none⟩) m c3)).other (a:=⟨w.heap.size+1+1,1,none⟩) QJ (.slice a4 n4 c4)).set 0 (.pointer p')).set 1 (.int .i64 q');obtain⟨y0,y1,-,-⟩:=e2.two;obtain⟨z0,z1,-,-⟩:=e3.two;have hv:∀k,k≠g->some k≠(Value.slice (some ⟨g,0,none⟩) (m+1) c3).ownBlock:=fun k hk=>by simpa[Value.ownBlock]using hk
 have ho:=((((HO4.out.Ip (hv w1.heap.size QQ) 1 (.slice a4 n4 c4)).Ip (hv (w.heap.size+1+1) QQ) 0 (.slice (some ⟨g,0,none⟩) m c3)).Ip (hv (w.heap.size+1+1) QQ) 1 (.slice a4 n4 c4)).Ip (hv (w.heap.size+1+1+1) QQ) 0 (.pointer p')).Ip (hv (w.heap.size+1+1+1) QQ) 1 (.int .i64 q');have hpr:=ho.bM.get.2.2.2.1.take m;have hdl:es.dropLast=es.take m:=by rw[List.dropLast_eq_take,HN.out];rfl
 have hb:=Zp.set (a:=w) (B:=w.heap.size+1+1+1) (i:=1) (u:=.int .i64 q') QQ (Zp.set (B:=w.heap.size+1+1+1) (i:=0) (u:=.pointer p') QQ (Zp.set (B:=w.heap.size+1+1) (i:=1) (u:=.slice a4 n4 c4) QQ (Zp.set (B:=w.heap.size+1+1) (i:=0) (u:=.slice (some ⟨g,0,none⟩) m c3) QQ (Zp.set (B:=w1.heap.size) (i:=1) (u:=.slice a4 n4 c4) QQ xB.out))));refine ZC (v:=.tuple #[.agg #[.slice (some ⟨g,0,none⟩) m c3,.slice a4 n4 c4],.agg #[.pointer p',.int .i64 q'],.bool true]) QEo rfl ?_;refine⟨some ⟨g,0,none⟩,m,c3,a4,n4,c4,p',q',by rw[HN.out];simp,fun _=>⟨⟨some ⟨g,0,none⟩,m,c3,rfl,by rw[hdl,Zi,HN.out];omega,QQ,hc3,by rw[hdl];exact hpr.J2,QJ,fun ad e _=>?_⟩,by rw[HN.out];exact HL.out⟩,hb.drew⟩;simp only[ZL]at e;subst e;show w.heap.size<=g;omega
theorem Sa(a:Option Addr)(n c:Nat)(es:List V2)(p:Option Addr)(q:Int)(w:World)(ha:X0 w a es)(hok:OkS es)(hn:es.length=n)(hl:n<=30)(h0:a=none->n=0):
  Calls Tryz.prog 130 #[.agg #[.slice a n c,.slice none 0 0],.agg #[.pointer p,.int .i64 q]] w (PY es p q w):=by
 rcases n with _|m
 ·obtain rfl:es=[]:=ZM hn
  exact NH c a p q w
 ·exact NG m c a es p q w ha hok hn hl h0
end Go.Proofs.YtmdnepkekekncaaGreat
