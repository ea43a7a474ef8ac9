/- joined, no condition of its own. -/
import Derived.Test.YtmdnepkekekncaaGreatJfJ13
set_option linter.unusedVariables false
set_option linter.unusedSimpArgs false
set_option maxRecDepth 100000
set_option maxHeartbeats 12000000
namespace Go.Proofs.YtmdnepkekekncaaGreat
open Go.RowKit
theorem Nb(c x:Int)(P B:Nat)(w:World)(hb:w.cell? ⟨B,0,none⟩=some (.pointer (some ⟨P,0,none⟩)))(hc:w.cell? ⟨P,33,none⟩=some (.int .i64 x)):
  Calls Tryz.prog 167 #[.int .i64 c,.pointer (some ⟨B,0,none⟩)] w fun e w'=>e=.returned (.int .i64 x)/\w=w':=by
 go_enter Tryz.func167,Tryz.ntmps167
 exact QH5
theorem xV{l:List Int}{j:Nat}(f:Int->Int)(h:j<l.length):(l.take (j+1)).map f=(l.take j).map f++[f (ix l j)]:=by
 rw[Xx h,List.map_append];simp[ix,Zg,Z8 h]
theorem DC(P m:Nat)(us:List Value)(I:In)(hI:Je I)(s:St)(w:World)(h:DI P w us I s)(hk:I.k+m<=I.n):
  Calls Tryz.prog 164 #[.pointer (some ⟨P,0,none⟩),.int .i64 (m:Int),.func (.func 165) #[] #[]] w (zI P I (mF I s m ql) w):=by
 have hT:=h.sl hI;have HI:=Zy hI;have HN:=Zy hI.len;have hcap:=hI.cap;have htop:=hI.top;have HA0:=Zy hI.none;have c0:=h.c0;have c1:=h.c1;have HX:=Zy h;have qd:=h.lt;have CP:∀(w8:World) (vZ:List Value) (b:Option Addr) (p d:Nat) (x:List Int),DI P w8 vZ I s->Ints w8 b x->x.length=p->p<=2000->(b=none->p=0)->Calls Tryz.prog 169 #[.pointer (some ⟨P,0,none⟩),.int .i64 (I.k:Int),.int .i64 ((I.k+m:Nat):Int),.slice b p d] w8 (zI P I (Uz I s I.k (I.k+m) x) w8):=
  fun w8 vZ b p d x h8 hb hp hp2 h0=>WR P I.k (I.k+m) vZ I HI.out s b p d x w8 h8 hb hp hp2 h0 QQ hk
 have kS:=Zy CP;clear CP h hI;obtain⟨y,hy⟩:∃y,(I.t.take (I.k+m)).drop I.k=y:=⟨_,rfl⟩;have hcr:=zl I.a I.n I.c I.k (I.k+m) QQ QQ;rw[show I.k+m-I.k=m from QQ]at hcr;obtain⟨K2,hK2⟩:∃K2,I.k+m=K2:=⟨_,rfl⟩;have iw:IntKind.i64.wrap ((I.k:Int)+(m:Int))=(K2:Int):=QDJ;rw[hK2]at hcr kS;have HL:=Zy (show y.length=m from QEi);have hcut:=hT.Bt (c:=I.c) I.k (I.k+m) QEW QQ QDr;rw[hy]at hcut;obtain⟨aa,Ra⟩:∃aa,qO I.a I.c I.k=aa:=⟨_,rfl⟩;rw[Ra]at hcr hcut;have HY:=Zy hy;have QKz:=Zy hcut;clear hy hT hcut Ra;go_enter Tryz.func164,Tryz.ntmps164
 go_upto_region 1 with fail
 go_cut [26,27,28] (fun v z i wx=>v=.slice aa m (I.c-I.k)/\z=.int .i64 (m:Int)/\i=.int .i64 0/\Below w.heap.size w wx)
 case first=>
  exact QI3
 obtain⟨rfl,rfl,rfl,hb1⟩:=hcut;clear c0 c1 hcr;go_wp2
 go_loopw [6,28] (fun v i wr=>∃j:Nat,i=.int .i64 (j:Int)/\j<=m/\Own 3 w.heap.size wr v ((y.take j).map ql)/\Below w.heap.size w wr) (fun _ i _=>m-(intOf i).toNat)
 case atStart=>exact⟨0,rfl,Z4 _,Own.nil _ _ _,hb1⟩
 case round=>
  obtain⟨j,rfl,hj,hown,hb2⟩:=hrel;obtain⟨av,nv,cv,rfl⟩:=hown.form;by_cases hlt:j<m
  ·have uW:=QKz.out.below hb2
   obtain⟨b1,o1,rfl,hc⟩:=uW.at (k:=j) QH;have e1:=hc j QH;have hlen:((y.take j).map ql).length<17592186044416:=by rw[YU,Zi,HL.out];omega
   have hsz:=hb2.size;clear hc uW;go_wp2_with fail
   refine(MW _ _).mono ?_;rintro e w3 ⟨rfl,rfl⟩;go_wp2_with (at_builtin;refine app1 rfl _ _ rfl w.heap.size _ _ _ _ rfl rfl (hown.alloc _) (JQ _ _ _) hlen (XJ hsz _) ?_;intro v1 w1 hown1 hgrow1;obtain⟨a1,n1,m1,rfl⟩:=hown1.form)
   go_roundw
   case rel=>exact⟨j+1,Qy,QQ,by rw[xV ql QH];exact hown1,(hb2.alloc hsz _).grown hgrow1 QY (fun k hk=>QDj)⟩
   case measure=>simp[intOf];omega
  ·obtain rfl:j=m:=by omega
   rw[Z6 (by rw[HL.out];exact ZB _)]at hown;go_wp2;have h8:=HX.out.to hb2;have c1:=h8.c1;have H8:=Zy h8;have HO:=Zy hown;clear h8 hown
   go_region_law (first|(go_simp;go_at_call 169;go_loud (refine(kS.out _ _ _ _ _ (y.map ql) H8.out.drew HO.out.get.2.1 HO.out.get.1 QE7 HO.out.sl.get.2.2.2.2).mono ?_;rintro e w9 ⟨rfl,iH,qV⟩)))
   all_goals
    exact QIS
theorem Mq(P m:Nat)(B:Nat)(us:List Value)(I:In)(hI:Je I)(s:St)(w:World)(h:DI P w us I s)(hk:I.k+m<=I.n)(hbx:w.cell? ⟨B,0,none⟩=some (.pointer (some ⟨P,0,none⟩))):
  Calls Tryz.prog 164 #[.pointer (some ⟨P,0,none⟩),.int .i64 (m:Int),.func (.func 167) #[] #[.pointer (some ⟨B,0,none⟩)]] w (zI P I (mF I s m (fun _=>s.cm.e)) w):=by
 have hT:=h.sl hI;have HI:=Zy hI;have HN:=Zy hI.len;have hcap:=hI.cap;have htop:=hI.top;have HA0:=Zy hI.none;have c0:=h.c0;have c1:=h.c1;have Ko:=h.Ko;have HX:=Zy h;have qd:=h.lt;have CP:∀(w8:World) (vZ:List Value) (b:Option Addr) (p d:Nat) (x:List Int),DI P w8 vZ I s->Ints w8 b x->x.length=p->p<=2000->(b=none->p=0)->Calls Tryz.prog 169 #[.pointer (some ⟨P,0,none⟩),.int .i64 (I.k:Int),.int .i64 ((I.k+m:Nat):Int),.slice b p d] w8 (zI P I (Uz I s I.k (I.k+m) x) w8):=
  fun w8 vZ b p d x h8 hb hp hp2 h0=>WR P I.k (I.k+m) vZ I HI.out s b p d x w8 h8 hb hp hp2 h0 QQ hk
 have kS:=Zy CP;clear CP h hI;obtain⟨y,hy⟩:∃y,(I.t.take (I.k+m)).drop I.k=y:=⟨_,rfl⟩;have hcr:=zl I.a I.n I.c I.k (I.k+m) QQ QQ;rw[show I.k+m-I.k=m from QQ]at hcr;obtain⟨K2,hK2⟩:∃K2,I.k+m=K2:=⟨_,rfl⟩;have iw:IntKind.i64.wrap ((I.k:Int)+(m:Int))=(K2:Int):=QDJ;rw[hK2]at hcr kS;have HL:=Zy (show y.length=m from QEi);have hcut:=hT.Bt (c:=I.c) I.k (I.k+m) QEW QQ QDr;rw[hy]at hcut;obtain⟨aa,Ra⟩:∃aa,qO I.a I.c I.k=aa:=⟨_,rfl⟩;rw[Ra]at hcr hcut;have HY:=Zy hy;have QKz:=Zy hcut;clear hy hT hcut Ra;go_enter Tryz.func164,Tryz.ntmps164
 go_upto_region 1 with fail
 go_cut [26,27,28] (fun v z i wx=>v=.slice aa m (I.c-I.k)/\z=.int .i64 (m:Int)/\i=.int .i64 0/\Below w.heap.size w wx)
 case first=>
  exact QI3
 obtain⟨rfl,rfl,rfl,hb1⟩:=hcut;clear c0 c1 hcr;go_wp2
 go_loopw [6,28] (fun v i wr=>∃j:Nat,i=.int .i64 (j:Int)/\j<=m/\Own 3 w.heap.size wr v ((y.take j).map (fun _=>s.cm.e))/\Below w.heap.size w wr) (fun _ i _=>m-(intOf i).toNat)
 case atStart=>exact⟨0,rfl,Z4 _,Own.nil _ _ _,hb1⟩
 case round=>
  obtain⟨j,rfl,hj,hown,hb2⟩:=hrel;obtain⟨av,nv,cv,rfl⟩:=hown.form;by_cases hlt:j<m
  ·have uW:=QKz.out.below hb2
   obtain⟨b1,o1,rfl,hc⟩:=uW.at (k:=j) QH;have e1:=hc j QH;have hlen:((y.take j).map (fun _=>s.cm.e)).length<17592186044416:=by rw[YU,Zi,HL.out];omega
   have hsz:=hb2.size;clear hc uW;have d0:wr.cell? ⟨B,0,none⟩=some (.pointer (some ⟨P,0,none⟩)):=by rw[hb2.cell (Xb hbx)];exact hbx
   have d33:wr.cell? ⟨P,33,none⟩=some (.int .i64 s.cm.e):=by rw[hb2.cell qd];exact Ko
   go_wp2_with fail
   refine(Nb _ s.cm.e P B _ d0 d33).mono ?_;rintro e w3 ⟨rfl,rfl⟩;go_wp2_with (at_builtin;refine app1 rfl _ _ rfl w.heap.size _ _ _ _ rfl rfl (hown.alloc _) (JQ _ _ _) hlen (XJ hsz _) ?_;intro v1 w1 hown1 hgrow1;obtain⟨a1,n1,m1,rfl⟩:=hown1.form)
   go_roundw
   case rel=>exact⟨j+1,Qy,QQ,by rw[xV (fun _=>s.cm.e) QH];exact hown1,(hb2.alloc hsz _).grown hgrow1 QY (fun k hk=>QDj)⟩
   case measure=>simp[intOf];omega
  ·obtain rfl:j=m:=by omega
   rw[Z6 (by rw[HL.out];exact ZB _)]at hown;go_wp2;have h8:=HX.out.to hb2;have c1:=h8.c1;have H8:=Zy h8;have HO:=Zy hown;clear h8 hown
   go_region_law (first|(go_simp;go_at_call 169;go_loud (refine(kS.out _ _ _ _ _ (y.map (fun _=>s.cm.e)) H8.out.drew HO.out.get.2.1 HO.out.get.1 QE7 HO.out.sl.get.2.2.2.2).mono ?_;rintro e w9 ⟨rfl,iH,qV⟩)))
   all_goals
    exact QIS
end Go.Proofs.YtmdnepkekekncaaGreat
