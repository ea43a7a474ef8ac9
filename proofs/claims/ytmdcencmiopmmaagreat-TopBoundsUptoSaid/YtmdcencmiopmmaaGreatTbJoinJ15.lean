/- LiftTopBounds: joined, no condition of its own. -/
import Derived.Test.YtmdcencmiopmmaaGreatTbJoinT
import Derived.Test.YtmdcencmiopmmaaGreatTbJoinJ9
import Derived.Test.YtmdcencmiopmmaaGreatTbJoinJ13
set_option linter.unusedVariables false
set_option linter.unusedSimpArgs false
set_option maxRecDepth 100000
set_option maxHeartbeats 12000000
namespace Go.Proofs.YtmdcencmiopmmaaGreat
open Go.RowKit
theorem Gt(c x:Int)(P B:Nat)(w:World)(hb:w.cell? ⟨B,0,none⟩=some (.pointer (some ⟨P,0,none⟩)))(hc:w.cell? ⟨P,33,none⟩=some (.int .i64 x)):
  Calls Tryz.prog 276 #[.int .i64 c,.pointer (some ⟨B,0,none⟩)] w fun e w'=>e=.returned (.int .i64 x)/\w=w':=by
 go_enter Tryz.func276,Tryz.ntmps276
 exact QvI
theorem WA{l:List Int}{j:Nat}(f:Int->Int)(h:j<l.length):(l.take (j+1)).map f=(l.take j).map f++[f (ix l j)]:=by
 rw[Qo h,List.map_append];simp[ix,QN,Qr h]
theorem vD(P m:Nat)(us:List Value)(I:In)(hI:YC I)(s:St)(w:World)(h:DI P w us I s)(hk:I.k+m<=I.n):
  Calls Tryz.prog 273 #[.pointer (some ⟨P,0,none⟩),.int .i64 (m:Int),.func (.func 274) #[] #[]] w (Vt P I (Te I s m VL) w):=by
 have hT:=h.sl hI;have HI:=QQ hI;have HN:=QQ hI.len;have hcap:=hI.cap;have htop:=hI.top;have HA0:=QQ hI.none;have c0:=h.c0;have c1:=h.c1;have HX:=QQ h;have VF:=h.lt;have CP:∀(w8:World) (yA:List Value) (b:Option Addr) (p d:Nat) (x:List Int),DI P w8 yA I s->Ints w8 b x->x.length=p->p<=2000->(b=none->p=0)->Calls Tryz.prog 278 #[.pointer (some ⟨P,0,none⟩),.int .i64 (I.k:Int),.int .i64 ((I.k+m:Nat):Int),.slice b p d] w8 (Vt P I (Ja I s I.k (I.k+m) x) w8):=
  fun w8 yA b p d x h8 hb hp hp2 h0=>Ug P I.k (I.k+m) yA I HI.out s b p d x w8 h8 hb hp hp2 h0 (by omega) hk
 have xz:=QQ CP;clear CP h hI;obtain⟨y,hy⟩:∃y,(I.t.take (I.k+m)).drop I.k=y:=⟨_,rfl⟩;have hcr:=Wq I.a I.n I.c I.k (I.k+m) (by omega) (by omega);rw[show I.k+m-I.k=m from by omega]at hcr;obtain⟨K2,hK2⟩:∃K2,I.k+m=K2:=⟨_,rfl⟩;have iw:IntKind.i64.wrap ((I.k:Int)+(m:Int))=(K2:Int):=by rw[Ze];omega
 rw[hK2]at hcr xz;have HL:=QQ (show y.length=m by rw[<-hy,Q7,QT,HN.out];omega);have hcut:=hT.uQ (c:=I.c) I.k (I.k+m) (by rw[HN.out];exact hcap) (by omega) (by rw[HN.out];exact hk);rw[hy]at hcut;obtain⟨aa,Mq⟩:∃aa,VD I.a I.c I.k=aa:=⟨_,rfl⟩;rw[Mq]at hcr hcut;have HY:=QQ hy;have QQC:=QQ hcut;clear hy hT hcut Mq;go_enter Tryz.func273,Tryz.ntmps273
 go_upto_region 1 with fail
 go_cut [26,27,28] (fun v z i wx=>v=.slice aa m (I.c-I.k)/\z=.int .i64 (m:Int)/\i=.int .i64 0/\Below w.heap.size w wx)
 case first=>
  exact QAj
 obtain⟨rfl,rfl,rfl,hb1⟩:=hcut;clear c0 c1 hcr;go_wp2
 go_loopw [6,28] (fun v i wr=>∃j:Nat,i=.int .i64 (j:Int)/\j<=m/\Own 3 w.heap.size wr v ((y.take j).map VL)/\Below w.heap.size w wr) (fun _ i _=>m-(intOf i).toNat)
 case atStart=>exact⟨0,rfl,Qe _,Own.nil _ _ _,hb1⟩
 case round=>
  obtain⟨j,rfl,hj,hown,hb2⟩:=hrel;obtain⟨av,nv,cv,rfl⟩:=hown.form;by_cases hlt:j<m
  ·have xG:=QQC.out.below hb2
   obtain⟨b1,o1,rfl,hc⟩:=xG.at (k:=j) (by rw[HL.out];exact hlt);have e1:=hc j (by rw[HL.out];exact hlt);have hlen:((y.take j).map VL).length<17592186044416:=by rw[Zn,QT,HL.out];omega
   have hsz:=hb2.size;clear hc xG;go_wp2_with fail
   refine(FU _ _).mono ?_;rintro e w3 ⟨rfl,rfl⟩;go_wp2_with (at_builtin;refine app1 rfl _ _ rfl w.heap.size _ _ _ _ rfl rfl (hown.alloc _) (Xi _ _ _) hlen (ZV hsz _) ?_;intro v1 w1 hown1 hgrow1;obtain⟨a1,n1,m1,rfl⟩:=hown1.form)
   go_roundw
   case rel=>exact⟨j+1,by go_num,by omega,by rw[WA VL (by rw[HL.out];exact hlt)];exact hown1,(hb2.alloc hsz _).grown hgrow1 (by simp;omega) (fun k hk=>by have:=hown.row k hk;omega)⟩
   case measure=>simp[intOf];omega
  ·obtain rfl:j=m:=by omega
   rw[Q5 (by rw[HL.out];exact QU _)]at hown;go_wp2;have h8:=HX.out.to hb2;have c1:=h8.c1;have H8:=QQ h8;have HO:=QQ hown;clear h8 hown
   go_region_law (first|(go_simp;go_at_call 278;go_loud (refine(xz.out _ _ _ _ _ (y.map VL) H8.out.drew HO.out.get.2.1 HO.out.get.1 (by have:=HO.out.get.1;rw[Zn,HL.out]at this;omega) HO.out.sl.get.2.2.2.2).mono ?_;rintro e w9 ⟨rfl,Sa,VQ⟩)))
   all_goals
    exact Qv5
theorem FV(P m:Nat)(B:Nat)(us:List Value)(I:In)(hI:YC I)(s:St)(w:World)(h:DI P w us I s)(hk:I.k+m<=I.n)(hbx:w.cell? ⟨B,0,none⟩=some (.pointer (some ⟨P,0,none⟩))):
  Calls Tryz.prog 273 #[.pointer (some ⟨P,0,none⟩),.int .i64 (m:Int),.func (.func 276) #[] #[.pointer (some ⟨B,0,none⟩)]] w (Vt P I (Te I s m (fun _=>s.cm.e)) w):=by
 have hT:=h.sl hI;have HI:=QQ hI;have HN:=QQ hI.len;have hcap:=hI.cap;have htop:=hI.top;have HA0:=QQ hI.none;have c0:=h.c0;have c1:=h.c1;have JA:=h.JA;have HX:=QQ h;have VF:=h.lt;have CP:∀(w8:World) (yA:List Value) (b:Option Addr) (p d:Nat) (x:List Int),DI P w8 yA I s->Ints w8 b x->x.length=p->p<=2000->(b=none->p=0)->Calls Tryz.prog 278 #[.pointer (some ⟨P,0,none⟩),.int .i64 (I.k:Int),.int .i64 ((I.k+m:Nat):Int),.slice b p d] w8 (Vt P I (Ja I s I.k (I.k+m) x) w8):=
  fun w8 yA b p d x h8 hb hp hp2 h0=>Ug P I.k (I.k+m) yA I HI.out s b p d x w8 h8 hb hp hp2 h0 (by omega) hk
 have xz:=QQ CP;clear CP h hI;obtain⟨y,hy⟩:∃y,(I.t.take (I.k+m)).drop I.k=y:=⟨_,rfl⟩;have hcr:=Wq I.a I.n I.c I.k (I.k+m) (by omega) (by omega);rw[show I.k+m-I.k=m from by omega]at hcr;obtain⟨K2,hK2⟩:∃K2,I.k+m=K2:=⟨_,rfl⟩;have iw:IntKind.i64.wrap ((I.k:Int)+(m:Int))=(K2:Int):=by rw[Ze];omega
 rw[hK2]at hcr xz;have HL:=QQ (show y.length=m by rw[<-hy,Q7,QT,HN.out];omega);have hcut:=hT.uQ (c:=I.c) I.k (I.k+m) (by rw[HN.out];exact hcap) (by omega) (by rw[HN.out];exact hk);rw[hy]at hcut;obtain⟨aa,Mq⟩:∃aa,VD I.a I.c I.k=aa:=⟨_,rfl⟩;rw[Mq]at hcr hcut;have HY:=QQ hy;have QQC:=QQ hcut;clear hy hT hcut Mq;go_enter Tryz.func273,Tryz.ntmps273
 go_upto_region 1 with fail
 go_cut [26,27,28] (fun v z i wx=>v=.slice aa m (I.c-I.k)/\z=.int .i64 (m:Int)/\i=.int .i64 0/\Below w.heap.size w wx)
 case first=>
  exact QAj
 obtain⟨rfl,rfl,rfl,hb1⟩:=hcut;clear c0 c1 hcr;go_wp2
 go_loopw [6,28] (fun v i wr=>∃j:Nat,i=.int .i64 (j:Int)/\j<=m/\Own 3 w.heap.size wr v ((y.take j).map (fun _=>s.cm.e))/\Below w.heap.size w wr) (fun _ i _=>m-(intOf i).toNat)
 case atStart=>exact⟨0,rfl,Qe _,Own.nil _ _ _,hb1⟩
 case round=>
  obtain⟨j,rfl,hj,hown,hb2⟩:=hrel;obtain⟨av,nv,cv,rfl⟩:=hown.form;by_cases hlt:j<m
  ·have xG:=QQC.out.below hb2
   obtain⟨b1,o1,rfl,hc⟩:=xG.at (k:=j) (by rw[HL.out];exact hlt);have e1:=hc j (by rw[HL.out];exact hlt);have hlen:((y.take j).map (fun _=>s.cm.e)).length<17592186044416:=by rw[Zn,QT,HL.out];omega
   have hsz:=hb2.size;clear hc xG;have d0:wr.cell? ⟨B,0,none⟩=some (.pointer (some ⟨P,0,none⟩)):=by rw[hb2.cell (Zv hbx)];exact hbx
   have d33:wr.cell? ⟨P,33,none⟩=some (.int .i64 s.cm.e):=by rw[hb2.cell VF];exact JA
   go_wp2_with fail
   refine(Gt _ s.cm.e P B _ d0 d33).mono ?_;rintro e w3 ⟨rfl,rfl⟩;go_wp2_with (at_builtin;refine app1 rfl _ _ rfl w.heap.size _ _ _ _ rfl rfl (hown.alloc _) (Xi _ _ _) hlen (ZV hsz _) ?_;intro v1 w1 hown1 hgrow1;obtain⟨a1,n1,m1,rfl⟩:=hown1.form)
   go_roundw
   case rel=>exact⟨j+1,by go_num,by omega,by rw[WA (fun _=>s.cm.e) (by rw[HL.out];exact hlt)];exact hown1,(hb2.alloc hsz _).grown hgrow1 (by simp;omega) (fun k hk=>by have:=hown.row k hk;omega)⟩
   case measure=>simp[intOf];omega
  ·obtain rfl:j=m:=by omega
   rw[Q5 (by rw[HL.out];exact QU _)]at hown;go_wp2;have h8:=HX.out.to hb2;have c1:=h8.c1;have H8:=QQ h8;have HO:=QQ hown;clear h8 hown
   go_region_law (first|(go_simp;go_at_call 278;go_loud (refine(xz.out _ _ _ _ _ (y.map (fun _=>s.cm.e)) H8.out.drew HO.out.get.2.1 HO.out.get.1 (by have:=HO.out.get.1;rw[Zn,HL.out]at this;omega) HO.out.sl.get.2.2.2.2).mono ?_;rintro e w9 ⟨rfl,Sa,VQ⟩)))
   all_goals
    exact Qv5
end Go.Proofs.YtmdcencmiopmmaaGreat
