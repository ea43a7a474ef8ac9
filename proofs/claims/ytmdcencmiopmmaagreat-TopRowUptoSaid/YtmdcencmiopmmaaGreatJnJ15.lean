/- joined, no condition of its own. -/
import Derived.Test.YtmdcencmiopmmaaGreatJnT
import Derived.Test.YtmdcencmiopmmaaGreatJnJ9
import Derived.Test.YtmdcencmiopmmaaGreatJnJ13
import Derived.Test.YtmdcencmiopmmaaGreatJnJ14
set_option linter.unusedVariables false
set_option linter.unusedSimpArgs false
set_option maxRecDepth 100000
set_option maxHeartbeats 12000000
namespace Go.Proofs.YtmdcencmiopmmaaGreat
open Go.RowKit
theorem QJz{P:Nat}{rg:Int}{vs:List Value}{w w1 w2:World}(hP:P<w.heap.size)(h:(w1.cell? ⟨P,30,none⟩=some (.int .i64 rg)/\w1.rangeAt P 2 vs/\Below w.heap.size w w1))(hb:Below w.heap.size w1 w2):w2.cell? ⟨P,30,none⟩=some (.int .i64 rg)/\w2.rangeAt P 2 vs/\Below w.heap.size w w2:=
 ⟨QBe,fun j v hv=>by rw[hb.cell hP];exact h.2.1 j v hv,h.2.2.trans hb⟩
theorem QZX{P:Nat}{rg:Int}{vs:List Value}{w w1 w2:World}(hP:P<w.heap.size)(h:(w1.cell? ⟨P,30,none⟩=some (.int .i64 rg)/\w1.rangeAt P 2 vs/\Below w.heap.size w w1))(hb:Below w1.heap.size w1 w2):w2.cell? ⟨P,30,none⟩=some (.int .i64 rg)/\w2.rangeAt P 2 vs/\Below w.heap.size w w2:=
 QJz hP h (hb.mono h.2.2.size)
theorem Rc{X:List (List Int)}{rg:Int}(h:zN X rg=0):UK X rg≠[]:=by
 unfold zN UK at *;split at h
 ·omega
 ·rename_i h1
  rw[if_neg h1];unfold PT at h;split at h
  ·omega
  ·assumption
theorem aA{n m N:Nat}(hn:n<=200)(hm:0<m):(200-(n:Int)) / (m:Int)<(N:Int)↔(200:Int)<(n:Int)+(N:Int)*(m:Int):=by
 rw[Int.ediv_lt_iff_lt_mul QQ];omega
theorem Ag(P i:Nat)(us:List Value)(I:In)(hI:Je I)(s:St)(w:World)(h:DI P w us I s)(hi:i<=I.n)(hc0:0<=s.cm.a)(hc1:s.cm.a<=999):
  Calls Tryz.prog 272 #[.pointer (some ⟨P,0,none⟩),.int .i64 (i:Int)] w (Y1 P I (Fg I s i).1 (Fg I s i).2 w):=by
 have hR:=h.rg hI;have HS:=Zy hI.small;have HI:=Zy hI;have htop:=hI.top;have UB:=h.UB;have rr:=h.rr hI;have hlv:=hI.MB.lv;have qy:=h.lt;have HX:=Zy h;have HII:=Zy hi;obtain⟨y,hy⟩:∃y,UK I.X s.cm.b=y:=⟨_,rfl⟩;obtain⟨E,hE⟩:∃E,zN I.X s.cm.b=E:=⟨_,rfl⟩;obtain⟨rg,hrg⟩:∃rg,s.cm.b=rg:=⟨_,rfl⟩;obtain⟨N,hN,hN1,RO⟩:∃N:Nat,max 1 s.cm.a=(N:Int)/\1<=N/\N<=999:=⟨(max 1 s.cm.a).toNat,QQ,QQ,QQ⟩;obtain⟨m,hm⟩:∃m,y.length=m:=⟨_,rfl⟩;have hps:Fg I s i=if E≠0 then(E,s)else if 200<(I.n:Int)+(N:Int)*(m:Int)then(2,s)else(0,{Uq I s i i (qJ y N)with p:=(i:Int)+(N:Int)*(m:Int)-1}):=by
  rw[Fg,hy,hE,hN,hm];rfl
 rw[hps];have hpos:E=0->0<m:=fun h0=>by
  have:=Rc (hE.trans h0);rw[hy]at this;rw[<-hm];exact X6.2 this
 have GET:∀w1,Below w.heap.size w w1->Calls Tryz.prog 291 #[.agg I.vs.toArray,.int .i64 rg] w1 (yG y E w1):=fun w1 hb=>by
  have:=lq I.vs I.X rg w1 (hR.below hb) HS.out;rw[<-hrg,hy,hE]at this;rw[<-hrg];exact this
 rw[hrg]at UB;have HG:=Zy GET;have hu:=Ju;have hz:(Tryz.prog.info? 36).map (·.size)=some I.vs.length:=by rw[hlv];exact Yo
 obtain⟨vs,hvs⟩:∃vs,I.vs=vs:=⟨_,rfl⟩;rw[hvs]at HG hz rr;have HP:=Zy hpos;have HM:=Zy hm;clear GET hR hy hE hrg hvs hps hpos hI h hi hm;go_enter Tryz.func272,Tryz.ntmps272
 go_upto_region 1 with fail
 go_cut [5,6] (fun v e wx=>∃a5 n5 c5,v=.slice a5 n5 c5/\e=.int .i64 E/\Sl wx (.slice a5 n5 c5) y/\Below w.heap.size w wx)
 case first=>
  go_region_held3 (fun w'=>w'.cell? ⟨P,30,none⟩=some (.int .i64 rg)/\w'.rangeAt P 2 vs/\Below w.heap.size w w') (first|exact⟨UB,rr,(ZH _ _).drew⟩|assumption|exact QZX qy ‹_› ‹_›)
   (first|(go_at_call 291;refine(HG.out _ (ZH _ _).drew).mono ?_;rintro e w8 ⟨v8,rfl,sl8,XF⟩;have sl9:=sl8;obtain⟨a8,n8,c8,rfl,-,-,-,-,-⟩:=sl9))
  all_goals
   go_wp2;go_meet;exact⟨_,_,_,rfl,rfl,sl8,((ZH _ _).drew).trans XF⟩
 obtain⟨a5,n5,c5,rfl,rfl,sl5,hb5⟩:=hcut;have h5:=HX.out.to hb5;clear UB rr hz hu hlv;have c0:=h5.c0;have YE:=h5.YE;obtain⟨g1,g2,g3,g4,g5⟩:=sl5.get;have hn5:n5=m:=by rw[<-g1,HM.out]
 subst hn5;have G4:=Zy g4;have G5:=Zy g5;have H5:=Zy h5;clear g4 g5 sl5 h5 g1;by_cases h0:E=0
 ·have hm0:=HP.out h0
  subst h0;obtain⟨ct,hct⟩:∃ct,s.cm.a=ct:=⟨_,rfl⟩;rw[hct]at YE hN hc0 hc1;have yN:=Zy hct;have UN:=Zy hN;clear hct hN;have HC0:=Zy c0;clear c0;go_upto_region 4 with fail
  go_cut [7] (fun v wx=>v=.int .i64 (N:Int)/\wx=wc)
  case first=>
   have h3:ct=0\/ct=1\/2<=ct:=QQ;rcases h3 with rfl|rfl|h3
   ·obtain rfl:N=1:=by have:=UN.out;omega
    exact QDL
   ·obtain rfl:N=1:=by have:=UN.out;omega
    exact QDL
   ·obtain rfl:ct=(N:Int):=by have:=UN.out;omega
    exact QDL
  obtain⟨rfl,rfl⟩:=hcut;have c0:=HC0.out;clear YE hc0 hc1;by_cases hbig:(200:Int)<(I.n:Int)+(N:Int)*(n5:Int)
  ·have hq:=(aA htop hm0 (N:=N)).2 hbig
   have HB:=Zy hbig;clear hbig;go_wp2;go_ret;exact⟨rfl,⟨_,by first|exact H5.out|(rw[if_pos HB.out];exact H5.out)⟩,Yx.of hb5⟩
  ·have hq:(N:Int)<=(200-(I.n:Int)) / (n5:Int):=Int.not_lt.1 fun hx=>hbig ((aA htop hm0 (N:=N)).1 hx)
   obtain⟨M,hM⟩:∃M,N*n5=M:=⟨_,rfl⟩;have hmul:(N:Int)*(n5:Int)=(M:Int):=by rw[<-hM];push_cast;rfl
   have hM2:M<=200:=by rw[hmul]at hbig;omega
   have hM3:n5<=M:=by rw[<-hM];exact Nat.le_mul_of_pos_left _ QQ
   have iw1:IntKind.i64.wrap ((N:Int)*(n5:Int))=(M:Int):=by rw[hmul,Xh];omega
   have hi2:i<=200:=by have:=HII.out;omega
   have HB:=Zy hbig;have HMU:=Zy hmul;have HRL:=Zy (show(qJ y N).length=M by rw[qG,HM.out,Nat.mul_comm];exact hM);clear hbig hmul hM;go_wp2_with (first|(go_at_call 63;refine(Vh _ _ _ _ y _ G4.out HM.out QQ QQ).mono ?_;rintro e w6 ⟨v6,rfl,o6,hb6⟩;obtain⟨a6,n6,c6,rfl⟩:=o6.form;have O6:=Zy o6;clear o6)|(go_at_call 278;go_loud (refine(Wy P i i us I HI.out s _ _ _ (qJ y N) _ (H5.out.to hb6) O6.out.get.2.1 O6.out.get.1 (by have:=O6.out.get.1;rw[HRL.out]at this;omega) O6.out.sl.get.2.2.2.2 (ZB _) HII.out).mono ?_;rintro e w7 ⟨rfl,⟨us7,h7⟩,jP⟩;have xE:=h7.xE;have f35:=h7.free 35;have H7:=Zy h7;clear h7)))
   all_goals
    go_ret
    first
     | exact absurd (show(200:Int)<(I.n:Int)+(N:Int)*(n5:Int) from QH) (by have:=HB.out;omega)
     | exact⟨rfl,⟨_,by rw[HMU.out];exact H7.out.Uz _⟩,(((Yx.of hb5).trans (Yx.of hb6)).trans jP).trans (Yx.set _)⟩
 ·have n0:(E !=0)=true:=by simpa using h0
  have HE:=Zy h0;clear h0;go_wp2;go_ret;exact⟨rfl,⟨_,by first|exact H5.out|(rw[if_pos HE.out];exact H5.out)⟩,Yx.of hb5⟩
theorem ME(c x:Int)(P B:Nat)(w:World)(hb:w.cell? ⟨B,0,none⟩=some (.pointer (some ⟨P,0,none⟩)))(hc:w.cell? ⟨P,33,none⟩=some (.int .i64 x)):
  Calls Tryz.prog 276 #[.int .i64 c,.pointer (some ⟨B,0,none⟩)] w fun e w'=>e=.returned (.int .i64 x)/\w=w':=by
 go_enter Tryz.func276,Tryz.ntmps276
 exact QEd
theorem zG{l:List Int}{j:Nat}(f:Int->Int)(h:j<l.length):(l.take (j+1)).map f=(l.take j).map f++[f (ix l j)]:=by
 rw[XX h,List.map_append];simp[ix,Zf,XJ h]
theorem CJ(P m:Nat)(us:List Value)(I:In)(hI:Je I)(s:St)(w:World)(h:DI P w us I s)(hk:I.k+m<=I.n):
  Calls Tryz.prog 273 #[.pointer (some ⟨P,0,none⟩),.int .i64 (m:Int),.func (.func 274) #[] #[]] w (qp P I (eG I s m qD) w):=by
 have hT:=h.sl hI;have HI:=Zy hI;have HN:=Zy hI.len;have hcap:=hI.cap;have htop:=hI.top;have HA0:=Zy hI.none;have c0:=h.c0;have c1:=h.c1;have HX:=Zy h;have qy:=h.lt;have CP:∀(w8:World) (uY:List Value) (b:Option Addr) (p d:Nat) (x:List Int),DI P w8 uY I s->Ints w8 b x->x.length=p->p<=2000->(b=none->p=0)->Calls Tryz.prog 278 #[.pointer (some ⟨P,0,none⟩),.int .i64 (I.k:Int),.int .i64 ((I.k+m:Nat):Int),.slice b p d] w8 (qp P I (Uq I s I.k (I.k+m) x) w8):=
  fun w8 uY b p d x h8 hb hp hp2 h0=>Wy P I.k (I.k+m) uY I HI.out s b p d x w8 h8 hb hp hp2 h0 QQ hk
 have jg:=Zy CP;clear CP h hI;obtain⟨y,hy⟩:∃y,(I.t.take (I.k+m)).drop I.k=y:=⟨_,rfl⟩;have hcr:=zy I.a I.n I.c I.k (I.k+m) QQ QQ;rw[show I.k+m-I.k=m from QQ]at hcr;obtain⟨K2,hK2⟩:∃K2,I.k+m=K2:=⟨_,rfl⟩;have iw:IntKind.i64.wrap ((I.k:Int)+(m:Int))=(K2:Int):=QAz;rw[hK2]at hcr jg;have HL:=Zy (show y.length=m from QBO);have hcut:=hT.Ai (c:=I.c) I.k (I.k+m) QA6 QQ QBU;rw[hy]at hcut;obtain⟨aa,Ob⟩:∃aa,qV I.a I.c I.k=aa:=⟨_,rfl⟩;rw[Ob]at hcr hcut;have HY:=Zy hy;have QXi:=Zy hcut;clear hy hT hcut Ob;go_enter Tryz.func273,Tryz.ntmps273
 go_upto_region 1 with fail
 go_cut [26,27,28] (fun v z i wx=>v=.slice aa m (I.c-I.k)/\z=.int .i64 (m:Int)/\i=.int .i64 0/\Below w.heap.size w wx)
 case first=>
  exact QFO
 obtain⟨rfl,rfl,rfl,hb1⟩:=hcut;clear c0 c1 hcr;go_wp2
 go_loopw [6,28] (fun v i wr=>∃j:Nat,i=.int .i64 (j:Int)/\j<=m/\Own 3 w.heap.size wr v ((y.take j).map qD)/\Below w.heap.size w wr) (fun _ i _=>m-(intOf i).toNat)
 case atStart=>exact⟨0,rfl,Z0 _,Own.nil _ _ _,hb1⟩
 case round=>
  obtain⟨j,rfl,hj,hown,hb2⟩:=hrel;obtain⟨av,nv,cv,rfl⟩:=hown.form;by_cases hlt:j<m
  ·have kX:=QXi.out.below hb2
   obtain⟨b1,o1,rfl,hc⟩:=kX.at (k:=j) QE;have e1:=hc j QE;have hlen:((y.take j).map qD).length<17592186044416:=by rw[YZ,Zp,HL.out];omega
   have hsz:=hb2.size;clear hc kX;go_wp2_with fail
   refine(IP _ _).mono ?_;rintro e w3 ⟨rfl,rfl⟩;go_wp2_with (at_builtin;refine app1 rfl _ _ rfl w.heap.size _ _ _ _ rfl rfl (hown.alloc _) (Y8 _ _ _) hlen (XG hsz _) ?_;intro v1 w1 hown1 hgrow1;obtain⟨a1,n1,m1,rfl⟩:=hown1.form)
   go_roundw
   case rel=>exact⟨j+1,Qk,QQ,by rw[zG qD QE];exact hown1,(hb2.alloc hsz _).grown hgrow1 QY (fun k hk=>Qvw)⟩
   case measure=>simp[intOf];omega
  ·obtain rfl:j=m:=by omega
   rw[XV (by rw[HL.out];exact ZB _)]at hown;go_wp2;have h8:=HX.out.to hb2;have c1:=h8.c1;have H8:=Zy h8;have HO:=Zy hown;clear h8 hown
   go_region_law (first|(go_simp;go_at_call 278;go_loud (refine(jg.out _ _ _ _ _ (y.map qD) H8.out.drew HO.out.get.2.1 HO.out.get.1 QBg HO.out.sl.get.2.2.2.2).mono ?_;rintro e w9 ⟨rfl,cz,Wq⟩)))
   all_goals
    exact QFz
theorem Ia(P m:Nat)(B:Nat)(us:List Value)(I:In)(hI:Je I)(s:St)(w:World)(h:DI P w us I s)(hk:I.k+m<=I.n)(hbx:w.cell? ⟨B,0,none⟩=some (.pointer (some ⟨P,0,none⟩))):
  Calls Tryz.prog 273 #[.pointer (some ⟨P,0,none⟩),.int .i64 (m:Int),.func (.func 276) #[] #[.pointer (some ⟨B,0,none⟩)]] w (qp P I (eG I s m (fun _=>s.cm.e)) w):=by
 have hT:=h.sl hI;have HI:=Zy hI;have HN:=Zy hI.len;have hcap:=hI.cap;have htop:=hI.top;have HA0:=Zy hI.none;have c0:=h.c0;have c1:=h.c1;have Kr:=h.Kr;have HX:=Zy h;have qy:=h.lt;have CP:∀(w8:World) (uY:List Value) (b:Option Addr) (p d:Nat) (x:List Int),DI P w8 uY I s->Ints w8 b x->x.length=p->p<=2000->(b=none->p=0)->Calls Tryz.prog 278 #[.pointer (some ⟨P,0,none⟩),.int .i64 (I.k:Int),.int .i64 ((I.k+m:Nat):Int),.slice b p d] w8 (qp P I (Uq I s I.k (I.k+m) x) w8):=
  fun w8 uY b p d x h8 hb hp hp2 h0=>Wy P I.k (I.k+m) uY I HI.out s b p d x w8 h8 hb hp hp2 h0 QQ hk
 have jg:=Zy CP;clear CP h hI;obtain⟨y,hy⟩:∃y,(I.t.take (I.k+m)).drop I.k=y:=⟨_,rfl⟩;have hcr:=zy I.a I.n I.c I.k (I.k+m) QQ QQ;rw[show I.k+m-I.k=m from QQ]at hcr;obtain⟨K2,hK2⟩:∃K2,I.k+m=K2:=⟨_,rfl⟩;have iw:IntKind.i64.wrap ((I.k:Int)+(m:Int))=(K2:Int):=QAz;rw[hK2]at hcr jg;have HL:=Zy (show y.length=m from QBO);have hcut:=hT.Ai (c:=I.c) I.k (I.k+m) QA6 QQ QBU;rw[hy]at hcut;obtain⟨aa,Ob⟩:∃aa,qV I.a I.c I.k=aa:=⟨_,rfl⟩;rw[Ob]at hcr hcut;have HY:=Zy hy;have QXi:=Zy hcut;clear hy hT hcut Ob;go_enter Tryz.func273,Tryz.ntmps273
 go_upto_region 1 with fail
 go_cut [26,27,28] (fun v z i wx=>v=.slice aa m (I.c-I.k)/\z=.int .i64 (m:Int)/\i=.int .i64 0/\Below w.heap.size w wx)
 case first=>
  exact QFO
 obtain⟨rfl,rfl,rfl,hb1⟩:=hcut;clear c0 c1 hcr;go_wp2
 go_loopw [6,28] (fun v i wr=>∃j:Nat,i=.int .i64 (j:Int)/\j<=m/\Own 3 w.heap.size wr v ((y.take j).map (fun _=>s.cm.e))/\Below w.heap.size w wr) (fun _ i _=>m-(intOf i).toNat)
 case atStart=>exact⟨0,rfl,Z0 _,Own.nil _ _ _,hb1⟩
 case round=>
  obtain⟨j,rfl,hj,hown,hb2⟩:=hrel;obtain⟨av,nv,cv,rfl⟩:=hown.form;by_cases hlt:j<m
  ·have kX:=QXi.out.below hb2
   obtain⟨b1,o1,rfl,hc⟩:=kX.at (k:=j) QE;have e1:=hc j QE;have hlen:((y.take j).map (fun _=>s.cm.e)).length<17592186044416:=by rw[YZ,Zp,HL.out];omega
   have hsz:=hb2.size;clear hc kX;have d0:wr.cell? ⟨B,0,none⟩=some (.pointer (some ⟨P,0,none⟩)):=by rw[hb2.cell (XU hbx)];exact hbx
   have d33:wr.cell? ⟨P,33,none⟩=some (.int .i64 s.cm.e):=by rw[hb2.cell qy];exact Kr
   go_wp2_with fail
   refine(ME _ s.cm.e P B _ d0 d33).mono ?_;rintro e w3 ⟨rfl,rfl⟩;go_wp2_with (at_builtin;refine app1 rfl _ _ rfl w.heap.size _ _ _ _ rfl rfl (hown.alloc _) (Y8 _ _ _) hlen (XG hsz _) ?_;intro v1 w1 hown1 hgrow1;obtain⟨a1,n1,m1,rfl⟩:=hown1.form)
   go_roundw
   case rel=>exact⟨j+1,Qk,QQ,by rw[zG (fun _=>s.cm.e) QE];exact hown1,(hb2.alloc hsz _).grown hgrow1 QY (fun k hk=>Qvw)⟩
   case measure=>simp[intOf];omega
  ·obtain rfl:j=m:=by omega
   rw[XV (by rw[HL.out];exact ZB _)]at hown;go_wp2;have h8:=HX.out.to hb2;have c1:=h8.c1;have H8:=Zy h8;have HO:=Zy hown;clear h8 hown
   go_region_law (first|(go_simp;go_at_call 278;go_loud (refine(jg.out _ _ _ _ _ (y.map (fun _=>s.cm.e)) H8.out.drew HO.out.get.2.1 HO.out.get.1 QBg HO.out.sl.get.2.2.2.2).mono ?_;rintro e w9 ⟨rfl,cz,Wq⟩)))
   all_goals
    exact QFz
end Go.Proofs.YtmdcencmiopmmaaGreat
