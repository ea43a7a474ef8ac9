/- joined, no condition of its own. -/
import Derived.Test.YtmdnepkekekncaaGreatJfJ39
set_option linter.unusedVariables false
set_option linter.unusedSimpArgs false
set_option maxRecDepth 100000
set_option maxHeartbeats 12000000
namespace Go.Proofs.YtmdnepkekekncaaGreat
open Go.RowKit
theorem Eh(W0:World)(F G:Nat->Prop)(B K:Nat)(S:SS)(ca cb cc cd ce:Int)(w:World)(h:YF F G w B S)(hI:Xz K S)(hm:S.mode=0)(hc:0<=ca/\ca<=999)(hK:K<=4398046511103)(hn:S.told.length+K+2<=4398046511103):
  Calls Tryz.prog 63 #[.pointer (some ⟨B,0,none⟩),.agg #[.int .i64 ca,.int .i64 cb,.int .i64 0,.int .i64 107,.int .i64 ce]] w (VP F G w B (S.command W0 ⟨ca,cb,0,107,ce⟩) YM):=by
 obtain⟨f,hf⟩:=h;have hb1:=ZR w (.cells #[.int .i64 ca,.int .i64 cb,.int .i64 0,.int .i64 107,.int .i64 ce] 39);have KR:=Za.new w #[.int .i64 ca,.int .i64 cb,.int .i64 0,.int .i64 107,.int .i64 ce] 39;have hA1:=(At.begin hf).below hb1;obtain⟨p,hpt⟩:=hf.d.text.ptr;have c0:=hA1.hf.cell 0;have htx:=hA1.hf.d.text;rw[hpt]at c0 htx;have HT:=Zy (Wd.list htx Qn);have HI:=Zy hI;have HN:=Zy hn;have HA1:=Zy hA1;have HM:=Zy hm;have he:S.command W0 ⟨ca,cb,0,107,ce⟩=S.moved (qM S.XQ S.text ca (-1)):=by
  unfold SS.command;dsimp only;rw[if_neg QZ];rw[if_neg QZ];rw[if_neg QZ];rw[if_neg QZ];rw[if_pos rfl]
 have HE:=Zy he;clear hI hn hf hb1 hA1 hpt htx he hm;go_enter Tryz.func63,Tryz.ntmps63
 go_wp2_with fail
 refine HT.out.mono ?_;rintro e w2 ⟨v,rfl,o2,hb2⟩;obtain⟨a2,n2,k2,rfl⟩:=o2.form;have hA2:=HA1.out.below hb2;obtain⟨d0,d1,d2,d3,d4⟩:=Za.five (KR.below hb2 KR.lt);clear c0 KR;obtain⟨la,ln,lc,sa,sn,sc,pa,pn,pc,hH,e37,e38,e39,e40,e41,e42⟩:=Kb hA2.hf;have M4:=hA2.hf.cell 37;have x38:=hA2.hf.cell 38;have x39:=hA2.hf.cell 39;have PG:=hA2.hf.cell 40;have R6:=hA2.hf.cell 41;have R5:=hA2.hf.cell 42;rw[e37]at M4;rw[e38]at x38;rw[e39]at x39;rw[e40]at PG;rw[e41]at R6;rw[e42]at R5;have hbd:Below w2.heap.size w2 w2.drew:=Zp.drew (ZH _ w2);have HU:=Zy (QQW _ _ _ _ _ _ S.XQ a2 n2 k2 ca S.text w2.drew (hH.below hbd).hir (o2.get.2.1.below hbd) o2.get.1 (o2.sl.get.2.2.2.2));have HA2:=Zy hA2;have HB2:=Zy hbd;clear hA2 o2 hb2 hH e37 e38 e39 e40 e41 e42 hbd;go_upto_region 13 with fail
 go_region_law (first|(go_simp;go_at_call 94;refine HU.out.mono ?_;rintro e w8 ⟨h8,l8,E8,VJ,lv,sv,pv,nv,rfl,T9,zx,XH⟩;obtain⟨a8,n8,k8,rfl⟩:=zx.form;have qf:=HA2.out.below (Zp.call XH HB2.out))|(go_simp;go_at_call 79;refine Calls.mono (WH _ _ B S lv sv pv h8 a8 n8 k8 l8 E8 w8 ⟨_,qf.hf⟩ (T9.lt.imp fun k hk=>Fx.new k hk) (zx.lt.imp fun k hk=>Fx.new k hk) (zx.len VJ.small) (Zf (Zf (Xn _ _) (Xn _ _)) HN.out)) ?_;rintro e w9 ⟨rfl,iG⟩))
 all_goals
  exact QIy
theorem Ei(W0:World)(F G:Nat->Prop)(B K:Nat)(S:SS)(ca cb cc cd ce:Int)(w:World)(h:YF F G w B S)(hI:Xz K S)(hm:S.mode=0)(hc:0<=ca/\ca<=999)(hK:K<=4398046511103)(hn:S.told.length+K+2<=4398046511103):
  Calls Tryz.prog 63 #[.pointer (some ⟨B,0,none⟩),.agg #[.int .i64 ca,.int .i64 cb,.int .i64 0,.int .i64 106,.int .i64 ce]] w (VP F G w B (S.command W0 ⟨ca,cb,0,106,ce⟩) YM):=by
 obtain⟨f,hf⟩:=h;have hb1:=ZR w (.cells #[.int .i64 ca,.int .i64 cb,.int .i64 0,.int .i64 106,.int .i64 ce] 39);have KR:=Za.new w #[.int .i64 ca,.int .i64 cb,.int .i64 0,.int .i64 106,.int .i64 ce] 39;have hA1:=(At.begin hf).below hb1;obtain⟨p,hpt⟩:=hf.d.text.ptr;have c0:=hA1.hf.cell 0;have htx:=hA1.hf.d.text;rw[hpt]at c0 htx;have HT:=Zy (Wd.list htx Qn);have HI:=Zy hI;have HN:=Zy hn;have HA1:=Zy hA1;have HM:=Zy hm;have he:S.command W0 ⟨ca,cb,0,106,ce⟩=S.moved (qM S.XQ S.text ca 1):=by
  unfold SS.command;dsimp only;rw[if_neg QZ];rw[if_neg QZ];rw[if_neg QZ];rw[if_neg QZ];rw[if_neg QZ];rw[if_pos rfl]
 have HE:=Zy he;clear hI hn hf hb1 hA1 hpt htx he hm;go_enter Tryz.func63,Tryz.ntmps63
 go_wp2_with fail
 refine HT.out.mono ?_;rintro e w2 ⟨v,rfl,o2,hb2⟩;obtain⟨a2,n2,k2,rfl⟩:=o2.form;have hA2:=HA1.out.below hb2;obtain⟨d0,d1,d2,d3,d4⟩:=Za.five (KR.below hb2 KR.lt);clear c0 KR;obtain⟨la,ln,lc,sa,sn,sc,pa,pn,pc,hH,e37,e38,e39,e40,e41,e42⟩:=Kb hA2.hf;have M4:=hA2.hf.cell 37;have x38:=hA2.hf.cell 38;have x39:=hA2.hf.cell 39;have PG:=hA2.hf.cell 40;have R6:=hA2.hf.cell 41;have R5:=hA2.hf.cell 42;rw[e37]at M4;rw[e38]at x38;rw[e39]at x39;rw[e40]at PG;rw[e41]at R6;rw[e42]at R5;have hbd:Below w2.heap.size w2 w2.drew:=Zp.drew (ZH _ w2);have HU:=Zy (Tg _ _ _ _ _ _ S.XQ a2 n2 k2 ca S.text w2.drew (hH.below hbd).hir (o2.get.2.1.below hbd) o2.get.1 (o2.sl.get.2.2.2.2));have HA2:=Zy hA2;have HB2:=Zy hbd;clear hA2 o2 hb2 hH e37 e38 e39 e40 e41 e42 hbd;go_upto_region 15 with fail
 go_region_law (first|(go_simp;go_at_call 95;refine HU.out.mono ?_;rintro e w8 ⟨h8,l8,E8,VJ,lv,sv,pv,nv,rfl,T9,zx,XH⟩;obtain⟨a8,n8,k8,rfl⟩:=zx.form;have qf:=HA2.out.below (Zp.call XH HB2.out))|(go_simp;go_at_call 79;refine Calls.mono (WH _ _ B S lv sv pv h8 a8 n8 k8 l8 E8 w8 ⟨_,qf.hf⟩ (T9.lt.imp fun k hk=>Fx.new k hk) (zx.lt.imp fun k hk=>Fx.new k hk) (zx.len VJ.small) (Zf (Zf (Xn _ _) (Xn _ _)) HN.out)) ?_;rintro e w9 ⟨rfl,iG⟩))
 all_goals
  exact QIy
theorem En(W0:World)(F G:Nat->Prop)(B K:Nat)(S:SS)(ca cb cc cd ce:Int)(w:World)(h:YF F G w B S)(hI:Xz K S)(hm:S.mode=0)(hc:0<=ca/\ca<=999)(hK:K<=4398046511103)(hn:S.told.length+K+2<=4398046511103):
  Calls Tryz.prog 63 #[.pointer (some ⟨B,0,none⟩),.agg #[.int .i64 ca,.int .i64 cb,.int .i64 0,.int .i64 71,.int .i64 ce]] w (VP F G w B (S.command W0 ⟨ca,cb,0,71,ce⟩) YM):=by
 obtain⟨f,hf⟩:=h;have hb1:=ZR w (.cells #[.int .i64 ca,.int .i64 cb,.int .i64 0,.int .i64 71,.int .i64 ce] 39);have KR:=Za.new w #[.int .i64 ca,.int .i64 cb,.int .i64 0,.int .i64 71,.int .i64 ce] 39;have hA1:=(At.begin hf).below hb1;obtain⟨p,hpt⟩:=hf.d.text.ptr;have c0:=hA1.hf.cell 0;have htx:=hA1.hf.d.text;rw[hpt]at c0 htx;have HT:=Zy (Wd.list htx Qn);have HI:=Zy hI;have HN:=Zy hn;have HA1:=Zy hA1;have HM:=Zy hm;have he:S.command W0 ⟨ca,cb,0,71,ce⟩=S.moved (qM S.XQ S.text ca 0):=by
  unfold SS.command;dsimp only;rw[if_neg QZ];rw[if_neg QZ];rw[if_neg QZ];rw[if_neg QZ];rw[if_neg QZ];rw[if_neg QZ];rw[if_pos rfl]
 have HE:=Zy he;clear hI hn hf hb1 hA1 hpt htx he hm;go_enter Tryz.func63,Tryz.ntmps63
 go_wp2_with fail
 refine HT.out.mono ?_;rintro e w2 ⟨v,rfl,o2,hb2⟩;obtain⟨a2,n2,k2,rfl⟩:=o2.form;have hA2:=HA1.out.below hb2;obtain⟨d0,d1,d2,d3,d4⟩:=Za.five (KR.below hb2 KR.lt);clear c0 KR;obtain⟨la,ln,lc,sa,sn,sc,pa,pn,pc,hH,e37,e38,e39,e40,e41,e42⟩:=Kb hA2.hf;have M4:=hA2.hf.cell 37;have x38:=hA2.hf.cell 38;have x39:=hA2.hf.cell 39;have PG:=hA2.hf.cell 40;have R6:=hA2.hf.cell 41;have R5:=hA2.hf.cell 42;rw[e37]at M4;rw[e38]at x38;rw[e39]at x39;rw[e40]at PG;rw[e41]at R6;rw[e42]at R5;have hbd:Below w2.heap.size w2 w2.drew:=Zp.drew (ZH _ w2);have HU:=Zy (Tf _ _ _ _ _ _ S.XQ a2 n2 k2 ca S.text w2.drew (hH.below hbd).hir (o2.get.2.1.below hbd) o2.get.1 (o2.sl.get.2.2.2.2));have HA2:=Zy hA2;have HB2:=Zy hbd;clear hA2 o2 hb2 hH e37 e38 e39 e40 e41 e42 hbd;go_upto_region 17 with fail
 go_region_law (first|(go_simp;go_at_call 96;refine HU.out.mono ?_;rintro e w8 ⟨h8,l8,E8,VJ,lv,sv,pv,nv,rfl,T9,zx,XH⟩;obtain⟨a8,n8,k8,rfl⟩:=zx.form;have qf:=HA2.out.below (Zp.call XH HB2.out))|(go_simp;go_at_call 79;refine Calls.mono (WH _ _ B S lv sv pv h8 a8 n8 k8 l8 E8 w8 ⟨_,qf.hf⟩ (T9.lt.imp fun k hk=>Fx.new k hk) (zx.lt.imp fun k hk=>Fx.new k hk) (zx.len VJ.small) (Zf (Zf (Xn _ _) (Xn _ _)) HN.out)) ?_;rintro e w9 ⟨rfl,iG⟩))
 all_goals
  exact QIy
theorem Eg(W0:World)(F G:Nat->Prop)(B K:Nat)(S:SS)(ca cb cc cd ce:Int)(w:World)(h:YF F G w B S)(hI:Xz K S)(hm:S.mode=0)(hc:0<=ca/\ca<=999)(hK:K<=4398046511103)(hn:S.told.length+K+2<=4398046511103):
  Calls Tryz.prog 63 #[.pointer (some ⟨B,0,none⟩),.agg #[.int .i64 ca,.int .i64 cb,.int .i64 0,.int .i64 110,.int .i64 ce]] w (VP F G w B (S.command W0 ⟨ca,cb,0,110,ce⟩) YM):=by
 obtain⟨f,hf⟩:=h;have hb1:=ZR w (.cells #[.int .i64 ca,.int .i64 cb,.int .i64 0,.int .i64 110,.int .i64 ce] 39);have KR:=Za.new w #[.int .i64 ca,.int .i64 cb,.int .i64 0,.int .i64 110,.int .i64 ce] 39;have hA1:=(At.begin hf).below hb1;obtain⟨p,hpt⟩:=hf.d.text.ptr;have c0:=hA1.hf.cell 0;have htx:=hA1.hf.d.text;rw[hpt]at c0 htx;have HT:=Zy (Wd.list htx Qn);have HI:=Zy hI;have HN:=Zy hn;have HA1:=Zy hA1;have HM:=Zy hm;have he:S.command W0 ⟨ca,cb,0,110,ce⟩=S.moved (DL S.XQ S.text false):=by
  exact QIW
 have HE:=Zy he;clear hI hn hf hb1 hA1 hpt htx he hm;go_enter Tryz.func63,Tryz.ntmps63
 go_wp2_with fail
 refine HT.out.mono ?_;rintro e w2 ⟨v,rfl,o2,hb2⟩;obtain⟨a2,n2,k2,rfl⟩:=o2.form;have hA2:=HA1.out.below hb2;obtain⟨d0,d1,d2,d3,d4⟩:=Za.five (KR.below hb2 KR.lt);clear c0 KR;obtain⟨la,ln,lc,sa,sn,sc,pa,pn,pc,hH,e37,e38,e39,e40,e41,e42⟩:=Kb hA2.hf;have M4:=hA2.hf.cell 37;have x38:=hA2.hf.cell 38;have x39:=hA2.hf.cell 39;have PG:=hA2.hf.cell 40;have R6:=hA2.hf.cell 41;have R5:=hA2.hf.cell 42;rw[e37]at M4;rw[e38]at x38;rw[e39]at x39;rw[e40]at PG;rw[e41]at R6;rw[e42]at R5;have hbd:Below w2.heap.size w2 w2.drew:=Zp.drew (ZH _ w2);have HU:=Zy (BI _ _ _ _ _ _ S.XQ a2 n2 k2 S.text false w2.drew (hH.below hbd).hir (o2.get.2.1.below hbd) o2.get.1 (o2.sl.get.2.2.2.2));exact QGb
theorem Em(W0:World)(F G:Nat->Prop)(B K:Nat)(S:SS)(ca cb cc cd ce:Int)(w:World)(h:YF F G w B S)(hI:Xz K S)(hm:S.mode=0)(hc:0<=ca/\ca<=999)(hK:K<=4398046511103)(hn:S.told.length+K+2<=4398046511103):
  Calls Tryz.prog 63 #[.pointer (some ⟨B,0,none⟩),.agg #[.int .i64 ca,.int .i64 cb,.int .i64 0,.int .i64 78,.int .i64 ce]] w (VP F G w B (S.command W0 ⟨ca,cb,0,78,ce⟩) YM):=by
 obtain⟨f,hf⟩:=h;have hb1:=ZR w (.cells #[.int .i64 ca,.int .i64 cb,.int .i64 0,.int .i64 78,.int .i64 ce] 39);have KR:=Za.new w #[.int .i64 ca,.int .i64 cb,.int .i64 0,.int .i64 78,.int .i64 ce] 39;have hA1:=(At.begin hf).below hb1;obtain⟨p,hpt⟩:=hf.d.text.ptr;have c0:=hA1.hf.cell 0;have htx:=hA1.hf.d.text;rw[hpt]at c0 htx;have HT:=Zy (Wd.list htx Qn);have HI:=Zy hI;have HN:=Zy hn;have HA1:=Zy hA1;have HM:=Zy hm;have he:S.command W0 ⟨ca,cb,0,78,ce⟩=S.moved (DL S.XQ S.text true):=by
  exact QIW
 have HE:=Zy he;clear hI hn hf hb1 hA1 hpt htx he hm;go_enter Tryz.func63,Tryz.ntmps63
 go_wp2_with fail
 refine HT.out.mono ?_;rintro e w2 ⟨v,rfl,o2,hb2⟩;obtain⟨a2,n2,k2,rfl⟩:=o2.form;have hA2:=HA1.out.below hb2;obtain⟨d0,d1,d2,d3,d4⟩:=Za.five (KR.below hb2 KR.lt);clear c0 KR;obtain⟨la,ln,lc,sa,sn,sc,pa,pn,pc,hH,e37,e38,e39,e40,e41,e42⟩:=Kb hA2.hf;have M4:=hA2.hf.cell 37;have x38:=hA2.hf.cell 38;have x39:=hA2.hf.cell 39;have PG:=hA2.hf.cell 40;have R6:=hA2.hf.cell 41;have R5:=hA2.hf.cell 42;rw[e37]at M4;rw[e38]at x38;rw[e39]at x39;rw[e40]at PG;rw[e41]at R6;rw[e42]at R5;have hbd:Below w2.heap.size w2 w2.drew:=Zp.drew (ZH _ w2);have HU:=Zy (BI _ _ _ _ _ _ S.XQ a2 n2 k2 S.text true w2.drew (hH.below hbd).hir (o2.get.2.1.below hbd) o2.get.1 (o2.sl.get.2.2.2.2));exact QGb
theorem NU(W0:World)(F G:Nat->Prop)(B K:Nat)(S:SS)(c:C5)(w:World)(h:YF F G w B S)(hI:Xz K S)(hm:S.mode=0)(hc:Km c)(hK:K<=4398046511103)(hn:S.told.length+K+2<=4398046511103):
  Calls Tryz.prog 63 #[.pointer (some ⟨B,0,none⟩),.agg #[.int .i64 c.a,.int .i64 c.b,.int .i64 c.c,.int .i64 c.d,.int .i64 c.e]] w (VP F G w B (S.command W0 c) YM):=by
 obtain⟨ca,cb,cc,cd,ce⟩:=c;by_cases h0:cc≠0
 ·exact CE W0 F G B K S ca cb cc cd ce w h hI hm hc hK hn h0
 obtain rfl:cc=0:=Z5 h0;by_cases h1:cd=117
 ·subst h1;exact Ef W0 F G B K S ca cb 0 117 ce w h hI hm hc hK hn
 by_cases h2:cd=85
 ·subst h2;exact El W0 F G B K S ca cb 0 85 ce w h hI hm hc hK hn
 by_cases h3:cd=46
 ·subst h3;exact AQ W0 F G B K S ca cb 0 46 ce w h hI hm hc hK hn
 by_cases h4:cd=107
 ·subst h4;exact Eh W0 F G B K S ca cb 0 107 ce w h hI hm hc hK hn
 by_cases h5:cd=106
 ·subst h5;exact Ei W0 F G B K S ca cb 0 106 ce w h hI hm hc hK hn
 by_cases h6:cd=71
 ·subst h6;exact En W0 F G B K S ca cb 0 71 ce w h hI hm hc hK hn
 by_cases h7:cd=110
 ·subst h7;exact Eg W0 F G B K S ca cb 0 110 ce w h hI hm hc hK hn
 by_cases h8:cd=78
 ·subst h8;exact Em W0 F G B K S ca cb 0 78 ce w h hI hm hc hK hn
 by_cases h9:cd=47
 ·subst h9;exact CB W0 F G B K S ca cb 0 47 ce w h hI hm hc hK hn
 by_cases h10:cd=63
 ·subst h10;exact Cv W0 F G B K S ca cb 0 63 ce w h hI hm hc hK hn
 exact uC W0 F G B K S ca cb 0 cd ce w h hI hm hc hK hn h1 h2 h3 h4 h5 h6 h7 h8 h9 h10
theorem Yn.init{F:Nat->Prop}{w:World}{a:Option Addr}{m c:Nat}{xs:List Int}(h:Yn F w (.slice a (m+1) c) xs):Yn F w (.slice a m c) xs.dropLast:=by
 obtain⟨g1,g2,g3,g4,g5⟩:=h.get;obtain⟨a',n',c',e,k1,k2,k3,k4,k5,k6⟩:=h;simp only[Xy]at e;obtain⟨rfl,rfl,rfl⟩:=e;refine⟨a,m,c,rfl,by simp[g1],QQ,g3,?_,fun e=>by have:=g5 e;omega,fun ad e h0=>k6 ad e QQ⟩;rcases g4 with g4|⟨b,o,e,hc⟩
 ·subst g4;simp at g1
 ·refine .inr ⟨b,o,e,fun i hi=>?_⟩
  rw[List.length_dropLast]at hi;rw[hc i QQ,Ya QQ,Ya QY,List.getElem_dropLast]
theorem Eo(F G:Nat->Prop)(B:Nat)(S:SS)(w:World)(h:YF F G w B S):
  Calls Tryz.prog 57 #[.pointer (some ⟨B,0,none⟩),.int .i64 27] w (VP F G w B {S with mode:=0} YM):=by
 obtain⟨f,hf⟩:=h;have hA:=At.begin hf;obtain⟨c2,z2⟩:=hf.m.blk.at 2;have HA:=Zy (hA.store (S':={S with mode:=0}) 2 (.int .i64 0) {hA.hf.d with mode:=rfl});clear hf hA;go_enter Tryz.func57,Tryz.ntmps57
 exact QLz
theorem IB(F G:Nat->Prop)(B:Nat)(S:SS)(key:Int)(w:World)(h:YF F G w B S)(hk:key=8\/key=127)(hl:S.ask.length<=200):
  Calls Tryz.prog 57 #[.pointer (some ⟨B,0,none⟩),.int .i64 key] w (VP F G w B (if S.ask.length=0 then {S with mode:=0}else {S with ask:=S.ask.dropLast}) YM):=by
 obtain⟨f,hf⟩:=h;have hA:=At.begin hf;obtain⟨qa,qn,qc,e48⟩:=hf.d.ask.form;have qN:=hf.d.ask;rw[e48]at qN;obtain⟨c48,z48⟩:=hf.m.blk.at 48;obtain⟨c2,z2⟩:=hf.m.blk.at 2;rw[e48]at c48;obtain⟨g1,g2,g3,g4,g5⟩:=qN.get;rcases qn with _|m
 ·have HA:=Zy (hA.store (S':={S with mode:=0}) 2 (.int .i64 0) {hA.hf.d with mode:=rfl})
  rw[if_pos g1];clear hf hA qN g1 g2 g3 g4 g5 hl e48;rcases hk with rfl|rfl
  all_goals
   go_enter Tryz.func57,Tryz.ntmps57
   exact QLz
 ·have HA:=Zy (hA.drew.store (S':={S with ask:=S.ask.dropLast}) 48 (.slice qa m qc) {hA.drew.hf.d with ask:=qN.init.drew})
  rw[if_neg QQ];have hm2:m+1<=200:=QQ;have hmc:m<=qc:=QQ;have hm1:((m+1:Nat):Int)-1=(m:Int):=QQ;have iw:IntKind.i64.wrap (((m+1:Nat):Int)-1)=(m:Int):=QDJ;have hn0:(((m+1:Nat):Int)==0)=false:=QY;clear hf hA qN g1 g2 g4 g5 hl e48;rcases hk with rfl|rfl
  all_goals
   go_enter Tryz.func57,Tryz.ntmps57
   go_upto_region 9 with fail
   go_region
   all_goals
    exact QLz
theorem CG(F G:Nat->Prop)(B:Nat)(S:SS)(key:Int)(w:World)(h:YF F G w B S)(h1:key≠13)(h2:key≠10)(h3:key≠27)(h4:key≠8)(h5:key≠127)(h6:key<32\/S.ask.length=200)(hn:S.told.length<=4398046511103):
  Calls Tryz.prog 57 #[.pointer (some ⟨B,0,none⟩),.int .i64 key] w (VP F G w B S.Y2 YM):=by
 have HB:=Zy (U9 F G B S w h hn);obtain⟨f,hf⟩:=h;obtain⟨qa,qn,qc,e48⟩:=hf.d.ask.form;have qN:=hf.d.ask;rw[e48]at qN;obtain⟨c48,-⟩:=hf.m.blk.at 48;rw[e48]at c48;have g1:=qN.get.1;have k1:(key==13)=false:=QEX;have k2:(key==10)=false:=QEZ;have k3:(key==27)=false:=QEQ;have k4:(key==8)=false:=QEa;have k5:(key==127)=false:=by simpa using h5
 by_cases h32:key<32
 ·clear hf qN e48 g1 h6 h1 h2 h3 h4 h5 hn
  exact QMZ
 ·obtain rfl:qn=200:=by omega
  clear hf qN e48 g1 h6 h1 h2 h3 h4 h5 hn;exact QMZ
theorem Ep(F G:Nat->Prop)(B:Nat)(S:SS)(key:Int)(w:World)(h:YF F G w B S)(h5:key≠127)(h6:32<=key)(h7:S.ask.length<200):
  Calls Tryz.prog 57 #[.pointer (some ⟨B,0,none⟩),.int .i64 key] w (VP F G w B {S with ask:=S.ask++[key]} YM):=by
 obtain⟨f,hf⟩:=h;have hA:=At.begin hf;obtain⟨qa,qn,qc,e48⟩:=hf.d.ask.form;have qN:=hf.d.ask;rw[e48]at qN;obtain⟨c48,-⟩:=hf.m.blk.at 48;rw[e48]at c48;obtain⟨g1,g2,g3,g4,g5⟩:=qN.get;have k1:(key==13)=false:=QY;have k2:(key==10)=false:=QY;have k3:(key==27)=false:=QY;have k4:(key==8)=false:=QY;have k5:(key==127)=false:=by simpa using h5
 have k6:¬key<32:=QQ;have k7:((qn:Int)==200)=false:=QY;have HC:=Zy (XY qa qn qc S.ask w g4 g1 QQ g5);have HA:=Zy hA;have HQ:=Zy g1;have h7':qn<200:=QQ;clear hf hA qN e48 g1 g2 g3 g4 g5 h5 h7;go_enter Tryz.func57,Tryz.ntmps57
 go_wp2_with (first|(go_at_call 31;refine HC.out.mono ?_;rintro e w2 ⟨v,rfl,o2,hb2⟩;obtain⟨a2,n2,m2,rfl⟩:=o2.form;have hz2:=hb2.size)|(at_builtin;refine app1 rfl _ _ rfl w.heap.size (.slice a2 n2 m2) _ key _ rfl rfl (o2.alloc _) (JQ _ _ _) (by have:=HQ.out;omega) (XJ hz2 _) ?_;intro v4 w4 o4 hg4;have hb4:Below w.heap.size w w4:=Zp.own (o2.alloc (.cells #[.int .i64 key] 3)) hg4 (Zp.alloc hb2);have UY:=HA.out.below hb4;obtain⟨x48,z48⟩:=UY.hf.m.blk.at 48;obtain⟨a4,n4,m4,rfl⟩:=o4.form))
 go_end0
 have UY:=HA.out.below hb4;exact⟨rfl,(UY.store (S':={S with ask:=S.ask++[key]}) 48 (.slice a4 n4 m4) {UY.hf.d with ask:=o4.uX.lt.imp fun k hk=>Fx.new k hk}).done⟩
theorem dW(F G:Nat->Prop)(B K:Nat)(S:SS)(key:Int)(w:World)(h:YF F G w B S)(hI:Xz K S)(hn:S.told.length<=4398046511103):
  Calls Tryz.prog 57 #[.pointer (some ⟨B,0,none⟩),.int .i64 key] w (VP F G w B (S.asked key) YM):=by
 by_cases h1:key=13\/key=10
 ·exact CF F G B K S key w h hI h1 hn
 by_cases h2:key=27
 ·subst h2
  have he:S.asked 27={S with mode:=0}:=by unfold SS.asked;rw[if_neg QZ,if_pos rfl]
  rw[he];exact Eo F G B S w h
 by_cases h3:key=8\/key=127
 ·have he:S.asked key=(if S.ask.length=0 then {S with mode:=0}else {S with ask:=S.ask.dropLast}):=by unfold SS.asked;rw[if_neg h1,if_neg h2,if_pos h3]
  rw[he];exact IB F G B S key w h h3 hI.al
 by_cases h4:key<32\/S.ask.length=200
 ·have he:S.asked key=S.Y2:=by unfold SS.asked;rw[if_neg h1,if_neg h2,if_neg h3,if_pos h4]
  rw[he];exact CG F G B S key w h QQ QQ h2 QQ QQ h4 hn
 ·have he:S.asked key={S with ask:=S.ask++[key]}:=by unfold SS.asked;rw[if_neg h1,if_neg h2,if_neg h3,if_neg h4]
  rw[he];exact Ep F G B S key w h QQ QQ (by have:=hI.al;omega)
theorem QYa{f r o s key cnt:Int}(hc:(if o≠0 then s else f)=cnt)(h:Ml cnt key=true):Jw f r o s key=1:=by subst hc;unfold Jw;rw[if_pos h]
theorem QYT{f r o s key cnt:Int}(hc:(if o≠0 then s else f)=cnt)(h:Ml cnt key=false)(h2:Rq key=true):Jw f r o s key=3:=by
 subst hc;unfold Jw;rw[h,if_neg QJ,if_pos h2]
def kdW(r o key:Int):Int:=
 if moB key=true then 5 else if zA key=true then 4
 else if vB key=true then(if o≠0 then 8 else 6)else if o≠0 then 0
 else if key=34 then(if r≠0 then 0 else 2)else if key=114 then 7 else if plB key=true then 6 else 0
theorem QUc{f r o s key cnt:Int}(hc:(if o≠0 then s else f)=cnt)(h:Ml cnt key=false)(h2:Rq key=false):Jw f r o s key=kdW r o key:=by
 subst hc;unfold Jw kdW;rw[h,h2,if_neg QJ,if_neg QJ]
theorem Ye(f r o s wt key:Int)(w:World):
  Calls Tryz.prog 87 #[.agg #[.int .i64 f,.int .i64 r,.int .i64 o,.int .i64 s,.int .i64 wt],.int .i64 key] w fun e w'=>e=.returned (.int .i64 (Jw f r o s key))/\Below w.heap.size w w':=by
 have hA:=Za.new w #[.int .i64 f,.int .i64 r,.int .i64 o,.int .i64 s,.int .i64 wt] 44;have hacc:=ZR w (.cells #[.int .i64 f,.int .i64 r,.int .i64 o,.int .i64 s,.int .i64 wt] 44);obtain⟨cnt,hcnt⟩:∃cnt,(if o≠0 then s else f)=cnt:=⟨_,rfl⟩;have HC:=Zy hcnt;obtain⟨zo,ho⟩:=zOf o 0;have ho2:(o !=0)=!zo:=by rw[bne,ho]
 obtain⟨z48,h48⟩:=zOf key 48;have hz:(if zo=true then f else s)=cnt:=by
  rw[<-hcnt];subst ho;by_cases h:o=0<;>simp[h]
 clear hcnt;obtain⟨bd,hbd⟩:∃bd,Ml cnt key=bd:=⟨_,rfl⟩;have HBD:=Zy hbd;clear hbd;obtain⟨bo,RO⟩:∃bo,Rq key=bo:=⟨_,rfl⟩;have Mt:=Zy RO;clear RO;rcases zo with _|_<;>simp only[if_true,X3,Zt]at hz<;>subst hz<;>rcases z48 with _|_
 all_goals
  go_enter Tryz.func87,Tryz.ntmps87
  go_upto_region 4 with fail
  generalize w.alloc (.cells #[.int .i64 f,.int .i64 r,.int .i64 o,.int .i64 s,.int .i64 wt] 44)=w1 at *;obtain⟨c0,c1,c2,c3,c4⟩:=hA.five
  go_cut [13] (fun v wx=>v=.bool bd/\w1=wx)
  case first=>
   go_wp2
   all_goals
    go_meet;refine⟨XD Value.bool ?_,rfl⟩
    go_light
    rw[<-HBD.out];simp only[beq_iff_eq,XX,ne_eq]at h48;rw[Bool.eq_iff_iff];simp[Ml];omega
  obtain⟨rfl,rfl⟩:=hcut;rcases bd with _|_
  ·rcases bo with _|_
   ·go_wp2_with (go_at_call 125;refine(WV _ _).mono ?_;rintro e w' ⟨rfl,rfl⟩;rw[Mt.out])
    all_goals
     go_ret;refine⟨XE ?_,hacc⟩
     go_light
     rw[QUc HC.out HBD.out Mt.out];clear HC HBD Mt;simp only[beq_iff_eq,XX,bne_iff_ne,bne_eq_false_iff_eq,ne_eq]at *;simp[kdW,moB,zA,vB,plB, *]
   ·go_wp2_with (go_at_call 125;refine(WV _ _).mono ?_;rintro e w' ⟨rfl,rfl⟩;rw[Mt.out])
    go_ret;exact⟨XE (QYT HC.out HBD.out Mt.out).symm,hacc⟩
  ·go_wp2
   go_ret;exact⟨XE (QYa HC.out HBD.out).symm,hacc⟩
theorem XF.of{t:TK}{er:Int}{w w':World}(h:Below w.heap.size w w'):XF t er w (.returned (.tuple #[t.q,t.c,.int .i64 t.how,.int .i64 er])) w':=⟨rfl,h⟩
theorem QQ3{f r o s key:Int}(h:DZ key=true):VW f r o s 34 key=TK.more f key o s 0:=by unfold VW;rw[if_pos rfl,if_pos h]
theorem QQ4{f r o s key:Int}(h:DZ key=false):VW f r o s 34 key=TK.wrong:=by unfold VW;rw[if_pos rfl,h];rfl
theorem QQ1{f r o s wt key:Int}(h:vB wt=true)(h2:obB key=true):VW f r o s wt key=TK.done f r o s wt key:=by
 have:wt≠34:=by simp[vB]at h;omega
 unfold VW;rw[if_neg this,if_pos h,if_pos h2]
theorem QQ2{f r o s wt key:Int}(h:vB wt=true)(h2:obB key=false):VW f r o s wt key=TK.wrong:=by
 have:wt≠34:=by simp[vB]at h;omega
 unfold VW;rw[if_neg this,if_pos h,h2];rfl
theorem QQ0{f r o s wt key:Int}(h:vB wt=false)(h2:wt≠34):VW f r o s wt key=TK.done f r o s wt key:=by
 unfold VW;rw[if_neg h2,h];rfl
theorem uL(f r o s key:Int)(w:World):
  Calls Tryz.prog 86 #[.agg #[.int .i64 f,.int .i64 r,.int .i64 o,.int .i64 s,.int .i64 34],.int .i64 key] w (XF (VW f r o s 34 key) 0 w):=by
 have hacc:=fun c1 c2 c3=>yY w (.cells c1 44) (.cells c2 44) (.cells c3 39)
 obtain⟨bl,hbl⟩:∃bl,DZ key=bl:=⟨_,rfl⟩;have HL:=Zy hbl;clear hbl;rcases bl with _|_
 ·rw[QQ4 HL.out]
  go_enter Tryz.func86,Tryz.ntmps86
  go_wp2_with (go_at_call 124;refine(zW _ _).mono ?_;rintro e w' ⟨rfl,rfl⟩;rw[HL.out])
  exact QI6
 ·rw[QQ3 HL.out]
  go_enter Tryz.func86,Tryz.ntmps86
  go_wp2_with (go_at_call 124;refine(zW _ _).mono ?_;rintro e w' ⟨rfl,rfl⟩;rw[HL.out])
  exact ZC (v:=.tuple #[(TK.more f key o s 0).q,(TK.more f key o s 0).c,.int .i64 1,.int .i64 0]) (by simp[results,Tryz.results86,go_sem,TK.more,TK.q,TK.c]) rfl (XF.of (hacc _ _ _))
structure Ul (W wx:World) (B:Nat) (f r o s wt:Int):Prop where
 p:Za wx B #[.int .i64 f,.int .i64 r,.int .i64 o,.int .i64 s,.int .i64 wt] 44
 q:Za wx (B+1) #[.int .i64 0,.int .i64 0,.int .i64 0,.int .i64 0,.int .i64 0] 44
 c:Za wx (B+2) #[.int .i64 0,.int .i64 0,.int .i64 0,.int .i64 0,.int .i64 0] 39
 Xw:Below B W wx
theorem Ul.start(w:World)(f r o s wt:Int):
  Ul w (((w.alloc (.cells #[.int .i64 f,.int .i64 r,.int .i64 o,.int .i64 s,.int .i64 wt] 44)).alloc (.cells #[.int .i64 0,.int .i64 0,.int .i64 0,.int .i64 0,.int .i64 0] 44)).alloc (.cells #[.int .i64 0,.int .i64 0,.int .i64 0,.int .i64 0,.int .i64 0] 39)) w.heap.size f r o s wt:=by
 refine⟨((Za.new w _ _).alloc _).alloc _,?_,?_,yY w _ _ _⟩
 ·have:=(Za.new (w.alloc (.cells #[.int .i64 f,.int .i64 r,.int .i64 o,.int .i64 s,.int .i64 wt] 44)) #[.int .i64 0,.int .i64 0,.int .i64 0,.int .i64 0,.int .i64 0] 44)
  rw[Zu]at this;exact this.alloc _
 ·have:=(Za.new ((w.alloc (.cells #[.int .i64 f,.int .i64 r,.int .i64 o,.int .i64 s,.int .i64 wt] 44)).alloc (.cells #[.int .i64 0,.int .i64 0,.int .i64 0,.int .i64 0,.int .i64 0] 44)) #[.int .i64 0,.int .i64 0,.int .i64 0,.int .i64 0,.int .i64 0] 39)
  rw[Zu,Zu]at this;exact this
theorem Ul.below{W wx w9:World}{B:Nat}{f r o s wt:Int}(h:Ul W wx B f r o s wt)(hb:Below wx.heap.size wx w9):Ul W w9 B f r o s wt:=
 ⟨h.p.below hb h.p.lt,h.q.below hb h.q.lt,h.c.below hb h.c.lt,h.Xw.trans (hb.mono (Xh h.p.lt))⟩
theorem Ul.done{W wx:World}{B:Nat}{f r o s wt:Int}(h:Ul W wx B f r o s wt)(x0 x1 x2 x3 x4 y0 y1 y2 y3 y4:Value){we:World}
  (he:we=((((((((((wx.setCell ⟨B+1,0,none⟩ x0).setCell ⟨B+1,1,none⟩ x1).setCell ⟨B+1,2,none⟩ x2).setCell ⟨B+1,3,none⟩ x3).setCell ⟨B+1,4,none⟩ x4).setCell ⟨B+1+1,0,none⟩ y0).setCell ⟨B+1+1,1,none⟩ y1).setCell ⟨B+1+1,2,none⟩ y2).setCell ⟨B+1+1,3,none⟩ y3).setCell ⟨B+1+1,4,none⟩ y4)):
  Za we (B+1) #[x0,x1,x2,x3,x4] 44/\Za we (B+1+1) #[y0,y1,y2,y3,y4] 39/\Below B W we:=by
 subst he;have hne:∀i,B+1≠(⟨B+1+1,i,none⟩:Addr).block:=fun i=>QJ
 have hne2:∀i,B+1+1≠(⟨B+1,i,none⟩:Addr).block:=fun i=>QJ
 refine⟨?_,?_,Yg (Yg h.Xw QQ) QQ⟩
 ·exact(((((h.q.xX x0 x1 x2 x3 x4).other (hne _) _).other (hne _) _).other (hne _) _).other (hne _) _).other (hne _) _
 ·refine Za.xX (u0:=.int .i64 0) (u1:=.int .i64 0) (u2:=.int .i64 0) (u3:=.int .i64 0) (u4:=.int .i64 0) ?_ y0 y1 y2 y3 y4
  exact((((h.c.other (hne2 _) _).other (hne2 _) _).other (hne2 _) _).other (hne2 _) _).other (hne2 _) _
theorem kX(f r o s wt key:Int)(w:World)(hi:vB wt=false)(aY:wt≠34)(h1:0<=f)(h2:f<=999)(h3:0<=s)(h4:s<=999):
  Calls Tryz.prog 86 #[.agg #[.int .i64 f,.int .i64 r,.int .i64 o,.int .i64 s,.int .i64 wt],.int .i64 key] w (XF (VW f r o s wt key) 0 w):=by
 have hX:=Ul.start w f r o s wt;rw[QQ0 hi aY];have g1:(wt==34)=false:=by simpa using aY
 have g2:(wt==105)=false:=by simp[vB]at hi ⊢;omega
 have g3:(wt==97)=false:=by simp[vB]at hi ⊢;omega
 clear hi aY;exact QGT
theorem kY(f r o s wt key:Int)(w:World)(hi:wt=105\/wt=97)(hk:obB key=true)(h1:0<=f)(h2:f<=999)(h3:0<=s)(h4:s<=999):
  Calls Tryz.prog 86 #[.agg #[.int .i64 f,.int .i64 r,.int .i64 o,.int .i64 s,.int .i64 wt],.int .i64 key] w (XF (VW f r o s wt key) 0 w):=by
 have hX:=Ul.start w f r o s wt;rw[QQ1 (by simp[vB];omega) hk];have hk2:key=119\/key=87\/key=40\/key=41\/key=91\/key=93\/key=123\/key=125\/key=34\/key=39\/key=96:=by simpa[obB]using hk
 have g1:(wt==34)=false:=QY;obtain⟨z5,g2⟩:=zOf wt 105;have g3:(wt==97)=!z5:=by rw[<-g2];rcases hi with rfl|rfl<;>rfl
 clear hk hi;rcases z5 with _|_<;>rcases hk2 with h|h|h|h|h|h|h|h|h|h|h
 all_goals
  have q0:(key==119)=((_:Int)==119):=XD (fun x:Int=>x==119) h;have q1:(key==87)=((_:Int)==87):=XD (fun x:Int=>x==87) h;have q2:(key==40)=((_:Int)==40):=XD (fun x:Int=>x==40) h;have q3:(key==41)=((_:Int)==41):=XD (fun x:Int=>x==41) h;have q4:(key==91)=((_:Int)==91):=XD (fun x:Int=>x==91) h;have q5:(key==93)=((_:Int)==93):=XD (fun x:Int=>x==93) h;have q6:(key==123)=((_:Int)==123):=XD (fun x:Int=>x==123) h;have q7:(key==125)=((_:Int)==125):=XD (fun x:Int=>x==125) h;have q8:(key==34)=((_:Int)==34):=XD (fun x:Int=>x==34) h;have q9:(key==39)=((_:Int)==39):=XD (fun x:Int=>x==39) h;have q10:(key==96)=((_:Int)==96):=XD (fun x:Int=>x==96) h;clear h;exact QGT
theorem kJ(f r o s wt key:Int)(w:World)(hi:wt=105\/wt=97)(hk:obB key=false):
  Calls Tryz.prog 86 #[.agg #[.int .i64 f,.int .i64 r,.int .i64 o,.int .i64 s,.int .i64 wt],.int .i64 key] w (XF (VW f r o s wt key) 0 w):=by
 have hacc:=fun c1 c2 c3=>yY w (.cells c1 44) (.cells c2 44) (.cells c3 39)
 rw[QQ2 (by simp[vB];omega) hk];have hk2:key≠119/\key≠87/\key≠40/\key≠41/\key≠91/\key≠93/\key≠123/\key≠125/\key≠34/\key≠39/\key≠96:=by
  simpa[obB]using hk
 obtain⟨q0,q1,q2,q3,q4,q5,q6,q7,q8,q9,qa⟩:=hk2;rw[<-XX]at q0 q1 q2 q3 q4 q5 q6 q7 q8 q9 qa;have g1:(wt==34)=false:=QY;obtain⟨z5,g2⟩:=zOf wt 105;have g3:(wt==97)=!z5:=by rw[<-g2];rcases hi with rfl|rfl<;>rfl
 clear hk hi;rcases z5 with _|_
 all_goals
  go_enter Tryz.func86,Tryz.ntmps86
  go_wp2;exact QI6
theorem Gq(f r o s wt key:Int)(w:World)(h1:0<=f)(h2:f<=999)(h3:0<=s)(h4:s<=999):
  Calls Tryz.prog 86 #[.agg #[.int .i64 f,.int .i64 r,.int .i64 o,.int .i64 s,.int .i64 wt],.int .i64 key] w (XF (VW f r o s wt key) 0 w):=by
 by_cases aY:wt=34
 ·subst aY;exact uL _ _ _ _ _ _
 ·cases hi:vB wt with
  | false=>exact kX _ _ _ _ _ _ _ hi aY h1 h2 h3 h4
  | true=>
   have hw:wt=105\/wt=97:=by simpa[vB]using hi
   cases hk:obB key with
   | true=>exact kY _ _ _ _ _ _ _ hw hk h1 h2 h3 h4
   | false=>exact kJ _ _ _ _ _ _ _ hw hk
end Go.Proofs.YtmdnepkekekncaaGreat
